/- Tools. -/
import Derived.Test.YtlbojjldejlgaaaGreatVLiftY
import Derived.Shelf.RegionOpenPlain
import Derived.Lib.Walk
import Derived.Lib.SliceRun
import Derived.Lib.JoinLaws
import Derived.Lib.AppendZeros
import Derived.Lib.AppendZerosOnto
import Derived.Lib.Overlaps
import Derived.Laws.Externs
import Derived.Laws.IdiomCopy
import Derived.Laws.CopyRow
import Derived.Deep.WholeRow
set_option linter.unusedVariables false
namespace Go.Lift
open Go
variable {w:World}{X:Nat->Prop}{W:Map}
theorem LR{b o:Nat}{e:List Value}{d:Array Value}{t:TypeId}(h:w.heap[b]? =some (.cells d t (0,0)))(l:o+e.length<=d.size)(i: ∀v∈e,v.oneCell'=true):
  w.setCells b o e=w.setRow b (d.toList.take o++e++d.toList.drop (o+e.length)).toArray:=by
 have a:=run_storeCells_at (P:=(default:Program)) b o t e 0 d w h O i;have c:=run_storeCells_cells (P:=(default:Program)) b o e 0 w (λj k=>by
  have:o+j<d.size:=O
  simp[World.cell?,h,this]) (λj k=>by simp[World.frozen?,h]) i
 rw[a] at c;simp only[Nat.add_zero] at c;injection c with _ c;exact c.symm
theorem Cb{P:Program}{G:ef}{i:World}{a out:List E}{c:Map}{L:Nat}{d:S}{l:Act}{r:V}{u:Value}(v:Rel (Ctx.ec P G w X a.length c L) W d l i)(D:a.length<=out.length)
  (z:aS W i (own (Ctx.ec P G w X a.length c L) W d.H) r u) (p:r.ok (eg out.length)=true) (x:iZ d.H (eg out.length) (dy out 0)): ∃A,Left c A a out w i X r u:=by
 let m:S:={t:=m6,H:=dy out 0,u:=eg out.length}
 have o:j4 a.length m.u=true:=by
  have: ∀n,n<=a.length->j4 n m.u=true:=by
   intro n;induction n with
   |zero=>intro _;rfl
   |succ n B=>intro F;simp[j4,B O,show m.u n=true from gP.2 O]
  exact this _ (cL _)
 have bl:=v.cut (s':=m) (lK.nil _ _) x o;have dG:=Cm (K:=Ctx.ec P G w X a.length c L) (β:=W) (s:=d) (s':=m) x;refine⟨cut W m.u,?_⟩;refine⟨v.ext.weaken λb _ ⟨id,_,h⟩=>⟨id,h⟩,bl.base,bl.gI,?_,?_,bl.inj,bl.fresh,?_,z.under dG (λ_ h=>rQ h) p⟩
 ·intro k C;apply bl.cW;cases q:m.u k with
  |false=>rfl
  |true=>have:=gP.1 q;omega
 ·intro k b C;apply bl.du;cases q:m.u k with
  |false=>rfl
  |true=>have:=gP.1 q;omega
 intro k e y;exact(bl.heap k e (by rw[<-qF] at y;exact y)).2
structure XH (P:Program) (f:FuncId) (t e:TypeId) (sz:Nat) (i0:TypeInfo) (z:Value):Prop where
 nothing: ∀(base xm:Option Addr) (n c i ec:Nat) (w:World),i<=n->n<=c->c<=9223372036854775807->Calls P f #[.slice base n c,.int .i64 i,.slice xm 0 ec] w λe w'=>e= .returned (.slice base n c)/\w'=w
 tail: ∀(base xm:Option Addr) (n c m ec:Nat) (w:World) (c8:Value) (w':World),0<m->n<=c->c<=9223372036854775807->(Builtin.append_ #[t,t] t #[.slice base n c,.slice xm m ec]).run P w= .ok c8 w'->
  Calls P f #[.slice base n c,.int .i64 n,.slice xm m ec] w λe jE=>e= .returned c8/\jE=w'
 room: ∀(b n c i nO m ec:Nat) (cs vs:List Value) (w:World),i<n->0<m->n+m<=c->c<=9223372036854775807->nO≠b->cs.length=n*sz->vs.length=m*sz->
  (∀j v,cs[j]? =some v->w.cell? ⟨b,j,none⟩=some v)->(∀j,j<(n+m)*sz->(w.cell? ⟨b,j,none⟩).isSome=true)->(∀j,w.frozen? ⟨b,j,none⟩=false)->
  (∀j v,vs[j]? =some v->w.cell? ⟨nO,j,none⟩=some v)->(∀v∈cs,v.oneCell'=true)->(∀v∈vs,v.oneCell'=true)->
  ∀(W3 W4:TypeId) (H2 H3:Nat),w.shape? nO=some (W3,H2)->w.shape? b=some (W4,H3)->H3≠0->(∀j,w.frozen? ⟨nO,j,none⟩=false)->
  Calls P f #[.slice (some ⟨b,0,none⟩) n c,.int .i64 i,.slice (some ⟨nO,0,none⟩) m ec] w λe w'=>
   e= .returned (.slice (some ⟨b,0,none⟩) (n+m) c)/\w'=(w.drew.setCells b ((i+m)*sz) (cs.drop (i*sz))).setCells b (i*sz) vs
 grow: ∀(b n c i nO m ec:Nat) (cs vs:List Value) (w:World),i<n->0<m->n<=c->c<n+m->n+m<=1000000000->(n+m)*i0.bytes<=140737488355328->cs.length=n*sz->vs.length=m*sz->
  (∀j v,cs[j]? =some v->w.cell? ⟨b,j,none⟩=some v)->(∀j v,vs[j]? =some v->w.cell? ⟨nO,j,none⟩=some v)->(∀v∈cs,v.oneCell'=true)->(∀v∈vs,v.oneCell'=true)->
  Calls P f #[.slice (some ⟨b,0,none⟩) n c,.int .i64 i,.slice (some ⟨nO,0,none⟩) m ec] w λe' w'=>
   e'= .returned (.slice (some ⟨w.heap.size,0,none⟩) (n+m) (grownCap w (n+m) c e))/\
   w'=(((w.alloc (.cells ((cs.take (i*sz)).toArray++Builtin.zeroCells z.cells (n+m-i)++Builtin.zeroCells z.cells (grownCap w (n+m) c e-(n+m))) e)).drew.setCells w.heap.size (i*sz) vs).drew).setCells w.heap.size ((i+m)*sz) (cs.drop (i*sz))
theorem RL{k gen sz:Nat}{e:TypeId}{a:List (List T)}{x:Value}(A:b4 W w X k (.arr e gen sz a))(C:aS W w X (.aN k gen sz 0 a.length) x):
  (x= .slice none 0 0/\a=[]/\W k=some (none,gen))\/ ∃(b c:Nat) (d:Array Value),x= .slice (some ⟨b,0,none⟩) a.length c/\W k=some (some b,gen)/\w.heap[b]? =some (.cells d e (0,0))/\d.size=c*sz/\a.length<=c/\c<=maxLen/\
   ∀(i j:Nat) (l:List T) (y:T) (u:Value),a[i]? =some l->l[j]? =some y->(d.toList.take (a.length*sz))[i*sz+j]? =some u->b9 w X y u:=by
 obtain⟨q,m⟩:=hq A;rcases ei C m with ⟨c,b,n,D,rfl,rfl,L,h,r,F,s⟩|⟨rfl,_,v,rfl⟩
 ·rcases A.2 with ⟨o,_⟩|⟨Q,d,o,B,R,f,G⟩
  ·rw[m] at o;cases o
  rw[m] at o;cases o;have z:d.size=c*sz:=by
   unfold World.shape? at h;rw[B] at h;simp at h;rw[<-r] at h;rw[dn] at h;exact h.2
  refine .inr ⟨b,c,d,by rw[fe],m,B,z,F,s,λi j l y u H K p=>?_⟩;rw[fJ] at p;split at p
  ·exact G i j l y u H K (by simpa using p)
  cases p
 exact .inl ⟨rfl,iW v,m⟩
section runs
variable {P:Program}
open Go.RowKit Go.Lib
end runs
end Go.Lift

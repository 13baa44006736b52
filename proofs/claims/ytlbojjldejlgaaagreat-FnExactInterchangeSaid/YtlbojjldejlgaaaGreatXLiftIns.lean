/- Tools. -/
import Derived.Test.YtlbojjldejlgaaaGreatXLiftY
import Derived.Shelf.RegionOpenPlain
import Derived.Lib.Walk
import Derived.Lib.SliceRun
import Derived.Lib.JoinLaws
import Derived.Lib.AppendZeros
import Derived.Lib.AppendZerosOnto
import Derived.Lib.Overlaps
import Derived.Laws.Externs
import Derived.Laws.IdiomCopy
import Derived.Laws.CopyRow
import Derived.Deep.WholeRow
set_option linter.unusedVariables false
namespace Go.Lift
open Go
variable {w:World}{X:Nat->Prop}{W:Map}
theorem Ly{b o:Nat}{e:List Value}{d:Array Value}{t:TypeId}(h:w.heap[b]? =some (.cells d t (0,0)))(l:o+e.length<=d.size)(i: ∀v∈e,v.oneCell'=true):
  w.setCells b o e=w.setRow b (d.toList.take o++e++d.toList.drop (o+e.length)).toArray:=by
 have a:=run_storeCells_at (P:=(default:Program)) b o t e 0 d w h O i;have c:=run_storeCells_cells (P:=(default:Program)) b o e 0 w (λj k=>by
  have:o+j<d.size:=O
  simp[World.cell?,h,this]) (λj k=>by simp[World.frozen?,h]) i
 grind
theorem BW{P:Program}{G:ee}{i:World}{a out:List E}{c:Map}{L:Nat}{d:S}{l:Act}{r:V}{u:Value}(v:Rel (Ctx.ec P G w X a.length c L) W d l i)(D:a.length<=out.length)
  (z:aQ W i (own (Ctx.ec P G w X a.length c L) W d.H) r u) (p:r.ok (ef out.length)=true) (x:iV d.H (ef out.length) (dx out 0)): ∃A,Left c A a out w i X r u:=by
 let m:S:={t:=m5,H:=dx out 0,u:=ef out.length}
 have o:jV a.length m.u=true:=by
  have: ∀n,n<=a.length->jV n m.u=true:=by
   intro n;induction n with
   |zero=>intro _;rfl
   |succ n B=>intro F;simp[jV,B O,show m.u n=true from gN.2 O]
  grind
 have bj:=v.cut (s':=m) (lI.nil _ _) x o;have dE:=B8 (K:=Ctx.ec P G w X a.length c L) (β:=W) (s:=d) (s':=m) x;refine⟨cut W m.u,?_⟩;refine⟨v.ext.weaken λb _ ⟨id,_,h⟩=>⟨id,h⟩,bj.base,bj.gF,?_,?_,bj.inj,bj.fresh,?_,z.under dE (λ_ h=>rJ h) p⟩
 ·intro k C;apply bj.cU;cases q:m.u k with
  |false=>rfl
  |true=>have:=gN.1 q;omega
 ·intro k b C;apply bj.dt;cases q:m.u k with
  |false=>rfl
  |true=>have:=gN.1 q;omega
 intro k e y;exact(bj.heap k e (by rw[<-qB] at y;exact y)).2
structure W9 (P:Program) (f:FuncId) (t e:TypeId) (sz:Nat) (i0:TypeInfo) (z:Value):Prop where
 nothing: ∀(base xi:Option Addr) (n c i ec:Nat) (w:World),i<=n->n<=c->c<=9223372036854775807->Calls P f #[.slice base n c,.int .i64 i,.slice xi 0 ec] w λe w'=>e= .returned (.slice base n c)/\w'=w
 tail: ∀(base xi:Option Addr) (n c m ec:Nat) (w:World) (c7:Value) (w':World),0<m->n<=c->c<=9223372036854775807->(Builtin.append_ #[t,t] t #[.slice base n c,.slice xi m ec]).run P w= .ok c7 w'->
  Calls P f #[.slice base n c,.int .i64 n,.slice xi m ec] w λe jz=>e= .returned c7/\jz=w'
 room: ∀(b n c i nM m ec:Nat) (cs vs:List Value) (w:World),i<n->0<m->n+m<=c->c<=9223372036854775807->nM≠b->cs.length=n*sz->vs.length=m*sz->
  (∀j v,cs[j]? =some v->w.cell? ⟨b,j,none⟩=some v)->(∀j,j<(n+m)*sz->(w.cell? ⟨b,j,none⟩).isSome=true)->(∀j,w.frozen? ⟨b,j,none⟩=false)->
  (∀j v,vs[j]? =some v->w.cell? ⟨nM,j,none⟩=some v)->(∀v∈cs,v.oneCell'=true)->(∀v∈vs,v.oneCell'=true)->
  ∀(Wq Wr:TypeId) (Hy Hz:Nat),w.shape? nM=some (Wq,Hy)->w.shape? b=some (Wr,Hz)->Hz≠0->(∀j,w.frozen? ⟨nM,j,none⟩=false)->
  Calls P f #[.slice (some ⟨b,0,none⟩) n c,.int .i64 i,.slice (some ⟨nM,0,none⟩) m ec] w λe w'=>
   e= .returned (.slice (some ⟨b,0,none⟩) (n+m) c)/\w'=(w.drew.setCells b ((i+m)*sz) (cs.drop (i*sz))).setCells b (i*sz) vs
 grow: ∀(b n c i nM m ec:Nat) (cs vs:List Value) (w:World),i<n->0<m->n<=c->c<n+m->n+m<=1000000000->(n+m)*i0.bytes<=140737488355328->cs.length=n*sz->vs.length=m*sz->
  (∀j v,cs[j]? =some v->w.cell? ⟨b,j,none⟩=some v)->(∀j v,vs[j]? =some v->w.cell? ⟨nM,j,none⟩=some v)->(∀v∈cs,v.oneCell'=true)->(∀v∈vs,v.oneCell'=true)->
  Calls P f #[.slice (some ⟨b,0,none⟩) n c,.int .i64 i,.slice (some ⟨nM,0,none⟩) m ec] w λe' w'=>
   e'= .returned (.slice (some ⟨w.heap.size,0,none⟩) (n+m) (grownCap w (n+m) c e))/\
   w'=(((w.alloc (.cells ((cs.take (i*sz)).toArray++Builtin.zeroCells z.cells (n+m-i)++Builtin.zeroCells z.cells (grownCap w (n+m) c e-(n+m))) e)).drew.setCells w.heap.size (i*sz) vs).drew).setCells w.heap.size ((i+m)*sz) (cs.drop (i*sz))
theorem QQ{k gen sz:Nat}{e:TypeId}{a:List (List T)}{x:Value}(v:b4 W w X k (.arr e gen sz a))(z:aQ W w X (.aM k gen sz 0 a.length) x):
  (x= .slice none 0 0/\a=[]/\W k=some (none,gen))\/ ∃(b c:Nat) (d:Array Value),x= .slice (some ⟨b,0,none⟩) a.length c/\W k=some (some b,gen)/\w.heap[b]? =some (.cells d e (0,0))/\d.size=c*sz/\a.length<=c/\c<=maxLen/\
   ∀(i j:Nat) (h:List T) (y:T) (u:Value),a[i]? =some h->h[j]? =some y->(d.toList.take (a.length*sz))[i*sz+j]? =some u->b8 w X y u:=by
 obtain⟨q,l⟩:=hi v;rcases eh z l with ⟨c,b,n,A,rfl,rfl,F,o,B,C,p⟩|⟨rfl,_,r,rfl⟩
 ·rcases v.2 with ⟨m,_⟩|⟨G,d,m,D,H,K,L⟩
  ·rw[l] at m;cases m
  rw[l] at m;cases m;have s:d.size=c*sz:=by
   unfold World.shape? at o
   grind
  refine .inr ⟨b,c,d,by rw[fc],l,D,s,C,p,λi j h y u Q R f=>?_⟩
  grind
 exact .inl ⟨rfl,iQ r,l⟩
section runs
variable {P:Program}
open Go.RowKit Go.Lib
end runs
end Go.Lift

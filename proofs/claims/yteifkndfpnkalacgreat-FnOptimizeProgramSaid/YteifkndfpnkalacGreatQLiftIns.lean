/- Tools. -/
import Derived.Test.YteifkndfpnkalacGreatQLiftY
import Derived.Shelf.RegionOpenPlain
import Derived.Lib.Walk
import Derived.Lib.SliceRun
import Derived.Lib.JoinLaws
import Derived.Lib.AppendZeros
import Derived.Lib.AppendZerosOnto
import Derived.Lib.Overlaps
import Derived.Laws.Externs
import Derived.Laws.IdiomCopy
import Derived.Laws.CopyRow
import Derived.Deep.WholeRow
set_option linter.unusedVariables false
namespace Go.Lift
open Go
open Option renaming some -> aa, none -> aj
variable {w:World}{X:Nat->Prop}
theorem Rel.move{K:Ctx}{β:Map}{s:S}{a:Act}(h:Rel K β s a w)(k:Nat)(o:TypeId)(gen d:Nat)(l:List (List T))(y:s.H k=aa (.arr o gen d l))(m:Array Value)(c:List (List T))
  (n:c.length*d<=m.size) (p: ∀e,e∈c->e.length=d) (q: ∀(i j:Nat) (e:List T) (x:T) (u:Value),c[i]? =aa e->e[j]? =aa x->m[i*d+j]? =aa u->dh w (own K β s.H) x u):
  Rel K (β.put k (aa (aa w.heap.size,gen+1))) {s with H:=bc s.H k (aa (.arr o (gen+1) d c))} a (w.alloc (.cells m o)):=
 h.Q7 k _ _ gen y rfl m o (λz C F A B _ _ r _=>by subst A;exact⟨O,.inr ⟨w.heap.size,m,B,lf _ _,n,p,λi j e x u aS a2 a3=>r _ _ (q i j e x u aS a2 a3)⟩⟩)
theorem UD{b o:Nat}{i:List Value}{d:Array Value}{t:TypeId}(e:w.heap[b]? =aa (.cells d t (0,0)))(l:o+i.length<=d.size)(h: ∀v∈i,v.oneCell'=true):
  w.setCells b o i=w.setRow b (d.toList.take o++i++d.toList.drop (o+i.length)).toArray:=by
 have a:=run_storeCells_at (P:=(default:Program)) b o t i 0 d w e O h;have c:=run_storeCells_cells (P:=(default:Program)) b o i 0 w (λj k=>by
  have:o+j<d.size:=O
  simp[World.cell?,e,this]) (λj k=>by simp[World.frozen?,e]) h
 rw[a] at c;simp only[Nat.add_zero] at c;injection c with _ c;exact c.symm
theorem DW{P:Program}{G:fq}{d:World}{a out:List E}{U T:Map}{i:Nat}{c:S}{l:Act}{r:V}{u:Value}(x:Rel (Ctx.fo P G w X a.length U i) T c l d)(L:a.length<=out.length)
  (A:bp T d (own (Ctx.fo P G w X a.length U i) T c.H) r u) (p:r.ok (fh out.length)=true) (y:lD c.H (fh out.length) (fw out 0)): ∃B,Left U B a out w d X r u:=by
 let m:S:={t:=pX,H:=fw out 0,u:=fh out.length}
 have o:mH a.length m.u=true:=by
  have: ∀n,n<=a.length->mH n m.u=true:=by
   intro n;induction n with
   |zero=>intro _;rfl
   |succ n C=>intro Q;simp[mH,C O,show m.u n=true from ju.2 O]
  exact this _ (cV _)
 have bN:=x.cut (s':=m) (o4.nil _ _) y o;have ew:=Eb (K:=Ctx.fo P G w X a.length U i) (β:=T) (s:=c) (s':=m) y;refine⟨cut T m.u,?_⟩;refine⟨x.ext.weaken λb _ ⟨id,_,h⟩=>⟨id,h⟩,bN.base,bN.j1,?_,?_,bN.inj,bN.fresh,?_,A.under ew (λ_ h=>wX h) p⟩
 ·intro k F;apply bN.eh;cases q:m.u k with
  |false=>rfl
  |true=>have:=ju.1 q;omega
 ·intro k b F;apply bN.eQ;cases q:m.u k with
  |false=>rfl
  |true=>have:=ju.1 q;omega
 intro k e z;exact(bN.heap k e (by rw[<-yr] at z;exact z)).2
structure ah4 (P:Program) (f:FuncId) (t e:TypeId) (sz:Nat) (i0:TypeInfo) (z:Value):Prop where
 nothing: ∀(base Di:Option Addr) (n c i fo:Nat) (w:World),i<=n->n<=c->c<=9223372036854775807->Calls P f #[.slice base n c,.int .i64 i,.slice Di 0 fo] w λe w'=>e= .returned (.slice base n c)/\w'=w
 tail: ∀(base Di:Option Addr) (n c m fo:Nat) (w:World) (dO:Value) (w':World),0<m->n<=c->c<=9223372036854775807->(Builtin.append_ #[t,t] t #[.slice base n c,.slice Di m fo]).run P w= .ok dO w'->
  Calls P f #[.slice base n c,.int .i64 n,.slice Di m fo] w λe ir=>e= .returned dO/\ir=w'
 room: ∀(b n c i nP m fo:Nat) (cs vs:List Value) (w:World),i<n->0<m->n+m<=c->c<=9223372036854775807->nP≠b->cs.length=n*sz->vs.length=m*sz->
  (∀j v,cs[j]? =aa v->w.cell? ⟨b,j,aj⟩=aa v)->(∀j,j<(n+m)*sz->(w.cell? ⟨b,j,aj⟩).isSome=true)->(∀j,w.frozen? ⟨b,j,aj⟩=false)->
  (∀j v,vs[j]? =aa v->w.cell? ⟨nP,j,aj⟩=aa v)->(∀v∈cs,v.oneCell'=true)->(∀v∈vs,v.oneCell'=true)->
  ∀(ajt aju:TypeId) (Q1 Q2:Nat),w.shape? nP=aa (ajt,Q1)->w.shape? b=aa (aju,Q2)->Q2≠0->(∀j,w.frozen? ⟨nP,j,aj⟩=false)->
  Calls P f #[.slice (aa ⟨b,0,aj⟩) n c,.int .i64 i,.slice (aa ⟨nP,0,aj⟩) m fo] w λe w'=>
   e= .returned (.slice (aa ⟨b,0,aj⟩) (n+m) c)/\w'=(w.drew.setCells b ((i+m)*sz) (cs.drop (i*sz))).setCells b (i*sz) vs
 grow: ∀(b n c i nP m fo:Nat) (cs vs:List Value) (w:World),i<n->0<m->n<=c->c<n+m->n+m<=1000000000->(n+m)*i0.bytes<=140737488355328->cs.length=n*sz->vs.length=m*sz->
  (∀j v,cs[j]? =aa v->w.cell? ⟨b,j,aj⟩=aa v)->(∀j v,vs[j]? =aa v->w.cell? ⟨nP,j,aj⟩=aa v)->(∀v∈cs,v.oneCell'=true)->(∀v∈vs,v.oneCell'=true)->
  Calls P f #[.slice (aa ⟨b,0,aj⟩) n c,.int .i64 i,.slice (aa ⟨nP,0,aj⟩) m fo] w λe' w'=>
   e'= .returned (.slice (aa ⟨w.heap.size,0,aj⟩) (n+m) (grownCap w (n+m) c e))/\
   w'=(((w.alloc (.cells ((cs.take (i*sz)).toArray++Builtin.zeroCells z.cells (n+m-i)++Builtin.zeroCells z.cells (grownCap w (n+m) c e-(n+m))) e)).drew.setCells w.heap.size (i*sz) vs).drew).setCells w.heap.size ((i+m)*sz) (cs.drop (i*sz))
theorem acm{U:Map}{m gen sz:Nat}{e:TypeId}{a:List (List T)}{x:Value}(B:cN U w X m (.arr e gen sz a))(F:bp U w X (.bn m gen sz 0 a.length) x):
  (x= .slice aj 0 0/\a=[]/\U m=aa (aj,gen))\/ ∃(b c:Nat) (d:Array Value),x= .slice (aa ⟨b,0,aj⟩) a.length c/\U m=aa (aa b,gen)/\w.heap[b]? =aa (.cells d e (0,0))/\d.size=c*sz/\a.length<=c/\c<=maxLen/\
   ∀(i j:Nat) (k:List T) (y:T) (u:Value),a[i]? =aa k->k[j]? =aa y->(d.toList.take (a.length*sz))[i*sz+j]? =aa u->dh w X y u:=by
 obtain⟨q,l⟩:=l3 B;rcases fY F l with ⟨c,b,n,G,rfl,rfl,R,h,r,H,s⟩|⟨rfl,_,z,rfl⟩
 ·rcases B.2 with ⟨o,_⟩|⟨W,d,o,C,Z,f,K⟩
  ·rw[l] at o;cases o
  rw[l] at o;cases o;have A:d.size=c*sz:=by
   unfold World.shape? at h;rw[C] at h;simp at h;rw[<-r] at h;rw[eg] at h;exact h.2
  refine .inr ⟨b,c,d,by rw[iq],l,C,A,H,s,λi j k y u L Q p=>?_⟩;rw[hS] at p;split at p
  ·exact K i j k y u L Q (by simpa using p)
  cases p
 exact .inl ⟨rfl,nH z,l⟩
section runs
variable {P:Program}
open Go.RowKit Go.Lib
end runs
end Go.Lift

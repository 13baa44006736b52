/- Tools. -/
import Derived.Test.YtlklcemjbgpcnaaGreatOLiftY
import Derived.Shelf.RegionOpenPlain
import Derived.Lib.Walk
import Derived.Lib.SliceRun
import Derived.Lib.JoinLaws
import Derived.Lib.AppendZeros
import Derived.Lib.AppendZerosOnto
import Derived.Lib.Overlaps
import Derived.Laws.Externs
import Derived.Laws.IdiomCopy
import Derived.Laws.CopyRow
import Derived.Deep.WholeRow
set_option linter.unusedVariables false
namespace Go.Lift
open Go
open Option renaming some -> aa, none -> aj
open Bool renaming true -> ab, false -> ak
open List renaming length_append -> hn, length_take -> kI, length_drop -> lj
open Go.Builtin renaming zeroCells -> ea, append_ -> iX
open Go.World renaming shape? -> gj
variable {K:Ctx}{β:Map}{s:S}{a:Act}{w c:World}{t e:TypeId}{u:TypeDesc}{z:Value}{gen size b m n sz:Nat}{o:Oper}{G:fe}{X:Nat->Prop}{vs:List Value}{f:FuncId}{Q:Exit->Act->World->Prop}
theorem Rel.move(h:Rel K β s a w)(k:Nat)(y:TypeId)(gen d:Nat)(C:List (List T))(f:s.H k=aa (.arr y gen d C))(z:Array Value)(c:List (List T))
  (D:c.length*d<=z.size) (t: ∀m,m∈c->m.length=d) (E: ∀(i j:Nat) (m:List T) (x:T) (u:Value),c[i]? =aa m->m[j]? =aa x->z[i*d+j]? =aa u->cV w (own K β s.H) x u):
  Rel K (β.put k (aa (aa w.heap.size,gen+1))) {s with H:=aZ s.H k (aa (.arr y (gen+1) d c))} a (w.alloc (.cells z y)):=by
 have l: ∀X,Ext X w (w.alloc (.cells z y)):=λX=>Ext.alloc X w _;have F:s.u k=ab:=(h.heap k _ f).1;obtain⟨V,G⟩:=kx (h.heap k _ f).2;have L:=(h.heap k _ f).2.1;have n: ∀id b,At (β.put k (aa (aa w.heap.size,gen+1))) id b->(id=k/\b=w.heap.size)\/At β id b:=λid b a1=>by
  rcases a1 with ⟨g,a1⟩|a1
  ·by_cases p:id=k
   ·subst p;rw[iG] at a1;cases a1;exact .inl ⟨rfl,rfl⟩
   rw[eS _ _ _ _ p] at a1;exact .inr (.inl ⟨g,a1⟩)
  exact .inr (.inr a1)
 have q: ∀b,b<w.heap.size->own K (β.put k (aa (aa w.heap.size,gen+1))) (aZ s.H k (aa (.arr y (gen+1) d c))) b->own K β s.H b:=by
  rintro b hlt (I|⟨id,B,Q⟩)
  ·exact .inl I
  rcases n id b Q with ⟨rfl,rfl⟩|A
  ·omega
  refine .inr ⟨id,λM=>?_,A⟩;by_cases p:id=k
  ·subst p;rw[f] at M;cases M
  rw[cg _ _ _ _ p] at B;exact B M
 have R:Shaped β w (w.alloc (.cells z y)):=f8 (l _);have W:=Ct V (aa w.heap.size) L G;have N: ∀v u,bt β w (own K β s.H) v u->bt (β.put k (aa (aa w.heap.size,gen+1))) (w.alloc (.cells z y)) (own K (β.put k (aa (aa w.heap.size,gen+1))) (aZ s.H k (aa (.arr y (gen+1) d c)))) v u:=
  λv u bZ=>bZ.mono (l _) q W R
 refine {ext:=h.ext.trans ((l λ_=>False).weaken λ_ _ h=>h.elim),oY:=h.oY,o7:=h.o7,jK:=h.jK,rs:=h.rs,base:= ?_,jm:=h.jm.ext h.ext.size (l _),low:=h.low,dT:= ?_,ev:=λid b hid=>h.ev id b hid,inj:= ?_,fresh:= ?_,heap:= ?_,dB:=λi=>N _ _ (h.dB i),nt:=h.nt,defers:=h.defers}
 ·exact h.base.grow k gen V (aa w.heap.size) G L (iG _ _ _) (λb a1=>by cases a1;exact .inr h.ext.size) λid p=>eS _ _ _ _ p
 ·intro id hid;have r:s.u id=ak:=hid;by_cases e:id=k
  ·subst e;rw[F] at r;cases r
  rw[eS _ _ _ _ e];exact h.dT id r
 ·intro id U b B Q;rcases n id b B with ⟨rfl,rfl⟩|A<;>rcases n U _ Q with ⟨rfl,e⟩|Y
  ·rfl
  ·have:=(h.fresh _ _ Y).2;omega
  ·subst e;have:=(h.fresh _ _ A).2;omega
  exact h.inj _ _ _ A Y
 ·intro id b a1;rcases n id b a1 with ⟨rfl,rfl⟩|A
  ·exact⟨.inr h.ext.size,a7⟩
  exact⟨(h.fresh _ _ A).1,by have:=(h.fresh _ _ A).2;simp;omega⟩
 intro id e' o;have o:aZ s.H k (aa (.arr y (gen+1) d c)) id=aa e':=o;show s.u id=ab/\cY _ _ (own K _ (aZ s.H k (aa (.arr y (gen+1) d c)))) id e';by_cases p:id=k
 ·subst p;rw[cd] at o;cases o;refine⟨F,O,Or.inr ⟨w.heap.size,z,cd _ _ _,jQ _ _,D,t,λi j m x u aL a2 a3=>(E i j m x u aL a2 a3).mono (l _) q⟩⟩
 rw[cg _ _ _ _ p] at o;obtain⟨B,Q⟩:=h.heap id e' o;refine⟨B,Q.mono (l _) q W (λx I=>by rw[eS _ _ _ _ p];exact I) R λb a1=>heap_alloc _ _ _ (h.fresh id b a1).2⟩
theorem Rel.bump(h:Rel K β s a w)(k:Nat)(z:TypeId)(gen c:Nat)(d:List (List T))(q:Option Nat)(A:β k=aa (q,gen))(G:s.H k=aa (.arr z gen c d)):
  Rel K (β.put k (aa (q,gen+1))) {s with H:=aZ s.H k (aa (.arr z (gen+1) c d))} a w:=by
 have B:s.u k=ab:=(h.heap k _ G).1;have C:=(h.heap k _ G).2.1;have l: ∀id b,At (β.put k (aa (q,gen+1))) id b->At β id b:=λid b a1=>by
  rcases a1 with ⟨g,a1⟩|a1
  ·by_cases o:id=k
   ·subst o;rw[iG] at a1;cases a1;exact .inl ⟨gen,A⟩
   rw[eS _ _ _ _ o] at a1;exact .inl ⟨g,a1⟩
  exact .inr a1
 have p: ∀b,own K (β.put k (aa (q,gen+1))) (aZ s.H k (aa (.arr z (gen+1) c d))) b->own K β s.H b:=by
  rintro b (L|⟨id,n,y⟩)
  ·exact .inl L
  refine .inr ⟨id,λQ=>?_,l id b y⟩;by_cases o:id=k
  ·subst o;rw[G] at Q;cases Q
  rw[cg _ _ _ _ o] at n;exact n Q
 have D:=Ct q q C A;refine {h with base:= ?_,dT:= ?_,inj:= ?_,fresh:=λid b a1=>h.fresh id b (l id b a1),heap:= ?_,dB:=λi=>(h.dB i).mono (Ext.refl _ _) (λb _=>p b) D (Shaped.refl _ _)}
 ·exact h.base.grow k gen q q A C (cd _ _ _) (λb a1=> .inl a1) λid o=>eS _ _ _ _ o
 ·intro id hid;have r:s.u id=ak:=hid;by_cases e:id=k
  ·subst e;rw[B] at r;cases r
  rw[eS _ _ _ _ e];exact h.dT id r
 ·intro id F b n y;exact h.inj id F b (l id b n) (l F b y)
 intro id e' m;have m:aZ s.H k (aa (.arr z (gen+1) c d)) id=aa e':=m;show s.u id=ab/\cY _ _ (own K _ (aZ s.H k (aa (.arr z (gen+1) c d)))) id e';by_cases o:id=k
 ·subst o;rw[cd] at m;cases m;refine⟨B,O,?_⟩;rcases(h.heap id _ G).2.2 with ⟨n,y⟩|⟨b,W,n,y,X,f,t⟩
  ·rw[A] at n;cases n;exact .inl ⟨cd _ _ _,y⟩
  rw[A] at n;cases n;exact .inr ⟨b,W,cd _ _ _,y,X,f,λi j R x u aL a2 a3=>(t i j R x u aL a2 a3).mono (Ext.refl _ _) λb _=>p b⟩
 rw[cg _ _ _ _ o] at m;obtain⟨n,y⟩:=h.heap id e' m;exact⟨n,y.mono (Ext.refl _ _) (λb _=>p b) D (λx L=>by rw[eS _ _ _ _ o];exact L) (Shaped.refl _ _) λ_ _=>rfl⟩
theorem Rel.append{g:Nat}(h:Rel K β s a w)(k:Nat)(c d:List (List T))(hk:s.H k=aa (.arr e gen size c))(ty:TypeId)
  (hu:K.P.underlying t=aa (.slice e)) (he:cr K.P e u z size g) (o1:z.cells.size=size) (hs: ∀l,l∈c->l.length=size) (hs': ∀l,l∈d->l.length=size) (v x:Value) (bZ:bt β w (own K β s.H) (.bo k gen size 0 c.length) v)
  (hx:Src w (own K β s.H) size d x\/(d=[]/\ ∃gF p,x= .slice gF 0 p)) (a1:(c.length+d.length)*g<=140737488355328) (hm:c.length+d.length<=maxLen):
  ∃dC w' r,(iX #[t,t] ty #[v,x]).run K.P w= .ok dC w'/\Rel K r {s with H:=aZ s.H k (aa (.arr e (gen+1) size (c++d)))} a w'/\
   bt r w' (own K r (aZ s.H k (aa (.arr e (gen+1) size (c++d))))) (.bo k (gen+1) size 0 (c.length+d.length)) dC:=by
 obtain⟨q,hq⟩:=kx (h.heap k _ hk).2;have jc:=(h.heap k _ hk).2.1;obtain⟨_,i,E,hi2,W,rl⟩:=id he;have hm':c.length+d.length<=9223372036854775807:=by unfold maxLen at hm;omega
 have hE:=(h.heap k _ hk).2.2;have y6: ∀l,l∈c++d->l.length=size:=λl rn=>by
  rcases eY.1 rn with h|h
  ·exact hs l h
  exact hs' l h
 -- nothing is appended
 have L:d=[]-> ∀gF p,x= .slice gF 0 p-> ∃dC w' r,(iX #[t,t] ty #[v,x]).run K.P w= .ok dC w'/\Rel K r {s with H:=aZ s.H k (aa (.arr e (gen+1) size (c++d)))} a w'/\
   bt r w' (own K r (aZ s.H k (aa (.arr e (gen+1) size (c++d))))) (.bo k (gen+1) size 0 (c.length+d.length)) dC:=by
  intro cK gF p F;subst cK;subst F;rw[jq];refine⟨v,w,_,?_,h.bump k e gen size c q hq hk,?_⟩
  ·rcases fl bZ hq with ⟨yG,b,n,jn,rfl,G,hw,C,X,cC,ly⟩|⟨G,_,_,rfl⟩
   ·cases gF<;>simp[iX,run_underlying hu,sizeOf,typeInfo,E,Builtin.lenOf,Builtin.firstCells,cC,storeCells,loadCells,loadCellsFrom]
   cases gF<;>simp[iX,run_underlying hu,sizeOf,typeInfo,E,Builtin.lenOf,Builtin.firstCells,loadCells,loadCellsFrom]
  simp only[List.length_nil,Nat.add_zero];rcases fl bZ hq with ⟨yG,b,n,jn,rfl,G,hw,C,X,cC,ly⟩|⟨G,_,y1,rfl⟩
  ·subst G;exact .bo k (gen+1) size 0 _ yG b n jn O (cd _ _ _) hw C X cC ly
  subst G;rw[y1];exact .hb k (gen+1) size O (cd _ _ _)
 rcases hx with (⟨F,X⟩|⟨cB,off,I,A,F,Q,y',lC,hwr⟩)|⟨cK,gF,p,F⟩
 ·exact L X aj 0 F
 ·by_cases nT:d=[]
  ·subst nT;exact L rfl _ _ F
  have aiL:0<d.length:=List.length_pos_iff.2 nT;have M: ∀j y,A[j]? =aa y->w.cell? ((⟨cB,off,aj⟩:Addr).add j)=aa y:=λj y hy=>by rw[jA];exact y' j y hy
  have k2:(c.length+d.length)*i.bytes<=140737488355328:=by rw[rl];exact a1
  -- the rows that lie there
  have finish: ∀(f:List Value) (m:Nat),f.length=c.length*size->c.length+d.length<=m->m<=maxLen->(∀(i j:Nat) (l:List T) (x:T) (u:Value),c[i]? =aa l->l[j]? =aa x->f[i*size+j]? =aa u->cV w (own K β s.H) x u)->
    ∃r,Rel K r {s with H:=aZ s.H k (aa (.arr e (gen+1) size (c++d)))} a (w.drew.alloc (.cells (f.toArray++A.toArray++ea z.cells (m-(c.length+d.length))) e))/\
     bt r (w.drew.alloc (.cells (f.toArray++A.toArray++ea z.cells (m-(c.length+d.length))) e)) (own K r (aZ s.H k (aa (.arr e (gen+1) size (c++d))))) (.bo k (gen+1) size 0 (c.length+d.length)) (.slice (aa ⟨w.heap.size,0,aj⟩) (c.length+d.length) m):=by
   intro f m p4 N hcm Ko;have U:(f.toArray++A.toArray++ea z.cells (m-(c.length+d.length))).size=m*size:=by
    simp only[Array.size_append,List.size_toArray,size_zeroCells,o1,p4,Q,<-Nat.add_mul];congr 1;omega
   have tn:=(uA h).move k e gen size c hk (f.toArray++A.toArray++ea z.cells (m-(c.length+d.length))) (c++d)
    (by rw[U,dm];exact dU _ N) y6
    (λi j l x u aL a2 a3=>xw f A (ea z.cells (m-(c.length+d.length))).toList rfl p4 Q hs hs' (R:=λx u=>cV w.drew (own K β s.H) x u) (λi j l x u dd cB fi=>(Ko i j l x u dd cB fi).mono (Ext.drew _ _) λ_ _ h=>h)
     (λi j l x u dd cB fi=>(hwr i j l x u dd cB fi).mono (Ext.drew _ _) λ_ _ h=>h) i j l x u aL a2 (by simpa[<-Array.getElem?_toList] using a3))
   refine⟨_,tn,?_⟩;have V:bt (β.put k (aa (aa w.heap.size,gen+1))) (w.drew.alloc (.cells (f.toArray++A.toArray++ea z.cells (m-(c.length+d.length))) e)) (own K (β.put k (aa (aa w.heap.size,gen+1))) (aZ s.H k (aa (.arr e (gen+1) size (c++d))))) (.bo k (gen+1) size 0 (c.length+d.length)) (.slice (aa ⟨w.heap.size,0*size,aj⟩) (c.length+d.length) m):=by
    have rm:=jQ w.drew (.cells (f.toArray++A.toArray++ea z.cells (m-(c.length+d.length))) e);refine .bo k (gen+1) size 0 _ m w.heap.size (m*size) e O (cd _ _ _) a7 ?_ (by rw[dI]) N hcm;have Kg:(w.drew.alloc (.cells (f.toArray++A.toArray++ea z.cells (m-(c.length+d.length))) e)).heap[w.heap.size]? =aa (.cells (f.toArray++A.toArray++ea z.cells (m-(c.length+d.length))) e):=rm;unfold gj;rw[Kg];simp only[U]
   rw[gQ] at V;exact V
  subst F;rcases fl bZ hq with ⟨p,b,n,jn,rfl,G,hw,C,X,cC,ly⟩|⟨G,_,Kf,rfl⟩
  rotate_left
  ·have p2:c=[]:=ns Kf;subst p2;have B:=run_append_nil (P:=K.P) w t ty e i z hu E hi2 ⟨cB,off,aj⟩ d.length I A (by rw[W];exact Q) M aiL O (by simp at k2;omega);obtain⟨r,f1,f2⟩:=finish [] (grownCap w d.length 0 e) a7 (by simpa using grownCap_ge w d.length 0 e) (grownCap_le_maxLen w _ 0 e (by unfold maxLen;simp at hm';omega)) λi j l x u h1 _ _=>by simp at h1
   simp only[List.length_nil,Nat.zero_add] at f1 f2⊢;exact⟨_,_,r,by rw[B];simp,f1,f2⟩
  subst G;rcases hE with ⟨g1,_⟩|⟨hr,o,g1,g2,g3,g4,g5⟩
  ·rw[hq] at g1;cases g1
  rw[hq] at g1;cases g1;have lx:o.size=p*size:=by
   unfold gj at C;rw[g2] at C;simp at C;rw[<-X] at C;rw[dI] at C;exact C.2
  have ts:(o.toList.take (c.length*size)).length=c.length*size:=b6
  have mh: ∀(i j:Nat) (l:List T) (x:T) (u:Value),c[i]? =aa l->l[j]? =aa x->(o.toList.take (c.length*size))[i*size+j]? =aa u->cV w (own K β s.H) x u:=by
   intro i j l x u h1 h2 h3;rw[gC] at h3;split at h3
   ·exact g5 i j l x u h1 h2 (by simpa using h3)
   cases h3
  simp only[Nat.zero_mul];by_cases D:c.length+d.length<=p
  ·have nS:c.length*size+A.length<=o.size:=by rw[Q,lx,<-ed];exact dU _ D
   have B:=run_append_room (P:=K.P) w t ty e i hu E b c.length p o g2 ⟨cB,off,aj⟩ d.length I A (by rw[W];exact Q) M lC D (by rw[W];exact nS);rw[W] at B;have Y:(o.toList.take (c.length*size)++A++o.toList.drop (c.length*size+A.length)).toArray.size=o.size:=by
    simp;omega
   have hrel:=h.setRow k b (.inl ⟨_,hq⟩) o e g2 (o.toList.take (c.length*size)++A++o.toList.drop (c.length*size+A.length)).toArray Y (.arr e gen size (c++d)) (by rw[hk];simp)
    ⟨jc,Or.inr ⟨b,_,hq,setRow_heap _ _ _ _ _ _ g2,by rw[Y,lx,dm];exact dU _ D,y6,
     λi j l x u aL a2 a3=>by
      have h9:=xw (o.toList.take (c.length*size)) A (o.toList.drop (c.length*size+A.length)) rfl ts Q hs hs' (R:=λx u=>cV w (own K β s.H) x u) mh hwr i j l x u aL a2 (by simpa using a3);refine h9.mono ⟨rfl,rfl,rfl,a7,λkk _ hx=>setRow_other _ _ _ _ λe0=>hx ?_⟩ λ_ _ h=>h;subst e0;exact .inr ⟨k,by rw[hk];simp,.inl ⟨_,hq⟩⟩⟩⟩
   have y4:=hrel.bump k e gen size (c++d) (aa b) hq (cd _ _ _);have yT:aZ (aZ s.H k (aa (.arr e gen size (c++d)))) k (aa (.arr e (gen+1) size (c++d)))=aZ s.H k (aa (.arr e (gen+1) size (c++d))):=by
    funext j;by_cases hj:j=k
    ·subst hj;rw[cd,cd]
    rw[cg _ _ _ _ hj,cg _ _ _ _ hj,cg _ _ _ _ hj]
   simp only[yT] at y4;refine⟨_,_,_,B,y4,?_⟩;have V:bt (β.put k (aa (aa b,gen+1))) (w.setRow b (o.toList.take (c.length*size)++A++o.toList.drop (c.length*size+A.length)).toArray) (own K (β.put k (aa (aa b,gen+1))) (aZ s.H k (aa (.arr e (gen+1) size (c++d))))) (.bo k (gen+1) size 0 (c.length+d.length)) (.slice (aa ⟨b,0*size,aj⟩) (c.length+d.length) p):=by
    refine .bo k (gen+1) size 0 _ p b (p*size) e O (cd _ _ _) (by simpa using hw) ?_ (by rw[dI]) D ly;unfold gj;rw[setRow_heap _ _ _ _ _ _ g2];simp only[Y,lx]
   rw[gQ] at V;exact V
  have holds: ∀j u,(o.toList.take (c.length*size))[j]? =aa u->w.cell? ((⟨b,0,aj⟩:Addr).add j)=aa u:=by
   intro j u hj;rw[jA,dI];rw[gC] at hj;split at hj
   ·simp only[World.cell?,g2];simpa using hj
   cases hj
  have B:=run_append_grow (P:=K.P) w t ty e i z hu E hi2 ⟨b,0,aj⟩ c.length p (o.toList.take (c.length*size)) (by rw[W];exact ts) holds ⟨cB,off,aj⟩ d.length I A (by rw[W];exact Q) M O O (growslice_fits O k2);obtain⟨r,f1,f2⟩:=finish (o.toList.take (c.length*size)) (grownCap w (c.length+d.length) p e) ts (grownCap_ge w _ p e) (grownCap_le_maxLen w _ p e hm) mh;exact⟨_,_,r,B,f1,f2⟩
 exact L cK gF p F
theorem zC{o:Nat}{e:List Value}{d:Array Value}(h:w.heap[b]? =aa (.cells d t (0,0)))(l:o+e.length<=d.size)(i: ∀v∈e,v.oneCell'=ab):
  w.setCells b o e=w.setRow b (d.toList.take o++e++d.toList.drop (o+e.length)).toArray:=by
 have a:=run_storeCells_at (P:=(default:Program)) b o t e 0 d w h O i;have c:=run_storeCells_cells (P:=(default:Program)) b o e 0 w (λj k=>by
  have:o+j<d.size:=O
  simp[World.cell?,h,this]) (λj k=>by simp[World.frozen?,h]) i
 rw[a] at c;simp only[Nat.add_zero] at c;injection c with _ c;exact c.symm
theorem Fk{P:Program}{i:World}{a out:List E}{c U:Map}{d:S}{l:Act}{r:V}{u:Value}(y:Rel (Ctx.dL P G w X a.length c m) U d l i)(L:a.length<=out.length)
  (B:bt U i (own (Ctx.dL P G w X a.length c m) U d.H) r u) (q:r.ok (d6 out.length)=ab) (z:lV d.H (d6 out.length) (er out 0)): ∃C,Left c C a out w i X r u:=by
 let o:S:={t:=ql,H:=er out 0,u:=d6 out.length}
 have p:nb a.length o.u=ab:=by
  have: ∀n,n<=a.length->nb n o.u=ab:=by
   intro n;induction n with
   |zero=>intro _;rfl
   |succ n D=>intro Q;simp[nb,D O,show o.u n=ab from jx.2 O]
  exact this _ (da _)
 have bS:=y.cut (s':=o) (pJ.nil _ _) z p;have et:=F' (K:=Ctx.dL P G w X a.length c m) (β:=U) (s:=d) (s':=o) z;refine⟨cut U o.u,?_⟩;refine⟨y.ext.weaken λb _ ⟨id,_,h⟩=>⟨id,h⟩,bS.base,bS.jm,?_,?_,bS.inj,bS.fresh,?_,B.under et (λ_ h=>yl h) q⟩
 ·intro k F;apply bS.dT;cases x:o.u k with
  |false=>rfl
  |true=>have:=jx.1 x;omega
 ·intro k b F;apply bS.ev;cases x:o.u k with
  |false=>rfl
  |true=>have:=jx.1 x;omega
 intro k e A;exact(bS.heap k e (by rw[<-wQ] at A;exact A)).2
structure A4 (P:Program) (f:FuncId) (t e:TypeId) (sz:Nat) (i0:TypeInfo) (z:Value):Prop where
 nothing: ∀(base E3:Option Addr) (n c i dL:Nat) (w:World),i<=n->n<=c->c<=9223372036854775807->Calls P f #[.slice base n c,.int .i64 i,.slice E3 0 dL] w λe w'=>e= .returned (.slice base n c)/\w'=w
 tail: ∀(base E3:Option Addr) (n c m dL:Nat) (w:World) (dC:Value) (w':World),0<m->n<=c->c<=9223372036854775807->(iX #[t,t] t #[.slice base n c,.slice E3 m dL]).run P w= .ok dC w'->
  Calls P f #[.slice base n c,.int .i64 n,.slice E3 m dL] w λe fO=>e= .returned dC/\fO=w'
 room: ∀(b n c i ir m dL:Nat) (cs vs:List Value) (w:World),i<n->0<m->n+m<=c->c<=9223372036854775807->ir≠b->cs.length=n*sz->vs.length=m*sz->
  (∀j v,cs[j]? =aa v->w.cell? ⟨b,j,aj⟩=aa v)->(∀j,j<(n+m)*sz->(w.cell? ⟨b,j,aj⟩).isSome=ab)->(∀j,w.frozen? ⟨b,j,aj⟩=ak)->
  (∀j v,vs[j]? =aa v->w.cell? ⟨ir,j,aj⟩=aa v)->(∀v∈cs,v.oneCell'=ab)->(∀v∈vs,v.oneCell'=ab)->
  ∀(amb uc:TypeId) (fM S9:Nat),w.shape? ir=aa (amb,fM)->w.shape? b=aa (uc,S9)->S9≠0->(∀j,w.frozen? ⟨ir,j,aj⟩=ak)->
  Calls P f #[.slice (aa ⟨b,0,aj⟩) n c,.int .i64 i,.slice (aa ⟨ir,0,aj⟩) m dL] w λe w'=>
   e= .returned (.slice (aa ⟨b,0,aj⟩) (n+m) c)/\w'=(w.drew.setCells b ((i+m)*sz) (cs.drop (i*sz))).setCells b (i*sz) vs
 grow: ∀(b n c i ir m dL:Nat) (cs vs:List Value) (w:World),i<n->0<m->n<=c->c<n+m->n+m<=1000000000->(n+m)*i0.bytes<=140737488355328->cs.length=n*sz->vs.length=m*sz->
  (∀j v,cs[j]? =aa v->w.cell? ⟨b,j,aj⟩=aa v)->(∀j v,vs[j]? =aa v->w.cell? ⟨ir,j,aj⟩=aa v)->(∀v∈cs,v.oneCell'=ab)->(∀v∈vs,v.oneCell'=ab)->
  Calls P f #[.slice (aa ⟨b,0,aj⟩) n c,.int .i64 i,.slice (aa ⟨ir,0,aj⟩) m dL] w λe' w'=>
   e'= .returned (.slice (aa ⟨w.heap.size,0,aj⟩) (n+m) (grownCap w (n+m) c e))/\
   w'=(((w.alloc (.cells ((cs.take (i*sz)).toArray++ea z.cells (n+m-i)++ea z.cells (grownCap w (n+m) c e-(n+m))) e)).drew.setCells w.heap.size (i*sz) vs).drew).setCells w.heap.size ((i+m)*sz) (cs.drop (i*sz))
theorem O4{i:Nat}{s v:List (List T)}{a b rest:List Value}(q:s.length=n)(r:i<=n)(w:a.length=n*m)(e:b.length=v.length*m)(l:Rows m s)(d:Rows m v){R:T->Value->Prop}
  (o: ∀(i j:Nat) (c:List T) (x:T) (u:Value),s[i]? =aa c->c[j]? =aa x->a[i*m+j]? =aa u->R x u)
  (y: ∀(i j:Nat) (c:List T) (x:T) (u:Value),v[i]? =aa c->c[j]? =aa x->b[i*m+j]? =aa u->R x u):
  ∀(k j:Nat) (c:List T) (x:T) (u:Value),(s.take i++v++s.drop i)[k]? =aa c->c[j]? =aa x->(a.take (i*m)++b++a.drop (i*m)++rest)[k*m+j]? =aa u->R x u:=by
 have p:Rows m (s.take i):=λc h=>l c (gP h);have z:Rows m (s.drop i):=λc h=>l c (fN h);have A:=dU m r;have B:=xw (a.take (i*m)) b [] (rows:=s.take i) (news:=v) (n:=i) (size:=m) (by rw[c7];omega) (by rw[c7];omega) e p d (R:=R)
  (λk j c x u aL a2 a3=>by
   rw[gC] at aL a3;split at aL
   ·split at a3
    ·exact o k j c x u aL a2 a3
    cases a3
   cases aL) y
 have dQ:=xw (a.take (i*m)++b) (a.drop (i*m)) rest (rows:=s.take i++v) (news:=s.drop i) (n:=i+v.length) (size:=m) (by rw[dm,c7];omega)
  (by rw[dm,c7,e,ed];omega) (by rw[fY,fY,w,q,Nat.sub_mul]) (λc h=>by
   rcases eY.1 h with h|h
   ·exact p c h
   exact d c h) z (R:=R) (λk j c x u aL a2 a3=>B k j c x u aL a2 (by simpa using a3))
  (λk j c x u aL a2 a3=>by
   rw[gq] at aL a3;refine o (i+k) j c x u aL a2 ?_;rw[ed,qu];exact a3)
 intro k j c x u aL a2 a3;exact dQ k j c x u aL a2 (by simpa using a3)
theorem Nk{c:Nat}{a:Array Value}(e:w.heap[b]? =aa (.cells a t (0,0))): ∀j v,(a.toList.take (n*size))[j]? =aa v->w.cell? ⟨b,j,aj⟩=aa v:=by
 intro j v d;rw[gC] at d;split at d
 ·simp only[World.cell?,e];simpa using d
 cases d
theorem Ij{G:Map}{a:List (List T)}{x:Value}(B:cY G w X m (.arr e gen sz a))(D:bt G w X (.bo m gen sz 0 a.length) x):
  (x= .slice aj 0 0/\a=[]/\G m=aa (aj,gen))\/ ∃(b c:Nat) (d:Array Value),x= .slice (aa ⟨b,0,aj⟩) a.length c/\G m=aa (aa b,gen)/\w.heap[b]? =aa (.cells d e (0,0))/\d.size=c*sz/\a.length<=c/\c<=maxLen/\
   ∀(i j:Nat) (k:List T) (y:T) (u:Value),a[i]? =aa k->k[j]? =aa y->(d.toList.take (a.length*sz))[i*sz+j]? =aa u->cV w X y u:=by
 obtain⟨q,l⟩:=kx B;rcases fl D l with ⟨c,b,n,F,rfl,rfl,R,h,r,H,s⟩|⟨rfl,_,z,rfl⟩
 ·rcases B.2 with ⟨o,_⟩|⟨W,d,o,C,f,g,K⟩
  ·rw[l] at o;cases o
  rw[l] at o;cases o;have A:d.size=c*sz:=by
   unfold gj at h;rw[C] at h;simp at h;rw[<-r] at h;rw[dI] at h;exact h.2
  refine .inr ⟨b,c,d,by rw[gQ],l,C,A,H,s,λi j k y u L Q p=>?_⟩;rw[gC] at p;split at p
  ·exact K i j k y u L Q (by simpa using p)
  cases p
 exact .inl ⟨rfl,ns z,l⟩
theorem NC{a:List (List T)}{b:List Value}(e:0<sz)(m:Rows sz a)(n:b.length=a.length*sz)
  (o: ∀(i j:Nat) (c:List T) (y:T) (u:Value),a[i]? =aa c->c[j]? =aa y->b[i*sz+j]? =aa u->cV w X y u): ∀v∈b,v.oneCell'=ab:=by
 intro v p;obtain⟨k,h⟩:=j1.1 p;have d:k<a.length*sz:=by rw[<-n];exact(b5.1 h).1
 have l:k / sz<a.length:=(xa e).2 d;have q:k%sz<(a[k / sz]).length:=by rw[m _ (gg l)];exact Nat.mod_lt _ e
 exact(o (k / sz) (k%sz) _ ((a[k / sz])[k%sz]) v (bu l) (bu q) (by rw[Nat.div_add_mod'];exact h)).jF
theorem aeB{cur cs:List Value}{a k:Nat}(i:a<=k)(c:cs=cur.take k)(l:vs.length=m)(n:k+m<=cur.length):
  let b:=cur.take (a+m)++cs.drop a++cur.drop (a+m+(cs.drop a).length)
  b.take a++vs++b.drop (a+vs.length)=cs.take a++vs++cs.drop a++cur.drop (k+m):=by
 intro b;have d:cs.length=k:=by rw[c,c7];omega
 have e:b.take a=cs.take a:=by
  show((cur.take (a+m)++cs.drop a)++_).take a=_;rw[fF,r1 (by rw[c7];omega),List.take_take,c,List.take_take];congr 1;omega
 have h:b.drop (a+vs.length)=cs.drop a++cur.drop (k+m):=by
  show((cur.take (a+m)++cs.drop a)++_).drop _=_;rw[fF,K6 (by rw[c7];omega),kE (by rw[c7];omega),rY];congr 2;rw[fY];omega
 rw[e,h];simp
theorem aeA{A0 ds:List Value}{a:Nat}{p:List Value}{q:List Value}(d:A0=p++q)(i:p.length=a)(k:vs.length=m)(l:a+m+ds.length<=A0.length):
  let b:=A0.take a++vs++A0.drop (a+vs.length)
  b.take (a+m)++ds++b.drop (a+m+ds.length)=p++vs++ds++A0.drop (a+m+ds.length):=by
 intro b;have c:A0.take a=p:=by rw[d,r1 O,hi O]
 have e:b.take (a+m)=p++vs:=by
  show((A0.take a++vs)++_).take _=_;rw[c,r1 (by rw[dm];omega),hi (by rw[dm];omega)]
 have h:b.drop (a+m+ds.length)=A0.drop (a+m+ds.length):=by
  show((A0.take a++vs)++_).drop _=_;rw[c,List.drop_append,kE (by rw[dm];omega),rY,List.drop_drop,dm];congr 1;omega
 rw[e,h]
theorem agF{P:Program}{Ug:TypeDesc}{i0:TypeInfo}(call:iH P f)(raw:A4 P f t e sz i0 z)(hu:P.underlying t=aa (.slice e))(J':P.info? e=aa i0)(hz0:i0.zero=aa z)(o1:z.cells.size=sz)(pX:i0.size=sz)
  (ajc:P.underlying e=aa Ug) (hp:0<sz) (ah1:i0.bytes<=140000) (s v R:List (List T)) (i r mb:Nat) (aJ:i<=s.length) (hR:app (s.take i++v) (s.drop i)=aa R) (hs:Rows sz s) (hs':Rows sz v):
  ig P G f [.arr e r sz s,.arr e mb sz v] [.bo 0 r sz 0 s.length,.t (.int .i64 i),.bo 1 mb sz 0 v.length] (.bo 0 (r+1) sz 0 R.length) [.arr e (r+1) sz R,.arr e mb sz v]:=by
 have U:s.length+v.length<=1000000000/\R=s.take i++v++s.drop i:=by
  unfold app at hR;split at hR
  ·rename_i h;simp at h;refine⟨O,by cases hR;rfl⟩
  cases hR
 obtain⟨U,vJ⟩:=U;have I:R.length=s.length+v.length:=by rw[vJ];simp;omega
 have Sf: ∀A,A∈R->A.length=sz:=λA h=>by
  rw[vJ] at h;rcases eY.1 h with h|h
  ·rcases eY.1 h with h|h
   ·exact hs A (gP h)
   exact hs' A h
  exact hs A (fN h)
 have hbig:(s.length+v.length)*i0.bytes<=140737488355328:=eR (oo U ah1) (by decide);have hm':s.length+v.length<=maxLen:=by unfold maxLen;omega
 have ahW:cr P e Ug z sz i0.bytes:=⟨ajc,i0,J',hz0,pX,rfl⟩
 refine⟨call,?_⟩;intro w X C us kn gZ k4 hT;have aiz:us.length=3:=hT.length;obtain⟨iv,hl,j3,rfl⟩: ∃a b c,us=[a,b,c]:=by
  match us,aiz with
  | [a,b,c],_=>exact⟨a,b,c,rfl⟩
 have h0:=Rel.mr (P:=P) (nt:=3) kn gZ k4 hT (da _);obtain⟨tt,tu,SY,_⟩:=hT;obtain rfl:hl= .int .i64 i:=by
  cases tu with|t _ _ h=>cases h;rfl
 generalize J2:({tmps:=[iv,Value.int .i64 i,j3].toArray++Array.replicate (3-[iv,Value.int .i64 i,j3].toArray.size) undef,defers:=[]}:Act)=act at h0;generalize kZ:Ctx.dL P G w X [E.arr e r sz s,E.arr e mb sz v].length C 3=K at h0;have JV:K.P=P:=by rw[<-kZ];rfl
 have th:K.X=X:=by rw[<-kZ];rfl
 generalize lv:Lift.mr [E.arr e r sz s,E.arr e mb sz v] [V.bo 0 r sz 0 s.length,V.t (.int .i64 i),V.bo 1 mb sz 0 v.length]=Q at h0;have M:Q.H 0=aa (.arr e r sz s):=by rw[<-lv];rfl
 have hH1:Q.H 1=aa (.arr e mb sz v):=by rw[<-lv];rfl
 have yV:Q.H=er [E.arr e r sz s,E.arr e mb sz v] 0:=by rw[<-lv];rfl
 have Ki:own K C Q.H=hZ X C (er [E.arr e r sz s,E.arr e mb sz v] 0):=by funext b;rw[yV];show(K.X b\/_)=_;rw[th];rfl
 rw[<-Ki] at tt SY;have tg:aZ Q.H 0 (aa (.arr e (r+1) sz R))=er [E.arr e (r+1) sz R,E.arr e mb sz v] 0:=by
  rw[yV];funext j
  match j with
  |0=>rfl
  |j+1=>rfl
 have fin: ∀(β':Map) (w':World) (x:Value),Rel K β' {Q with H:=aZ Q.H 0 (aa (.arr e (r+1) sz R))} act w'->bt β' w' (own K β' (aZ Q.H 0 (aa (.arr e (r+1) sz R)))) (.bo 0 (r+1) sz 0 R.length) x->
   ∃u,∃_i:Unit,∃β,Ending.returned x= .returned u/\True/\Left C β [E.arr e r sz s,E.arr e mb sz v] [E.arr e (r+1) sz R,E.arr e mb sz v] w w' X (.bo 0 (r+1) sz 0 R.length) u:=by
  intro β' w' x b8 bZ;subst kZ;obtain⟨β,tv⟩:=Fk (out:=[E.arr e (r+1) sz R,E.arr e mb sz v]) b8 (da _) bZ rfl (by
   intro id e0 DC;refine⟨⟨e0,?_,j8.refl _⟩,?_⟩
   ·show aZ Q.H 0 _ id=_;rw[tg];exact DC
   match id with
   |0=>cases DC;exact⟨rfl,rfl⟩
   |1=>cases DC;exact⟨rfl,rfl⟩
   |k+2=>cases DC)
  exact⟨x,(),β,rfl,trivial,tv⟩
 have jc:=(h0.heap 0 _ M).2.1;have pK:=Ij (h0.heap 0 _ M).2 tt;have LS:=Ij (h0.heap 1 _ hH1).2 SY;have Dz:Q.H 0≠aj:=by rw[M];simp
 by_cases vQ:v=[]
 ·have Sg:R=s:=by rw[vJ,vQ];simp
  have run: ∀Us,(∃ir dL,Us=Value.slice ir 0 dL)->Calls P f #[iv,.int .i64 i,Us] w λe w'=>e= .returned iv/\w'=w:=by
   rintro _ ⟨ir,dL,rfl⟩;rcases pK with ⟨rfl,h1,_⟩|⟨b,F,o,rfl,_,_,_,cC,bS,_⟩
   ·subst h1
    have:i=0:=by simpa using aJ
    subst this;exact raw.nothing aj ir 0 0 0 dL w (da _) (da _) (by decide)
   exact raw.nothing (aa ⟨b,0,aj⟩) ir s.length F i dL w aJ cC (by unfold maxLen at bS;omega)
  refine(run j3 ?_).mono ?_
  ·rcases LS with ⟨rfl,_,_⟩|⟨b,F,o,rfl,_⟩
   ·exact⟨_,_,rfl⟩
   exact⟨_,_,by rw[vQ];rfl⟩
  rintro e1 fO ⟨rfl,rfl⟩;obtain⟨tQ,W⟩:=kx (h0.heap 0 _ M).2;have a1:=h0.bump 0 e r sz s tQ W M;rw[<-Sg] at a1;refine fin _ _ _ a1 ?_;rw[Sg];rcases fl tt W with ⟨yG,b,n,jn,rfl,hb',hw,hU,p1,cC,ly⟩|⟨hb',_,y1,rfl⟩
  ·subst hb';exact .bo 0 (r+1) sz 0 _ yG b n jn O (iG _ _ _) hw hU p1 cC ly
  subst hb';rw[y1];exact .hb 0 (r+1) sz O (iG _ _ _)
 have DK:0<v.length:=List.length_pos_iff.2 vQ;rcases LS with ⟨_,h1,_⟩|⟨ir,dL,d,rfl,aiV,J9,ak',aiD,tn,lz⟩
 ·exact bs h1 vQ
 have D:(d.toList.take (v.length*sz)).length=v.length*sz:=by
  have:=dU sz aiD;rw[c7];simp;omega
 have pV:=NC hp hs' D lz;have vR:=Nk (size:=sz) (n:=v.length) J9 (c:=0);by_cases k4:i=s.length
 ·have ahV:R=s++v:=by rw[vJ,k4];simp
  have ai4:Src w (own K C Q.H) sz v (.slice (aa ⟨ir,0,aj⟩) v.length dL):=
   .inr ⟨ir,0,dL,d.toList.take (v.length*sz),rfl,D,λj x hj=>by rw[dI];exact vR j x hj,pV,lz⟩
  obtain⟨dC,w',β',g1,g2,g3⟩:=h0.append 0 s v M t (by rw[JV];exact hu) (by rw[JV];exact ahW) o1 hs hs' _ _ tt (.inl ai4) hbig hm';rw[JV] at g1;rw[<-ahV] at g2 g3;rw[<-I] at g3;have run:Calls P f #[iv,.int .i64 i,.slice (aa ⟨ir,0,aj⟩) v.length dL] w λe fO=>e= .returned dC/\fO=w':=by
   rcases pK with ⟨rfl,h1,_⟩|⟨b,F,o,rfl,_,_,_,cC,bS,_⟩
   ·subst h1;subst k4;exact raw.tail aj _ 0 0 _ _ w dC w' DK (da _) (by decide) g1
   subst k4;exact raw.tail _ _ s.length F _ _ w dC w' DK cC (by unfold maxLen at bS;omega) g1
  refine run.mono ?_;rintro e1 fO ⟨rfl,rfl⟩;exact fin _ _ _ g2 g3
 have Kb:i<s.length:=O
 rcases pK with ⟨_,h1,_⟩|⟨b,F,o,rfl,W,pW,DA,Sz,SB,Kk⟩
 ·subst h1;simp at Kb
 have hne:ir≠b:=λe0=>by
  subst e0
  have:=h0.inj 0 1 ir (.inl ⟨_,W⟩) (.inl ⟨_,aiV⟩);omega
 have g:(o.toList.take (s.length*sz)).length=s.length*sz:=by
  have:=dU sz Sz;rw[c7];simp;omega
 have JQ:=NC hp hs g Kk;have lx:=Nk (size:=sz) (n:=s.length) pW (c:=0);have ais:i*sz<=s.length*sz:=dU sz aJ;have nR:((o.toList.take (s.length*sz)).drop (i*sz)).length=(s.length-i)*sz:=by rw[fY,g,Nat.sub_mul]
 have R6: ∀y∈(o.toList.take (s.length*sz)).drop (i*sz),y.oneCell'=ab:=λy hy=>JQ y (fN hy);have Y:(i+v.length)*sz+(s.length-i)*sz=(s.length+v.length)*sz:=by rw[<-ed];congr 1;omega
 have vO: ∀y u,cV w (own K C Q.H) y u->cV w.drew (own K C Q.H) y u:=λy u h=>h.mono (Ext.drew _ _) λ_ _ h=>h;by_cases SP:s.length+v.length<=F
 ·have nS:(s.length+v.length)*sz<=o.size:=by rw[DA];exact dU sz SP
  refine(raw.room b s.length F i ir v.length dL _ _ w Kb DK SP (by unfold maxLen at SB;omega) hne g D lx (λj hj=>?_) (λj=>by simp[World.frozen?,pW]) vR JQ pV e e d.size o.size
   (by unfold gj;rw[J9]) (by unfold gj;rw[pW]) ?_ λj=>by simp[World.frozen?,J9]).mono ?_
  ·have:j<o.size:=O
   simp[World.cell?,pW,this]
  ·have:0<(s.length+v.length)*sz:=Nat.mul_pos O hp;omega
  rintro e1 fO ⟨rfl,B⟩;have yY:w.drew.heap[b]? =aa (.cells o e (0,0)):=pW;rw[zC yY (by rw[nR,Y];exact nS) R6] at B;rw[zC (setRow_heap _ _ _ _ _ _ yY) (by
   rw[D]
   have:i*sz+v.length*sz<=(s.length+v.length)*sz:=by rw[<-ed];exact dU sz O
   have h2: ∀l:List Value,l.toArray.size=l.length:=λl=>a7
   rw[h2];simp only[hn,kI,lj,nR];simp;omega) pV,setRow_setRow] at B
  have y7:=aeB (cur:=o.toList) (cs:=o.toList.take (s.length*sz)) (vs:=d.toList.take (v.length*sz)) (a:=i*sz) (m:=v.length*sz) (k:=s.length*sz) ais rfl D (by rw[<-ed];simpa using nS);rw[<-ed,<-ed] at y7;simp only at B;rw[y7] at B;generalize yW:(o.toList.take (s.length*sz)).take (i*sz)++d.toList.take (v.length*sz)++(o.toList.take (s.length*sz)).drop (i*sz)++o.toList.drop ((s.length+v.length)*sz)=mI at B;have vK:mI.toArray.size=o.size:=by
   rw[<-yW];have h2: ∀l:List Value,l.toArray.size=l.length:=λl=>a7
   rw[h2];simp only[hn,D,nR,lj];rw[c7,g];have h3:i*sz+(s.length-i)*sz=s.length*sz:=by rw[<-ed];congr 1;omega
   have h4:(s.length+v.length)*sz=s.length*sz+v.length*sz:=ed _ _ _;simp only[Array.length_toList];omega
  have hrel:=(uA h0).setRow 0 b (.inl ⟨_,W⟩) o e yY mI.toArray vK (.arr e r sz R) Dz
   ⟨jc,Or.inr ⟨b,_,W,setRow_heap _ _ _ _ _ _ yY,by rw[vK,I];exact nS,Sf,λk j A x u aL a2 a3=>by
    have h9:=O4 (rest:=o.toList.drop ((s.length+v.length)*sz)) rfl aJ g D hs hs' (R:=λx u=>cV w.drew (own K C Q.H) x u) (λk j A x u dd cB fi=>vO _ _ (Kk k j A x u dd cB fi)) (λk j A x u dd cB fi=>vO _ _ (lz k j A x u dd cB fi)) k j A x u (by rw[<-vJ];exact aL) a2 (by rw[yW];simpa using a3);refine h9.mono ⟨rfl,rfl,rfl,a7,λkk _ hx=>setRow_other _ _ _ _ λe0=>hx ?_⟩ λ_ _ h=>h;subst e0;exact .inr ⟨0,Dz,.inl ⟨_,W⟩⟩⟩⟩
  have N:=hrel.bump 0 e r sz R (aa b) W (show aZ Q.H 0 (aa (.arr e r sz R)) 0=aa (.arr e r sz R) from cd _ _ _);have yT:aZ (aZ Q.H 0 (aa (.arr e r sz R))) 0 (aa (.arr e (r+1) sz R))=aZ Q.H 0 (aa (.arr e (r+1) sz R)):=by
   funext j;by_cases hj:j=0
   ·subst hj;rw[cd,cd]
   rw[cg _ _ _ _ hj,cg _ _ _ _ hj,cg _ _ _ _ hj]
  simp only[yT] at N;rw[<-B] at N;refine fin _ _ _ N ?_;have lB:bt (C.put 0 (aa (aa b,r+1))) fO (own K (C.put 0 (aa (aa b,r+1))) (aZ Q.H 0 (aa (.arr e (r+1) sz R)))) (.bo 0 (r+1) sz 0 R.length) (.slice (aa ⟨b,0*sz,aj⟩) R.length F):=by
   refine .bo 0 (r+1) sz 0 _ F b (F*sz) e O (iG _ _ _) ?_ ?_ (by rw[dI]) O SB
   ·rw[B,setRow_size];exact(iR.1 pW).1
   unfold gj;rw[B,setRow_heap _ _ _ _ _ _ yY];simp only[vK,DA]
  rw[gQ,I] at lB;rw[I];exact lB
 refine(raw.grow b s.length F i ir v.length dL _ _ w Kb DK Sz O U hbig g D lx vR JQ pV).mono ?_;rintro e1 fO ⟨rfl,B⟩;generalize Sb:grownCap w (s.length+v.length) F e=mE at B;have JU:s.length+v.length<=mE:=by rw[<-Sb];exact grownCap_ge w _ _ _
 have ahQ:mE<=maxLen:=by rw[<-Sb];exact grownCap_le_maxLen w _ _ _ hm'
 generalize R7:(((o.toList.take (s.length*sz)).take (i*sz)).toArray++ea z.cells (s.length+v.length-i)++ea z.cells (mE-(s.length+v.length)):Array Value)=L at B;have DJ:((o.toList.take (s.length*sz)).take (i*sz)).length=i*sz:=by rw[c7,g];omega
 have yS:L.size=mE*sz:=by
  rw[<-R7];simp only[Array.size_append,List.size_toArray,size_zeroCells,o1,DJ,<-Nat.add_mul];congr 1;omega
 have ahH:L.toList.length=mE*sz:=by rw[<-yS];simp
 have Km:(s.length+v.length)*sz<=mE*sz:=dU sz JU;have Sv:((w.alloc (.cells L e)).drew).heap[w.heap.size]? =aa (.cells L e (0,0)):=jQ w _;have S:i*sz+(d.toList.take (v.length*sz)).length<=L.size:=by
  rw[D,yS]
  have:i*sz+v.length*sz<=(s.length+v.length)*sz:=by rw[<-ed];exact dU sz O
  omega
 rw[zC Sv S pV] at B;have aij:=setRow_heap ((w.alloc (.cells L e)).drew) w.heap.size L (L.toList.take (i*sz)++d.toList.take (v.length*sz)++L.toList.drop (i*sz+(d.toList.take (v.length*sz)).length)).toArray e (0,0) Sv;have hg2:((((w.alloc (.cells L e)).drew).setRow w.heap.size (L.toList.take (i*sz)++d.toList.take (v.length*sz)++L.toList.drop (i*sz+(d.toList.take (v.length*sz)).length)).toArray).drew).heap[w.heap.size]? =_:=aij;have hz1:(L.toList.take (i*sz)++d.toList.take (v.length*sz)++L.toList.drop (i*sz+(d.toList.take (v.length*sz)).length)).length=mE*sz:=by
  simp only[hn,kI,lj];simp only[Array.length_toList,yS];rw[c7] at D S;rw[yS] at S;omega
 rw[zC hg2 (by
  rw[nR,Y];have h2: ∀l:List Value,l.toArray.size=l.length:=λl=>a7
  rw[h2,hz1];exact Km) R6] at B
 have y7:=aeA (A0:=L.toList) (ds:=(o.toList.take (s.length*sz)).drop (i*sz)) (vs:=d.toList.take (v.length*sz)) (a:=i*sz) (m:=v.length*sz) (p:=(o.toList.take (s.length*sz)).take (i*sz))
  (q:=(ea z.cells (s.length+v.length-i)).toList++(ea z.cells (mE-(s.length+v.length))).toList) (by rw[<-R7];simp) DJ D (by
   rw[nR,<-ed,Y,ahH];exact Km)
 rw[<-ed] at y7;simp only at B;rw[y7] at B;generalize yW:(o.toList.take (s.length*sz)).take (i*sz)++d.toList.take (v.length*sz)++(o.toList.take (s.length*sz)).drop (i*sz)++L.toList.drop ((i+v.length)*sz+((o.toList.take (s.length*sz)).drop (i*sz)).length)=mI at B;have y9:fO=(w.drew.drew).alloc (.cells mI.toArray e):=by
  rw[B];have h3:((((w.alloc (.cells L e)).drew).setRow w.heap.size (L.toList.take (i*sz)++d.toList.take (v.length*sz)++L.toList.drop (i*sz+(d.toList.take (v.length*sz)).length)).toArray).drew).setRow w.heap.size mI.toArray=(((w.drew.drew).alloc (.cells L e)).setRow w.heap.size (L.toList.take (i*sz)++d.toList.take (v.length*sz)++L.toList.drop (i*sz+(d.toList.take (v.length*sz)).length)).toArray).setRow w.heap.size mI.toArray:=rfl;rw[h3,setRow_setRow];exact World.setRow_alloc_new (w.drew.drew) L mI.toArray e
 have vK:mI.toArray.size=mE*sz:=by
  rw[<-yW];have h2: ∀l:List Value,l.toArray.size=l.length:=λl=>a7
  rw[h2];simp only[hn,DJ,D,nR,lj,Array.length_toList,yS];rw[Y];have h3:i*sz+(s.length-i)*sz=s.length*sz:=by rw[<-ed];congr 1;omega
  have h4:(s.length+v.length)*sz=s.length*sz+v.length*sz:=ed _ _ _;omega
 have tn:=(uA (uA h0)).move 0 e r sz s M mI.toArray R (by rw[vK,I];exact Km) Sf (λk j A x u aL a2 a3=>by
  have h9:=O4 (rest:=L.toList.drop ((i+v.length)*sz+((o.toList.take (s.length*sz)).drop (i*sz)).length)) rfl aJ g D hs hs' (R:=λx u=>cV w.drew.drew (own K C Q.H) x u)
   (λk j A x u dd cB fi=>(vO _ _ (Kk k j A x u dd cB fi)).mono (Ext.drew _ _) λ_ _ h=>h) (λk j A x u dd cB fi=>(vO _ _ (lz k j A x u dd cB fi)).mono (Ext.drew _ _) λ_ _ h=>h) k j A x u (by rw[<-vJ];exact aL) a2 (by rw[yW];simpa using a3)
  exact h9)
 rw[<-y9] at tn;refine fin _ _ _ tn ?_;have alq:(w.drew.drew).heap.size=w.heap.size:=rfl;have rm:=jQ (w.drew.drew) (.cells mI.toArray e);have lB:bt (C.put 0 (aa (aa (w.drew.drew).heap.size,r+1))) fO (own K (C.put 0 (aa (aa (w.drew.drew).heap.size,r+1))) (aZ Q.H 0 (aa (.arr e (r+1) sz R)))) (.bo 0 (r+1) sz 0 R.length) (.slice (aa ⟨w.heap.size,0*sz,aj⟩) R.length mE):=by
  refine .bo 0 (r+1) sz 0 _ mE w.heap.size (mE*sz) e O (iG _ _ _) ?_ ?_ (by rw[dI]) O ahQ
  ·rw[y9];simp
  unfold gj;rw[y9];rw[show((w.drew.drew).alloc (.cells mI.toArray e)).heap[w.heap.size]? =aa (.cells mI.toArray e) from rm];simp only[vK]
 rw[gQ,I] at lB;rw[I];exact lB
theorem PH{P:Program}{a:TypeInfo}(d:iH P f)(p:A4 P f t e n a z)(C:P.underlying t=aa (.slice e))(q:P.info? e=aa a)(r:a.zero=aa z)(w:z.cells.size=n)(y:a.size=n)
  (A:P.underlying e=aa u) (D:0<n) (B:a.bytes<=140000) {b:Type} (c:b->List T) (k: ∀x,(c x).length=n) (s v R:List b) (i l o:Nat) (F:i<=s.length) (m:app (s.take i++v) (s.drop i)=aa R):
  ig P G f [aH e l n c s,aH e o n c v] [ms 0 l n c s,.t (.int .i64 i),ms 1 o n c v] (ms 0 (l+1) n c R) [aH e (l+1) n c R,aH e o n c v]:=by
 refine agF d p C q r w y A D B (s.map c) (v.map c) (R.map c) i l o (by simpa using F) ?_ (Rows.map s k) (Rows.map v k);unfold app at m⊢;simp only[hn,kI,lj,List.length_map] at m⊢;split at m
 ·rename_i h;rw[bb h];cases m;simp[List.map_append,List.map_take,List.map_drop]
 cases m
section runs
variable {P:Program}
open Go.RowKit Go.Lib
theorem rJ(w:World)(s y z c:TypeId)(k b o d l:Nat)(a:Addr)(e n m:Nat)(h:List Value)
  (A:P.underlying s=aa (.slice c)) (x:(P.info? c).map (·.size)=aa k) (B:m=Nat.min e d) (C:h.length=m*k)
  (p: ∀j v,h[j]? =aa v->w.cell? (a.add j)=aa v) (D: ∀j,j<h.length->(w.cell? ⟨b,o+j,aj⟩).isSome=ab) (F: ∀j,j<h.length->w.frozen? ⟨b,o+j,aj⟩=ak) (G: ∀v∈h,v.oneCell'=ab):
  (Builtin.copy_ #[s,y] z #[.slice (aa ⟨b,o,aj⟩) d l,.slice (aa a) e n]).run P w= .ok (goInt m) (w.setCells b o h):=by
 have cC:=run_loadCells_list (P:=P) w a h p;have q:=run_storeCells_cells (P:=P) b o h 0 w (by simpa using D) (by simpa using F) G;cases r:P.info? c with
 |none=>simp[r] at x
 |some i=>
  have H:i.size=k:=by simpa[r] using x
  simp[Builtin.copy_,run_underlying A,Builtin.lenOf,Builtin.firstCells,sizeOf,typeInfo,r,H,<-B,<-C,cC,q]
theorem YG(w:World){K:Act->World->Prop}(d s:Operand)(t c:TypeId)
  (e:o.op= .call {callee:= .builtin .copy,args:= #[d,s],argTypes:= #[t,c]}) (v u:Value) (i:a.eval d=v) (k:a.eval s=u)  {b:World}
  (l:(Builtin.copy_ #[t,c] o.type #[v,u]).run P w= .ok z b) (h:K (a.put o.dst z) b):o.wp P a w K Q:=by unfold Oper.wp execOp;simp only[e,resolve,invoke,builtin,Sem.run_bind,Sem.run_pure,Result.andThen_ok,List.map_toArray,List.map_cons,List.map_nil,i,k,l];exact h
theorem vD(w:World){b:Array Oper}{l:List Oper}(e:o.guard=aj)(d s:Operand)(t i:TypeId)
  (k:o.op= .call {callee:= .builtin .copy,args:= #[d,s],argTypes:= #[t,i]}) (v u:Value) (m:a.eval d=v) (n:a.eval s=u)  
  (p:(Builtin.copy_ #[t,i] o.type #[v,u]).run P w= .ok z c) (h:wpList P b Q l (a.put o.dst z) c):wpList P b Q (o::l) a w:=
 wpList_plain e λ_ q=>YG w d s t i k v u m n p (q _ _ h)
theorem Ee{b:Array Oper}{K:Act->World->Prop}{E:Prop}
  (k:o.guard=aj) (d x:Operand) (h i:TypeId) (e:o.op=Op.call {callee:=Callee.builtin Builtin.copy,args:= #[d,x],argTypes:= #[h,i]})
  (v u:Value) (l:a.eval d=v) (m:a.eval x=u)   (n:(Builtin.copy_ #[h,i] o.type #[v,u]).run P w= .ok z c) (p:K (a.put o.dst z) c):
  if Region.wanted o (yielded b a.tmps)=ab then Oper.wp P o a w K Q else E:=by
 have q:Region.wanted o (yielded b a.tmps)=ab:=by simp[Region.wanted,k]
 rw[bb q];unfold Oper.wp;simp[execOp,e,resolve,invoke,builtin,l,m,n,Result.andThen];exact p
theorem DZ(b:Nat)(a:List Value)(o:Nat)(w:World)(h: ∀j,j<a.length->(w.cell? ⟨b,o+j,aj⟩).isSome=ab)(k:Nat)(c:(w.cell? ⟨b,k,aj⟩).isSome=ab):((w.setCells b o a).cell? ⟨b,k,aj⟩).isSome=ab:=by
 by_cases d:o<=k/\k<o+a.length
 ·have:=World.cell?_setCells_in b a o w h (k-o) O;rw[show o+(k-o)=k by omega] at this;rw[this];rfl
 rw[World.cell?_setCells_out b a o w ⟨b,k,aj⟩ λ_ _=>by show k<o\/o+a.length<=k;omega];exact c
end runs
end Go.Lift

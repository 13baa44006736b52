/- What a program's argument is when it comes in: read as data, it is a program of the law's, of some size and depth. -/
import Derived.Test.YtlbojjldejlgaaaGreatTLiftRow
import Derived.Test.YtlbojjldejlgaaaGreatTEx1
import Derived.ChangeArms
import Derived.DataReads
import Derived.Carry
set_option maxRecDepth 100000
set_option linter.unusedVariables false
namespace Go.Lift
open Go Go.ChangeShapes Go.WideShapes Go.ChangeAt Go.RowKit
section
variable {H:Type} {enc:TypeId×Value→H} {P:Program}
def RTs(W:World):List T→List Value→Prop
 | [],[]=>True
 |t::l,v::cs=>RT W (fun _=>False) t v∧RTs W l cs
 |_,_=>False
theorem RTs.len{W:World}: ∀{l:List T} {cs:List Value},RTs W l cs→l.length=cs.length
 | [],[],_=>rfl
 |t::l,v::cs,h=>by simp [h.2.len]
 | [],_::_,h=>h.elim
 |_::_,[],h=>h.elim
theorem RTs.at{W:World}: ∀{l:List T} {cs:List Value},RTs W l cs→ ∀{j:Nat} {t:T} {v:Value},l[j]? =some t→cs[j]? =some v→RT W (fun _=>False) t v
 | [],[],_,j,t,v,h1,_=>by simp at h1
 |t::l,v::cs,h,0,t',v',h1,h2=>by simp at h1 h2;subst h1;subst h2;exact h.1
 |t::l,v::cs,h,j+1,t',v',h1,h2=>RTs.at h.2 (j:=j) (by simpa using h1) (by simpa using h2)
 | [],_::_,h,_,_,_,_,_=>h.elim
 |_::_,[],h,_,_,_,_,_=>h.elim
theorem RTs.app{W:World}: ∀{l l':List T} {cs cs':List Value},RTs W l cs→RTs W l' cs'→RTs W (l++l') (cs++cs')
 | [],_,[],_,_,h=>h
 |t::l,_,v::cs,_,h,h'=>⟨h.1,h.2.app h'⟩
 | [],_,_::_,_,h,_=>h.elim
 |_::_,_,[],_,h,_=>h.elim
def Opn(H:Type)(enc:TypeId×Value→H)(P:Program)(W:World)(n:Nat)(t:TypeId){α:Type}(r:α→List T)(Q:α→Prop):Prop:=
 ∀cs y,DataW.trod enc P W 0 (fun _=>true) true n t cs=some y→ ∃x:α,Q x∧RTs W (r x) cs
theorem G4{W:World}{n:Nat}{t:TypeId}(ht:P.underlying t=some (.int .i64)):Opn H enc P W n t (fun x:Int=>[T.int .i64 x]) (fun _=>True):=fun cs y h=>by obtain⟨k,rfl,_,_⟩:=DataW.trod_int ht h;exact⟨k,trivial,.int _ _,trivial⟩
theorem aFe{W:World}{n:Nat}{t:TypeId}(ht:P.underlying t=some .string):Opn H enc P W n t (fun x:List UInt8=>[T.str x]) (fun x=>x.length≤maxLen):=fun cs y h=>by obtain⟨s,rfl,_,hs⟩:=DataW.trod_string ht h;exact⟨s.data.toList,by show s.data.toList.length≤maxLen;rw [vBe];exact hs,.str _,trivial⟩
theorem aHx{α:Type}{β:Type}{R:Nat→α→Prop}{m:Nat}(h: ∀i,i<m→ ∃x,R i x): ∃l:List α,l.length=m∧ ∀i x,l[i]? =some x→R i x:=by
 induction m with
 |zero=>exact⟨[],rfl,fun i x hx=>by simp at hx⟩
 |succ m ih=>
  obtain⟨l,hl,hR⟩:=ih fun i hi=>h i (by omega);obtain⟨x,hx⟩:=h m (by omega);refine⟨l++[x],by simp [hl],fun i y hy=>?_⟩;by_cases hi:i<m
  ·rw [I0 (by omega)] at hy;exact hR i y hy
  rw [I1 (by omega)] at hy
  have:i=m:=by
   have:=(cC.1 hy).1;simp at this;omega
  subst this;simp [hl] at hy;subst hy;exact hx
theorem vY{W:World}{n k:Nat}{t e:TypeId}{α:Type}{r:α→List T}{Q:α→Prop}(ht:P.underlying t=some (.slice e))(hk:P.cellsOf e=k)(h0:0<k)(he: ∀j,j<n→Opn H enc P W j e r Q):
  Opn H enc P W n t (fun l:List α=>[T.sl (List.map r l)]) (fun l=>l.length≤maxLen∧ ∀x∈l,Q x):=fun cs y h=>by
 rcases DataW.trod_slice ht h with ⟨rfl,_⟩|⟨a,len,cap,elems,rest,j,rfl,rfl,_,_,hl,hm,hel,hget,_,_⟩
 ·exact⟨[],⟨Nat.zero_le _,fun x hx=>by simp at hx⟩,.sl0 _ _,trivial⟩
 rw [hk] at hget;have hone: ∀i,i<len→ ∃x:α,Q x∧ ∃ds:List Value,ds.length=k∧(∀q,q<k→W.cell? ((a.add (i*k)).add q)=ds[q]?)∧RTs W (r x) ds:=fun i hi=>by
  have hg:=hget i hi;rw [dH (show i<elems.length by omega)] at hg;obtain⟨ds,hds,hd⟩:=vBu.1 hg;obtain⟨x,hx,hr⟩:=he j (by omega) ds _ hd;obtain⟨_,hlen,hc⟩:=World.cells?_some hds;exact⟨x,hx,ds,hlen,hc,hr⟩
 obtain⟨l,hlen,hR⟩:=aHx (β:=Unit) hone;refine⟨l,⟨by omega,fun x hx=>?_⟩,?_,trivial⟩
 ·obtain⟨i,hi⟩:=vAG.1 hx;exact(hR i x hi).1
 by_cases hz:len=0
 ·subst hz;obtain rfl:=List.length_eq_zero_iff.1 hlen;exact .sl0 _ _
 have hsp0:a.spot=none:=by
  obtain⟨_,ds,h1,h2,_⟩:=hR 0 _ (dH (show 0<l.length by omega));have h00:=h2 0 h0;rw [dH (show 0<ds.length by omega)] at h00;simpa [Addr.add] using World.cell?_spot h00
 obtain⟨b,o,sp⟩:=a;dsimp only at hsp0;subst hsp0;have hcell: ∀i x,l[i]? =some x→ ∃ds:List Value,ds.length=k∧(∀q,q<k→W.cell? ⟨b,o+i*k+q,none⟩=ds[q]?)∧RTs W (r x) ds:=fun i x hi=>by
  obtain⟨_,ds,h1,h2,h3⟩:=hR i x hi;refine⟨ds,h1,fun q hq=>?_,h3⟩
  have:=h2 q hq
  rwa [Addr.add_lit,Addr.add_lit] at this
 obtain⟨ds,d1,d2,_⟩:=hcell 0 _ (dH (show 0<l.length by omega));have h00:=d2 0 h0;rw [dH (show 0<ds.length by omega)] at h00;have hb:b<W.heap.size:=World.block_lt_of_cell? W ⟨b,_,none⟩ h00;have hlm:(List.map r l).length=len:=by simpa using hlen
 have hq:=RT.sl (w:=W) (X:=fun _=>False) (List.map r l) b o k cap (fun i j=>(W.cell? ⟨b,o+i*k+j,none⟩).getD undef) hb (fun h=>h) (by omega) ?_ ?_ ?_
 ·rw [hlm] at hq;exact hq
 ·intro row hrow;obtain⟨x,hx,rfl⟩:=vAT.1 hrow;obtain⟨i,hi⟩:=vAG.1 hx;obtain⟨ds,d1,_,d3⟩:=hcell i x hi;rw [d3.len,d1]
 ·intro i q hi hq;obtain⟨ds,d1,d2,_⟩:=hcell i _ (dH (show i<l.length by omega));rw [d2 q hq,dH (show q<ds.length by omega)];rfl
 intro i q row x hrow hx;rw [zG] at hrow;obtain⟨z,hz,rfl⟩:=Option.map_eq_some_iff.1 hrow;obtain⟨ds,d1,d2,d3⟩:=hcell i z hz;have hlt:q<(r z).length:=(cC.1 hx).1;rw [d3.len] at hlt;have e:(W.cell? ⟨b,o+i*k+q,none⟩).getD undef=ds[q]:=by rw [d2 q (by omega),dH hlt];rfl
 show RT W (fun _=>False) x ((W.cell? ⟨b,o+i*k+q,none⟩).getD undef);rw [e];exact d3.at hx (dH hlt)
def Flds(P:Program)(t:TypeId)(k:Nat)(l:List (TypeId×Nat)):Prop:=P.cellsOf t=k∧ ∃fs:Array Field,P.underlying t=some (.struct fs)∧fs.toList.map (fun f=>(f.type,f.offset))=l
theorem s5{W:World}{n k:Nat}{t:TypeId}{l:List (TypeId×Nat)}(hF:Flds P t k l){cs:List Value}{y:DataW H×List MemPlace}(h:DataW.trod enc P W 0 (fun _=>true) true n t cs=some y):
  ∃j:Nat,n=j+1∧cs.length=k∧ ∀(i:Nat) (a:TypeId) (o:Nat),l[i]? =some (a,o)→ ∃z,DataW.trod enc P W 0 (fun _=>true) true j a ((cs.drop o).take (P.cellsOf a))=some z:=by
 obtain⟨hk,fs,hu,hl⟩:=hF;obtain⟨xs,j,rfl,_,hc,hx,hg⟩:=DataW.trod_struct hu h;refine⟨j,rfl,by omega,fun i a o hi=>?_⟩;rw [←hl,zG] at hi;obtain⟨f,hf,he⟩:=Option.map_eq_some_iff.1 hi;cases he;have hlt:i<fs.size:=by
  have:=(cC.1 hf).1;simpa using this
 have:=hg i f (by simpa using hf);rw [dH (show i<xs.length by omega)] at this;exact⟨_,this⟩
structure PT (P:Program) where
 I:TypeId
 S:TypeId
 sI:TypeId
 A:TypeId
 sA:TypeId
 C:TypeId
 E:TypeId
 sE:TypeId
 St:TypeId
 sSt:TypeId
 L:TypeId
 sL:TypeId
 Pt:TypeId
 sPt:TypeId
 R:TypeId
 sR:TypeId
 Pr:TypeId
 cI:P.cellsOf I=1
 cS:P.cellsOf S=1
 csI:P.cellsOf sI=1
 csA:P.cellsOf sA=1
 csE:P.cellsOf sE=1
 csSt:P.cellsOf sSt=1
 csL:P.cellsOf sL=1
 csPt:P.cellsOf sPt=1
 csR:P.cellsOf sR=1
 uI:P.underlying I=some (.int .i64)
 uS:P.underlying S=some .string
 usI:P.underlying sI=some (.slice I)
 usA:P.underlying sA=some (.slice A)
 usE:P.underlying sE=some (.slice E)
 usSt:P.underlying sSt=some (.slice St)
 usL:P.underlying sL=some (.slice L)
 usPt:P.underlying sPt=some (.slice Pt)
 usR:P.underlying sR=some (.slice R)
 fA:Flds P A 2 [(sI,0),(I,1)]
 fC:Flds P C 2 [(S,0),(sA,1)]
 fE:Flds P E 7 [(I,0),(I,1),(A,2),(C,4),(sE,6)]
 fSt:Flds P St 9 [(C,0),(E,2)]
 fL:Flds P L 2 [(sA,0),(sA,1)]
 fPt:Flds P Pt 2 [(sL,0),(sSt,1)]
 fR:Flds P R 2 [(S,0),(sI,1)]
 fPr:Flds P Pr 2 [(sR,0),(sPt,1)]
theorem aF4{cs:List Value}(h:cs.length=2): ∃a b,cs=[a,b]:=by
 match cs,h with
 | [a,b],_=>exact⟨a,b,rfl⟩
theorem aNM{cs:List Value}(h:cs.length=7): ∃a b c d e f g,cs=[a,b,c,d,e,f,g]:=by
 match cs,h with
 | [a,b,c,d,e,f,g],_=>exact⟨a,b,c,d,e,f,g,rfl⟩
theorem aNL{cs:List Value}(h:cs.length=9): ∃a b c d e f g i j,cs=[a,b,c,d,e,f,g,i,j]:=by
 match cs,h with
 | [a,b,c,d,e,f,g,i,j],_=>exact⟨a,b,c,d,e,f,g,i,j,rfl⟩
variable (K:PT P)
theorem aCc{W:World}{n:Nat}:Opn H enc P W n K.sI (fun l:List Int=>[T.sl (List.map rI l)]) (fun l=>l.length≤maxLen):=fun cs y h=>by obtain⟨l,h1,h2⟩:=vY K.usI K.cI (by omega) (fun j _=>G4 K.uI) cs y h;exact⟨l,h1.1,h2⟩
theorem aFf{W:World}{n:Nat}:Opn H enc P W n K.A aA (QA maxLen):=fun cs y h=>by obtain⟨j,rfl,hc,hf⟩:=s5 K.fA h;obtain⟨a,b,rfl⟩:=aF4 hc;obtain⟨z,h0⟩:=hf 0 _ _ rfl;obtain⟨z',h1⟩:=hf 1 _ _ rfl;rw [K.csI] at h0;rw [K.cI] at h1;obtain⟨l,hl,g0⟩:=aCc K _ _ h0;obtain⟨c,_,g1⟩:=G4 K.uI _ _ h1;exact⟨⟨l,c⟩,hl,g0.app g1⟩
theorem K5{W:World}{n:Nat}:Opn H enc P W n K.sA (fun l:List Affine=>[T.sl (List.map aA l)]) (QAs maxLen):=vY K.usA K.fA.1 (by omega) fun j _=>aFf K
theorem aFg{W:World}{n:Nat}:Opn H enc P W n K.C bD (QC maxLen):=fun cs y h=>by obtain⟨j,rfl,hc,hf⟩:=s5 K.fC h;obtain⟨a,b,rfl⟩:=aF4 hc;obtain⟨z,h0⟩:=hf 0 _ _ rfl;obtain⟨z',h1⟩:=hf 1 _ _ rfl;rw [K.cS] at h0;rw [K.csA] at h1;obtain⟨l,hl,g0⟩:=aFe K.uS _ _ h0;obtain⟨c,hc',g1⟩:=K5 K _ _ h1;exact⟨⟨l,c⟩,⟨hl,hc'⟩,g0.app g1⟩
theorem aIW{B:Nat}: ∀{m k:Nat} {e:Expr},QE B m e→m≤k→QE B k e
 |0,_,_,h,_=>h.elim
 |m+1,0,_,_,hk=>by omega
 |m+1,k+1,e,h,hk=>⟨h.1,h.2.1,h.2.2.1,fun x hx=>aIW (h.2.2.2 x hx) (by omega)⟩
theorem aHB{W:World}: ∀{n:Nat},Opn H enc P W n K.E aC (QE maxLen n):=fun {n}=>by
 induction n using Nat.strongRecOn with
 |_ n ih=>
  intro cs y h;obtain⟨j,rfl,hc,hf⟩:=s5 K.fE h;obtain⟨a,b,c,d,e,f,g,rfl⟩:=aNM hc;obtain⟨z0,h0⟩:=hf 0 _ _ rfl;obtain⟨z1,h1⟩:=hf 1 _ _ rfl;obtain⟨z2,h2⟩:=hf 2 _ _ rfl;obtain⟨z3,h3⟩:=hf 3 _ _ rfl;obtain⟨z4,h4⟩:=hf 4 _ _ rfl;rw [K.cI] at h0 h1;rw [K.fA.1] at h2;rw [K.fC.1] at h3;rw [K.csE] at h4;obtain⟨x0,_,g0⟩:=G4 K.uI _ _ h0;obtain⟨x1,_,g1⟩:=G4 K.uI _ _ h1;obtain⟨x2,q2,g2⟩:=aFf K _ _ h2;obtain⟨x3,q3,g3⟩:=aFg K _ _ h3;obtain⟨x4,q4,g4⟩:=vY (Q:=QE maxLen j) K.usE K.fE.1 (by omega) (fun i hi cs y h=>by
   obtain⟨x,hx,hr⟩:=ih i (by omega) cs y h;exact⟨x,aIW hx (by omega),hr⟩) _ _ h4
  refine⟨⟨x0,x1,x2,x3,x4⟩,⟨q2,q3,q4.1,q4.2⟩,?_⟩;rw [aO];exact g0.app (g1.app (g2.app (g3.app g4)))
theorem aHy{W:World}{n m:Nat}(hm:n≤m):Opn H enc P W n K.St aF (QS maxLen m):=fun cs y h=>by obtain⟨j,rfl,hc,hf⟩:=s5 K.fSt h;obtain⟨a,b,c,d,e,f,g,i,k,rfl⟩:=aNL hc;obtain⟨z0,h0⟩:=hf 0 _ _ rfl;obtain⟨z1,h1⟩:=hf 1 _ _ rfl;rw [K.fC.1] at h0;rw [K.fE.1] at h1;obtain⟨x0,q0,g0⟩:=aFg K _ _ h0;obtain⟨x1,q1,g1⟩:=aHB K _ _ h1;rw [aO] at g1;exact⟨⟨x0,x1⟩,⟨q0,aIW q1 (by omega)⟩,g0.app g1⟩
theorem aLz{W:World}{n:Nat}:Opn H enc P W n K.L aD (QL maxLen):=fun cs y h=>by obtain⟨j,rfl,hc,hf⟩:=s5 K.fL h;obtain⟨a,b,rfl⟩:=aF4 hc;obtain⟨z,h0⟩:=hf 0 _ _ rfl;obtain⟨z',h1⟩:=hf 1 _ _ rfl;rw [K.csA] at h0 h1;obtain⟨x0,q0,g0⟩:=K5 K _ _ h0;obtain⟨x1,q1,g1⟩:=K5 K _ _ h1;exact⟨⟨x0,x1⟩,⟨q0,q1⟩,g0.app g1⟩
theorem aHA{W:World}{n m:Nat}(hm:n≤m):Opn H enc P W n K.Pt aE (QPt maxLen m):=fun cs y h=>by obtain⟨j,rfl,hc,hf⟩:=s5 K.fPt h;obtain⟨a,b,rfl⟩:=aF4 hc;obtain⟨z,h0⟩:=hf 0 _ _ rfl;obtain⟨z',h1⟩:=hf 1 _ _ rfl;rw [K.csL] at h0;rw [K.csSt] at h1;obtain⟨x0,q0,g0⟩:=vY K.usL K.fL.1 (by omega) (fun i _=>aLz K) _ _ h0;obtain⟨x1,q1,g1⟩:=vY K.usSt K.fSt.1 (by omega) (fun i hi=>aHy K (m:=m) (by omega)) _ _ h1;exact⟨⟨x0,x1⟩,⟨q0,q1⟩,g0.app g1⟩
theorem aJW{W:World}{n:Nat}:Opn H enc P W n K.R aJ (QR maxLen):=fun cs y h=>by obtain⟨j,rfl,hc,hf⟩:=s5 K.fR h;obtain⟨a,b,rfl⟩:=aF4 hc;obtain⟨z,h0⟩:=hf 0 _ _ rfl;obtain⟨z',h1⟩:=hf 1 _ _ rfl;rw [K.cS] at h0;rw [K.csI] at h1;obtain⟨x0,q0,g0⟩:=aFe K.uS _ _ h0;obtain⟨x1,q1,g1⟩:=aCc K _ _ h1;exact⟨⟨x0,x1⟩,⟨q0,q1⟩,g0.app g1⟩
theorem aHz{W:World}{n:Nat}:Opn H enc P W n K.Pr aMQ (QP maxLen n):=fun cs y h=>by obtain⟨j,rfl,hc,hf⟩:=s5 K.fPr h;obtain⟨a,b,rfl⟩:=aF4 hc;obtain⟨z,h0⟩:=hf 0 _ _ rfl;obtain⟨z',h1⟩:=hf 1 _ _ rfl;rw [K.csR] at h0;rw [K.csPt] at h1;obtain⟨x0,q0,g0⟩:=vY K.usR K.fR.1 (by omega) (fun i _=>aJW K) _ _ h0;obtain⟨x1,q1,g1⟩:=vY K.usPt K.fPt.1 (by omega) (fun i hi=>aHA K (m:=j+1) (by omega)) _ _ h1;exact⟨⟨x0,x1⟩,⟨q0,q1⟩,g0.app g1⟩
end
end Go.Lift

/- Tools. -/
import Derived.Test.YtfegpkfpnpjgeaaGreatBStepB
set_option maxRecDepth 100000
set_option linter.unusedVariables false
namespace Go.Lift
open Go
noncomputable def hg(p:Prog):List Step:=if bT p=true then nh p else []
theorem Gz{p:Prog}: ∀x∈hg p,Hp x:=by
 intro x a;unfold hg at a;split at a
 ·rename_i d;have e:=wH d;unfold nh at a;simp only[List.mem_append,List.mem_singleton] at a;rcases a with ((a|a)|a)|rfl
  ·obtain⟨j,c,a⟩:=tq.1 a
   have:=pU.1 c;rcases eh.1 a with a|a
   ·obtain⟨k,_,rfl⟩:=ey.1 a;exact⟨Z,Z⟩
   obtain⟨k,_,rfl⟩:=ey.1 a;exact⟨Z,Z⟩
  ·obtain⟨j,c,a⟩:=tq.1 a
   have:=pU.1 c;simp only[List.mem_cons,List.not_mem_nil,or_false] at a;rcases a with rfl|rfl
   ·exact⟨Z,Z⟩
   exact⟨Z,Z⟩
  ·obtain⟨j,c,rfl⟩:=ey.1 a
   have:=pU.1 c;exact⟨Z,Z⟩
  exact⟨by decide,by decide⟩
 cases a
theorem FA(p:Prog):(hg p).length<=100:=by
 unfold hg;split
 ·rename_i a;exact(ZA a).1
 simp
noncomputable def mm(p:Prog)(a:Int)(c:Step×Bool×Int)(x:Step):Step×Bool×Int:=
 if(jM p x).2=true/\fo (jM p x).1 a<c.2.2 then(x,true,fo (jM p x).1 a) else c
noncomputable def gI(p:Prog)(a:Int)(l:List Step):Step×Bool×Int:=l.foldl (mm p a) (⟨0,0,0,0⟩,false,fo p a)
variable {p:Prog}{a:Int}{l:List Step}{k n:Nat}
theorem E6{x:Step}:gI p a (l++[x])=mm p a (gI p a l) x:=by unfold gI;rw[List.foldl_append];rfl
def Ef(p:Prog)(a:Int)(l:List Step)(r:Step×Bool×Int):Prop:=
 (r.2.1=true->r.1∈l/\(jM p r.1).2=true/\fo (jM p r.1).1 a=r.2.2/\r.2.2<fo p a)/\(r.2.1=false->r.2.2=fo p a/\r.1=⟨0,0,0,0⟩)/\(∀x∈l,(jM p x).2=true->r.2.2<=fo (jM p x).1 a)/\r.2.2<=fo p a
theorem abK{c:Int}{r:Step×Bool×Int}(h:Ef p c l r)(x:Step):Ef p c (l++[x]) (mm p c r x):=by
 have m:=h.2.2.2;unfold mm;by_cases k:(jM p x).2=true/\fo (jM p x).1 c<r.2.2
 ·rw[a1 k];have n:=k.2;refine⟨λ_=>⟨oR _ (nN.2 rfl),k.1,rfl,Z⟩,λe=>(by cases e),λy d i=>?_,Z⟩;rcases eh.1 d with d|d
  ·have:=h.2.2.1 y d i
   grind
  rw[nN.1 d];exact fT _
 rw[aZ k];refine⟨λe=>?_,h.2.1,λy d i=>?_,m⟩
 ·obtain⟨a,b⟩:=h.1 e
  grind
 rcases eh.1 d with d|d
 ·exact h.2.2.1 y d i
 rw[nN.1 d] at i⊢
 grind
theorem FO{a:Type}{l:List a}{x:a}(h:l[k]? =some x):l.take (k+1)=l.take k++[x]:=by rw[List.take_add_one,h];rfl
theorem Ad(p:Prog)(a:Int)(l:List Step): ∀k,k<=l.length->Ef p a (l.take k) (gI p a (l.take k))
 |0,_=>⟨λe=>(by cases e),λ_=>⟨rfl,rfl⟩,λ_ c=>(by cases c),fT _⟩
 |k+1,d=>by rw[FO (bo (O:k<l.length)),E6];exact abK (Ad p a l k O) _
theorem aaM(p:Prog)(size:Int): -1<=fo p size:=by
 unfold fo
 grind
theorem XF(h:0<=fo p a):0<=a/\a<=40:=by
 unfold fo at h
 grind
theorem YR{size:Int}(a:bT p=true)(h:0<=size/\size<=40):0<=fo p size:=by unfold fo;rw[a1 a,a1 h];omega
theorem Fj(h:fo p a<0)(l:List Step)(d:k<=l.length):(gI p a (l.take k)).1=⟨0,0,0,0⟩/\(gI p a (l.take k)).2.1=false:=by
 have aY:=Ad p a l k d;cases c:(gI p a (l.take k)).2.1 with
 |false=>exact⟨(aY.2.1 c).2,rfl⟩
 |true=>
  obtain⟨_,_,e,i⟩:=aY.1 c
  have:=aaM (jM p (gI p a (l.take k)).1).1 a;omega
theorem MK(h:0<=fo p a)(l:List Step)(d:k<=l.length):0<=(gI p a (l.take k)).2.2:=by
 have aY:=Ad p a l k d;cases c:(gI p a (l.take k)).2.1 with
 |false=>rw[(aY.2.1 c).1];exact h
 |true=>
  obtain⟨_,e,i,_⟩:=aY.1 c;rw[<-i];exact YR ((y8 p _).v e) (XF h)
noncomputable def qf(p:Prog)(a:Int):Step×Bool:=((gI p a (hg p)).1,(gI p a (hg p)).2.1&&decide (0<=(gI p a (hg p)).2.2))
theorem YH(w:20000<=n)(y:db 1000 p)(o:Int):zr n p o=some (qf p o):=by
 unfold zr;refine aa.eq (ab (yK w y.sm o) (ab (Q7 O y.sm) ?_));rw[show(if bT p=true then nh p else [])=hg p from rfl];unfold qf;have dm:= @Gz p;have r:=FA p;generalize hg p=l at dm r⊢;refine aa.loop (λz:Int×Int×Int×Int×Bool×Int×Int=> ∃k:Nat,z.2.2.2.2.2.2=k/\k<=l.length/\((⟨z.1,z.2.1,z.2.2.1,z.2.2.2.1⟩:Step),z.2.2.2.2.1,z.2.2.2.2.2.1)=gI p o (l.take k)) (λz=>l.length-z.2.2.2.2.2.2.toNat) ?_ n _ ⟨0,rfl,O,rfl⟩ Z;rintro A ⟨a,b,c,d,f,m,i⟩ ⟨k,L,R,B⟩ Q;dsimp only at L B Q⊢;subst L;refine aN (λW=>?_) λX=>?_
 ·obtain⟨x,C⟩: ∃x,l[k]? =some x:=⟨_,bo (O:k<l.length)⟩
  have F:=dm x (bE C);have s:gI p o (l.take (k+1))=mm p o (gI p o (l.take k)) x:=by rw[FO C,E6]
  rw[<-B] at s;refine aa.ay (λz=>((⟨z.1,z.2.1,z.2.2.1,z.2.2.2.1⟩:Step),z.2.2.2.2.2.2.2.2.2.2.1,z.2.2.2.2.2.2.2.2.2.2.2)=gI p o (l.take (k+1))) (λj q=>?_) λz G=>?_
  ·refine ab (be C) (ab (Fs w y F) (aa.cond (λH=>q _ ?_) λH=>ab (yK w (y8 p x).B1.sm o) (aN (λK=>q _ ?_) λK=>q _ ?_)))
   ·rw[s];unfold mm;rw[aZ λe=>by simp[e.1] at H]
   ·rw[s];unfold mm;rw[a1 ⟨by simpa using H,K⟩]
   rw[s];unfold mm;rw[aZ λe=>K e.2]
  obtain⟨v,D,E,I,M,N,P,S,T,g,t,u⟩:=z;dsimp only at G⊢;rw[bb O];exact Q _ ⟨k+1,aP,O,G⟩ Z
 rw[hS O] at B;refine aa.ay (λz=>z=(f&&decide (0<=m))) (λj q=>aa.cond (λh=>q _ (by rw[h];rfl)) λh=>q _ (by rw[h];rfl)) (λz G=>aa.some ?_)
 grind
theorem X2(G:20000<=n)(H:db 1000 p)(o:Int):Ea n p o=some (qf p o):=by
 unfold Ea;refine aa.eq (ab (KZ G H.sm o) (ab (Si O H.sm) ?_));rw[show(if bT p=true then nh p else [])=hg p from rfl];unfold qf;have dm:= @Gz p;have r:=FA p;generalize hg p=l at dm r⊢;refine aa.loop (λz:Int×Int×Int×Int×Int×Bool×Int=> ∃k:Nat,z.2.2.2.2.2.2=k/\k<=l.length/\((⟨z.1,z.2.1,z.2.2.1,z.2.2.2.1⟩:Step),z.2.2.2.2.2.1,z.2.2.2.2.1)=gI p o (l.take k)) (λz=>l.length-z.2.2.2.2.2.2.toNat) ?_ n _ ⟨0,rfl,O,rfl⟩ Z;rintro K ⟨a,b,c,d,m,f,i⟩ ⟨k,R,s,W⟩ X;dsimp only at R W X⊢;subst R;refine aa.ay (λz:Bool=>z=decide ((k:Int)<l.length/\0<=m)) (λj q=>aN (λh=>q _ (by simp[h])) λh=>q _ (by simp[h])) λz w=>?_;refine aa.cond (λy=>?_) λA=>?_
 ·rw[w] at y;have g:=(eX y).1;obtain⟨x,L⟩: ∃x,l[k]? =some x:=⟨_,bo (O:k<l.length)⟩
  have Q:=dm x (bE L);have C:gI p o (l.take (k+1))=mm p o (gI p o (l.take k)) x:=by rw[FO L,E6]
  rw[<-W] at C;refine aa.ay (λz=>((⟨z.1,z.2.1,z.2.2.1,z.2.2.2.1⟩:Step),z.2.2.2.2.2.2.2,z.2.2.2.2.2.2.1)=gI p o (l.take (k+1))) (λj q=>?_) λz w=>?_
  ·refine ab (be L) (ab (XZ G H Q) (aa.cond (λB=>q _ ?_) λB=>ab (KZ G (y8 p x).B1.sm o) (aN (λF=>q _ ?_) λF=>q _ ?_)))
   ·rw[C];unfold mm;rw[aZ λe=>by simp[e.1] at B]
   ·rw[C];unfold mm;rw[a1 ⟨by simpa using B,F⟩]
   rw[C];unfold mm;rw[aZ λe=>F e.2]
  obtain⟨v,D,E,I,M,N,P,S⟩:=z;dsimp only at w⊢;rw[bb O];exact X _ ⟨k+1,aP,O,w⟩ Z
 rw[w] at A;have t:=of_decide_eq_false A;refine aa.some ?_;by_cases u:0<=fo p o
 ·have B:=MK u l s
  grind
 have B:=Fj (O:fo p o<0) l s;have F:=Fj (O:fo p o<0) l (cJ _)
 grind
theorem U'(d:List UInt8):JV N d=some true:=by
 have X:N=100000:=rfl;refine aa.eq ?_;unfold JV;refine aN (λ_=>aa.some rfl) λ_=>?_;unfold Jz;refine cr (cr (WY d) λx l=>aa.some (Q:=λy:Prog×Int=>db 1000 y.1) l) λB e=>?_;obtain⟨p,size⟩:=B;dsimp only at e⊢;have m:=Ad p size (hg p) _ (cJ _);have C:=λh:fo p size<0=>Fj h (hg p) (cJ _);have r:=λh:0<=fo p size=>MK h (hg p) (cJ _);rw[dz] at m C r;have dm:= @Gz p;have s:=FA p;refine ab (YH O e size) (ab (X2 O e size) (ab (yK O e.sm size) ?_));refine aa.ay (λz:Bool=>z=decide (fo p size<0)) (λj a=>aa.cond (λh=>bz h aP) λ_=>eV (λh=>bz rfl h) λ_=>a _ rfl) λz c=>?_;subst c;refine aN (λw=>?_) λA=>?_
 ·refine aa.ay (λz=>z=true) (λj a=>aa.cond (λ_=>aN (λ_=>aN (λ_=>a _ ?_) λ_=>a _ rfl) λh=>bz rfl h) λh=>bz h aP) λz c=>aa.some c;unfold qf
  grind
 have F:0<=fo p size:=O
 have b8:=r F;refine aa.ay (λz:Int=>z=(gI p size (hg p)).2.2) (λj a=>aa.cond (λi=>?_) λi=>?_) λz c=>?_
 ·have n:(gI p size (hg p)).2.1=true:=by
   unfold qf at i;dsimp only at i;exact(oW _ _▸i:_/\_).1
  obtain⟨G,H,K,b⟩:=m.1 n;refine ab (Fs O e (dm _ G)) (ab (yK O (y8 p _).B1.sm size) ?_);refine aa.ay (λz=>z=false) (λf o=>aa.cond (λh=>?_) λ_=>o _ (bD λh=>?_)) λz c=>aa.cond (λh=>?_) λ_=>a _ K
  ·exact bz h (by unfold qf;simp[H])
  ·have h:fo p size<=fo (jM p (gI p size (hg p)).1).1 size:=h;omega
  rw[c] at h;cases h
 ·refine a _ (m.2.1 ?_).1.symm;unfold qf at i;dsimp only at i
  grind
 subst c;refine ab (Q7 O e.sm) ?_;rw[show(if bT p=true then nh p else [])=hg p from rfl];refine aa.loop (λz:Int=> ∃k:Nat,z=k/\k<=(hg p).length) (λz=>(hg p).length-z.toNat) ?_ N _ ⟨0,rfl,O⟩ O;rintro q z ⟨k,rfl,g⟩ L;refine aN (λR=>?_) λ_=>aa.some rfl;obtain⟨x,l⟩: ∃x,(hg p)[k]? =some x:=⟨_,bo (O:k<(hg p).length)⟩
 have hm:=bE l;refine ab (be l) (ab (Fs O e (dm x hm)) ?_);refine aa.ay (λz=>z=false) (λj a=>aa.cond (λW=>ab (yK O (y8 p x).B1.sm size) (a _ (bD λh=>?_))) λ_=>a _ rfl) λz c=>aa.cond (λh=>?_) λ_=>?_
 ·have:=m.2.2.1 x hm W;omega
 ·rw[c] at h;cases h
 rw[bb O];exact L _ ⟨k+1,aP,O⟩ O
end Go.Lift

/- Tools. -/
import Derived.Test.YteifkndfpnkalacGreatQLiftSq
set_option linter.unusedVariables false
namespace Go.Lift
open Go
def rQ(w:World)(l:List Int)(a:Option Addr):Prop:=0<l.length-> ∃b o,a=some ⟨b,o,none⟩/\ ∀j,j<l.length->w.cell? ⟨b,o+j,none⟩=some (.int .i64 (l.getD j 0))
theorem Yb{w:World}{X:Nat->Prop}{d:List Int}{v:Value}(h:dh w X (.bD (d.map iM)) v): ∃a c,v= .slice a d.length c/\rQ w d a:=by
 generalize s:d.map iM=y at h;cases h with
 |gn a i=>
  have C:d=[]:=by simpa using s
  subst C;exact⟨a,i,rfl,λh=>bz h aW⟩
 |bD _ b l m i f G H z o F p=>
  subst s;cases d with
  |nil=>exact⟨_,_,rfl,λh=>bz h aW⟩
  |cons x d=>
   have q:m=1:=by have:=o (iM x) aW;simpa using this.symm
   subst q;refine⟨_,i,aW,λ_=>⟨b,l,rfl,λj r=>?_⟩⟩;have A:=F j 0 (by simpa using r) O;have e:(x::d).getD j 0=(x::d)[j]:=by rw[eB,bo r];rfl
   have B:=p j 0 (iM (x::d)[j]) (.int .i64 (x::d)[j]) (by rw[ek,bo r];rfl) rfl;rw[show l+j*1+0=l+j by omega] at A;rw[A,e];generalize f j 0=u at B;cases B with
   |int k n=>rfl
def Pd(P:Program)(f:FuncId):Prop:= ∀(l:List Int) (d:Int) (a:Option Addr) (c:Nat) (w:World),rQ w l a->
 Calls P f #[.slice a l.length c,.int .i64 d] w λe h=>e= .returned (.int .i64 (if l.length<=600/\0<=d/\d<=40 then(fH d.toNat [] l:Int) else-1))/\Ext (λ_=>False) w h
theorem abx{P:Program}{f:FuncId}{G:fq}(s:jy P f)(h:Pd P f)(l:List Int)(d:Int){r:Int}(o:uX l d=some r):j8 P G f [aB ae l,U d] (U r):=by
 refine⟨s,λw X p y z q=>?_⟩;obtain⟨u,v,rfl⟩: ∃u v,p=[u,v]:=by
  have:=q.length
  match p,this with
  | [u,v],_=>exact⟨u,v,rfl⟩
 obtain⟨m,i,_⟩:=q;unfold uX at o;cases o;cases m with
 |t _ _ m=>
  obtain⟨a,c,rfl,x⟩:=Yb m;cases i with
  |t _ _ i=>
   cases i with
   |int k n=>
    refine(h l d a c w x).mono ?_;rintro e A ⟨rfl,i⟩;exact⟨_,rfl,i,.t _ _ (.int _ _)⟩
end Go.Lift

/- Tools. -/
import Derived.Test.YtlklcemjbgpcnaaGreatOLiftSq
set_option linter.unusedVariables false
namespace Go.Lift
open Go
def sI(w:World)(l:List Int)(a:Option Addr):Prop:=0<l.length-> ∃b o,a=some ⟨b,o,none⟩/\ ∀j,j<l.length->w.cell? ⟨b,o+j,none⟩=some (.int .i64 (l.getD j 0))
theorem acx{w:World}{X:Nat->Prop}{d:List Int}{v:Value}(h:cV w X (.bE (d.map iJ)) v): ∃a c,v= .slice a d.length c/\sI w d a:=by
 generalize s:d.map iJ=y at h;cases h with
 |fW a i=>
  have C:d=[]:=by simpa using s
  subst C;exact⟨a,i,rfl,λh=>bs h a7⟩
 |bE _ b l m i f F G z o D p=>
  subst s;cases d with
  |nil=>exact⟨_,_,rfl,λh=>bs h a7⟩
  |cons x d=>
   have q:m=1:=by have:=o (iJ x) a7;simpa using this.symm
   subst q;refine⟨_,i,a7,λ_=>⟨b,l,rfl,λj r=>?_⟩⟩;have A:=D j 0 (by simpa using r) O;have e:(x::d).getD j 0=(x::d)[j]:=by rw[fh,bu r];rfl
   have B:=p j 0 (iJ (x::d)[j]) (.int .i64 (x::d)[j]) (by rw[eQ,bu r];rfl) rfl;rw[show l+j*1+0=l+j by omega] at A;rw[A,e];generalize f j 0=u at B;cases B with
   |int k n=>rfl
def QX(P:Program)(f:FuncId):Prop:= ∀(l:List Int) (b:Int) (a:Option Addr) (c:Nat) (w:World),sI w l a->
 Calls P f #[.slice a l.length c,.int .i64 b] w λe d=>e= .returned (.int .i64 (if l.length<=600/\0<=b/\b<=40 then(gb b.toNat [] l:Int) else-1))/\Ext (λ_=>False) w d
theorem af5{P:Program}{f:FuncId}{G:fe}(q:iH P f)(h:QX P f)(l:List Int)(b:Int){r:Int}(m:wq l b=some r):jw P G f [aG ah l,Y b] (Y r):=by
 refine⟨q,λw X o x y p=>?_⟩;obtain⟨u,v,rfl⟩: ∃u v,o=[u,v]:=by
  have:=p.length
  match o,this with
  | [u,v],_=>exact⟨u,v,rfl⟩
 obtain⟨i,d,_⟩:=p;unfold wq at m;cases m;cases i with
 |t _ _ i=>
  obtain⟨a,c,rfl,s⟩:=acx i;cases d with
  |t _ _ d=>
   cases d with
   |int k n=>
    refine(h l b a c w s).mono ?_;rintro e z ⟨rfl,d⟩;exact⟨_,rfl,d,.t _ _ (.int _ _)⟩
end Go.Lift

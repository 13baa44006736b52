/- impl.LruMisses and impl.DistinctCells: from what they do to cells to the contracts. -/
import Derived.Test.YtaedfpoebdhocaaGreatQLiftLib
set_option linter.unusedVariables false
namespace Go.Lift
open Go
def pL(w:World)(l:List Int)(a:Option Addr):Prop:=0<l.length→ ∃b o,a=some ⟨b,o,none⟩∧ ∀j,j<l.length→w.cell? ⟨b,o+j,none⟩=some (.int .i64 (l.getD j 0))
theorem aBE{w:World}{X:Nat→Prop}{xs:List Int}{v:Value}(h:RT w X (.sl (xs.map w9)) v): ∃a c,v= .slice a xs.length c∧pL w xs a:=by
 generalize hr:xs.map w9=rows at h;cases h with
 |sl0 a cap=>
  have h0:xs=[]:=by simpa using hr
  subst h0;exact⟨a,cap,rfl,fun h=>absurd h (by simp)⟩
 |sl _ b off size cap f hb hX hcap hsz hc hrr=>
  subst hr;cases xs with
  |nil=>exact⟨_,_,rfl,fun h=>absurd h (by simp)⟩
  |cons x xs=>
   have hs1:size=1:=by have:=hsz (w9 x) (by simp);simpa using this.symm
   subst hs1;refine⟨_,cap,by simp,fun _=>⟨b,off,rfl,fun j hj=>?_⟩⟩;have h1:=hc j 0 (by simpa using hj) (by omega);have e:(x::xs).getD j 0=(x::xs)[j]:=by rw [vBf,cE hj];rfl
   have h2:=hrr j 0 (w9 (x::xs)[j]) (.int .i64 (x::xs)[j]) (by rw [pW,cE hj];rfl) rfl;rw [show off+j*1+0=off+j by omega] at h1;rw [h1,e];generalize f j 0=u at h2;cases h2 with
   |int k n=>rfl
def aD8(P:Program)(f:FuncId):Prop:= ∀(l:List Int) (size:Int) (a:Option Addr) (c:Nat) (w:World),pL w l a→
 Calls P f #[.slice a l.length c,.int .i64 size] w fun e w'=>e= .returned (.int .i64 (if l.length≤600∧0≤size∧size≤40 then(bW size.toNat [] l:Int) else-1))∧Ext (fun _=>False) w w'
theorem aFc{P:Program}{f:FuncId}{G:Glob}(hc:eK P f)(h:aD8 P f)(l:List Int)(size:Int){r:Int}(hr:m_lru l size=some r):PCC P G f [vM rI l,vI size] (vI r):=by
 refine⟨hc,fun w X us hG hX hu=>?_⟩;obtain⟨u,v,rfl⟩: ∃u v,us=[u,v]:=by
  have:=hu.length
  match us,this with
  | [u,v],_=>exact⟨u,v,rfl⟩
 obtain⟨h1,h2,_⟩:=hu;unfold m_lru at hr;cases hr;cases h1 with
 |t _ _ h1=>
  obtain⟨a,c,rfl,ha⟩:=aBE h1;cases h2 with
  |t _ _ h2=>
   cases h2 with
   |int k n=>
    refine(h l size a c w ha).mono ?_;rintro e w' ⟨rfl,h2⟩;exact⟨_,rfl,h2,.t _ _ (.int _ _)⟩
end Go.Lift

/- What the library's contracts of strings.Contains and slices.Clone give. -/
import Derived.Test.YtlbojjldejlgaaaGreatTLiftRow
set_option linter.unusedVariables false
namespace Go.Lift
open Go Go.ChangeShapes Go.WideShapes Go.ChangeAt Go.RowKit
section
variable {P:Program}
theorem aER{f:FuncId}{G:Glob}(hc:hJ P f)(h: ∀(s sub:ByteArray),s.size<4294967281→ ∀w,G.ok w→Calls P f #[.string s,.string sub] w fun e w'=>e= .returned (.bool (Lib.contains s.data.toList sub.data.toList))∧w'=w):
  ∀(s t:List UInt8) (r:Bool),m_contains s t=some r→PCC P G f [vS s,vS t] (vB r):=by
 intro s t r hr;unfold m_contains at hr;split at hr
 ·rename_i hn;cases hr;refine⟨hc,fun w X us hG hX hu=>?_⟩;obtain⟨u,v,rfl,h1,h2⟩:=aLk hu;obtain rfl:=cV h1;obtain rfl:=cV h2;refine(h ⟨s.toArray⟩ ⟨t.toArray⟩ (by simpa [ByteArray.size] using hn) w hG).mono ?_;rintro e w' ⟨rfl,rfl⟩;exact⟨_,rfl,Ext.refl _ _,.t _ _ (.bool _)⟩
 cases hr
def vZ(q:Option Nat):Map:=⟨fun k=>if k=0 then some (q,1) else none,fun _ _=>False⟩
theorem zR{q:Option Nat}{id b:Nat}(h:At (vZ q) id b):id=0∧q=some b:=by
 rcases h with ⟨g,h⟩|h
 ·simp only [vZ] at h;split at h
  ·rename_i h0;cases h;exact⟨h0,rfl⟩
  cases h
 exact h.elim
theorem L6{G:Glob}{β0:Map}{w w':World}{X:Nat→Prop}(hi:Inn G [] β0 w X)(hX: ∀b,X b→b<w.heap.size)(hE:Ext (fun _=>False) w w'){ti:TypeId}{l:List Int}{v:Value}(h:w'.ownsRow w.heap.size ti 1 v l.length (l.map (Value.int .i64))):
  ∃β,Left β0 β [] [E.arr ti 1 1 (List.map rI l)] w w' X (V.msl 0 1 1 0 (List.map rI l).length) v:=by
 obtain⟨_,h⟩:=h;have hno: ∀b,¬ ∃k,At β0 k b:=fun b ⟨k,hk⟩=>by
  rcases hk with ⟨g,hk⟩|hk
  ·rw [hi.dom k (by simp)] at hk;cases hk
  exact hi.domn k b (by simp) hk
 have common: ∀(q:Option Nat),(∀b,q=some b→w.heap.size≤b∧b<w'.heap.size)→(∀X',RE (vZ q) w' X' 0 (E.arr ti 1 1 (List.map rI l)))→(∀X',RV (vZ q) w' X' (V.msl 0 1 1 0 (List.map rI l).length) v)→
   ∃β,Left β0 β [] [E.arr ti 1 1 (List.map rI l)] w w' X (V.msl 0 1 1 0 (List.map rI l).length) v:=by
  intro q hq hre hrv;refine⟨vZ q,⟨hE.weaken fun _ _ h=>h.elim,fun id h=>absurd h (vBC _),dA hE,fun k hk=>?_,fun k b _ h=>h,fun id id' b h1 h2=>by rw [(zR h1).1,(zR h2).1],fun k b hb=>?_,fun k e he=>?_,hrv _⟩⟩
  ·have:k≠0:=by have:1≤k:=hk;omega
   simp [vZ,this]
  ·obtain⟨_,h2⟩:=zR hb;exact⟨.inr (hq b h2).1,(hq b h2).2⟩
  cases k with
  |zero=>simp at he;subst he;exact hre _
  |succ k=>simp at he
 rcases h with ⟨rfl,hl⟩|⟨g,cap,cur,rfl,hg,hh,hle,hm,hs,ht⟩
 ·have:l=[]:=vAv hl;subst this;exact common none (fun b h=>by cases h) (fun X'=>⟨kF _,.inl ⟨rfl,rfl⟩⟩) fun X'=> .msl0 0 1 1 (kF _) rfl
 have hlt:g<w'.heap.size:=(vAx.1 hh).1;have hlen:(List.map rI l).length=l.length:=I2 ..;refine common (some g) (fun b h=>by cases h;exact⟨hg,hlt⟩) (fun X'=>⟨kF _,.inr ⟨g,cur,rfl,hh,by rw [hlen,hs];omega,fun row hr=>?_,fun i j row x u h1 h2 h3=>?_⟩⟩) fun X'=>?_
 ·obtain⟨x,_,rfl⟩:=vAT.1 hr;rfl
 ·rw [zG] at h1;cases hx:l[i]? with
  |none=>rw [hx] at h1;cases h1
  |some y=>
   rw [hx] at h1;simp at h1;subst h1;have hi:=(cC.1 hx).1
   match j with
   |0=>
    simp at h2;subst h2;have h4:(l.map (Value.int .i64))[i]? =some (.int .i64 y):=by rw [zG,hx];rfl
    rw [←ht,D8,if_pos (by omega)] at h4;have h5:cur[i]? =some (.int .i64 y):=by simpa using h4
    have h6:cur[i]? =some u:=by simpa using h3
    rw [h5] at h6;cases h6;exact .int _ _
   |j+1=>simp at h2
 have:=RV.msl (β:=vZ (some g)) (w:=w') (X:=X') 0 1 1 0 (List.map rI l).length cap g cur.size ti (kF _) rfl hlt (by unfold World.shape?;rw [hh]) (by rw [hs];omega) (by rw [hlen];exact hle) hm;rw [F7,hlen] at this;rw [hlen];exact this
theorem aKs{f:FuncId}{G:Glob}{ti:TypeId}(hc:hJ P f)
  (h1: ∀(b off n c:Nat) (zs:List Int) (w:World),n≤zs.length→n*8≤140737488355328→(∀j,j<zs.length→w.cell? ⟨b,off+j,none⟩=some (.int .i64 (zs.getD j 0)))→
   Calls P f #[.slice (some ⟨b,off,none⟩) n c] w fun e w'=> ∃v',e= .returned v'∧w'.ownsRow w.heap.size ti 1 v' n ((zs.take n).map (Value.int .i64))∧v'≠ .slice none 0 0∧Below w.heap.size w w')
  (h2: ∀(n c:Nat) (w:World),Calls P f #[.slice none n c] w fun e w'=>e= .returned (.slice none 0 0)∧w'=w)
  (h3: ∀(a:Addr) (c:Nat) (w:World),Calls P f #[.slice (some a) 0 c] w fun e w'=> ∃v',e= .returned v'∧w'.ownsRow w.heap.size ti 1 v' 0 []∧v'≠ .slice none 0 0∧Below w.heap.size w w'):
  ∀(l:List Int) {r:List Int},m_ownClone l=some r→VCC P G f [] [vM rI l] (ms 0 1 1 rI r) [ar ti 1 1 rI r]:=by
 intro l r hr;unfold m_ownClone at hr;split at hr
 ·rename_i hn;cases hr;refine⟨hc,fun w X β0 us hG hX hi hu=>?_⟩;obtain⟨u,rfl,hq⟩: ∃u,us=[u]∧RV β0 w (ownOf X β0 (listH [] 0)) (vM rI l) u:=by
   match us,hu with
   | [u],h=>exact⟨u,rfl,h.1⟩
   | [],h=>exact h.elim
   |_::_::_,h=>exact h.2.elim
  have zero:l=[]→ ∀a cap,u= .slice a 0 cap→Calls P f [u].toArray w fun e w'=> ∃u',∃i:Unit,∃β,e= .returned u'∧True∧Left β0 β [] [ar ti 1 1 rI l] w w' X (ms 0 1 1 rI l) u':=by
   intro hl a cap he;subst hl;subst he;cases a with
   |none=>
    refine(h2 0 cap w).mono ?_;rintro e w' ⟨rfl,rfl⟩;obtain⟨β,hβ⟩:=L6 (ti:=ti) (l:=[]) hi hX (Ext.refl _ _) ⟨rfl,.inl ⟨rfl,rfl⟩⟩;exact⟨_,(),β,rfl,trivial,hβ⟩
   |some a=>
    refine(h3 a cap w).mono ?_;rintro e w' ⟨v',rfl,ho,_,hB⟩;obtain⟨β,hβ⟩:=L6 (ti:=ti) (l:=[]) hi hX (aAn hB) ho;exact⟨_,(),β,rfl,trivial,hβ⟩
  have hu':RV β0 w (ownOf X β0 (listH [] 0)) (.t (.sl (List.map rI l))) u:=hq;cases hu' with
  |t _ _ hu'=>
   generalize hrows:List.map rI l=rows at hu';cases hu' with
   |sl0 a cap=>exact zero (List.map_eq_nil_iff.1 hrows) a cap rfl
   |sl _ b off size cap g hb hX2 hcap hsz hcell hrt=>
    subst hrows;by_cases hl:l=[]
    ·subst hl;exact zero rfl _ _ rfl
    obtain⟨x0,hx0⟩:=vBr l hl;have hs1:size=1:=(hsz (rI x0) (List.mem_map_of_mem hx0)).symm;subst hs1;have hlen:(List.map rI l).length=l.length:=I2 ..;refine(h1 b off (List.map rI l).length cap l w (by rw [hlen];exact kF _) (by rw [hlen];omega) fun j hj=>?_).mono ?_
    ·have hc0:=hcell j 0 (by rw [hlen];exact hj) (by omega);have hg:=dH hj;have hr0:=hrt j 0 (rI l[j]) (T.int .i64 l[j]) (by rw [zG,hg];rfl) rfl;rw [show off+j*1+0=off+j by omega] at hc0;rw [hc0];generalize g j 0=v at hr0;cases hr0;rw [vBh,hg];rfl
    rintro e w' ⟨v',rfl,ho,_,hB⟩;rw [hlen,wQ] at ho;obtain⟨β,hβ⟩:=L6 hi hX (aAn hB) ho;exact⟨_,(),β,rfl,trivial,hβ⟩
 cases hr
end
end Go.Lift

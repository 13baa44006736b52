/- Arrays that the call owns: make, element stores, append, giving up. -/
import Derived.Test.YtohillieiccgdaaGreatGLiftH
namespace Go.Lift
open Go
theorem lA{i j n size:Nat}(hi:i<n)(hj:j<size):i*size+j<n*size:=by
 have:(i+1)*size≤n*size:=Nat.mul_le_mul_right _ hi
 rw [Nat.add_mul] at this;omega
section ops
variable {K:Ctx} {s:S} {d:Option Tmp} {ty:TypeId} {pos:String} {af:Array Edge} {g:Option (Nat×Bool)}
variable {t:TypeId} {u:TypeDesc} {z:Value} {size bytes:Nat}
theorem aIN(k:Nat)(hk:s.u k=false)(l c:Operand)(e:TypeId)(m:Nat)(zrow:List T)(hd: ∀i,d=some i→Nat.blt i K.nt=true)(hu:K.P.underlying t=some (.slice e))(he:TI K.P e u z size bytes)
  (hl:s.get l= .t (.int .i64 (m:Nat))) (hc:s.get c= .t (.int .i64 (m:Nat))) (hz:(cT z).cs=zrow.map .t) (hv:(cT z).val=true) (hs:Nat.beq zrow.length size=true) (hpos:Nat.blt 0 size=true) (hm:m*bytes≤281474976710656) (hm2:m≤9223372036854775807):
  OpJ K ⟨d,.makeSlice t l c,ty,pos,af,g⟩ s ((s.new k (.arr e 1 size (List.replicate m zrow))).put d (.msl k 1 size 0 m)):=by
 intro β a w next Q hr hk'
 have h1:=hr.get l
 rw [hl] at h1
 have h2:=hr.get c
 rw [hc] at h2
 have h1:=aY h1
 have h2:=aY h2
 have hs':=Nat.eq_of_beq_eq_true hs
 have hp:0<size:=by simpa [Nat.blt_eq] using hpos
 obtain⟨c1,c2⟩:=(nC β w (own K β s.H) z).cells hv
 have hzs:z.cells.size=size:=by rw [c1,hz];simpa using hs'
 have hrun:(execOp a.eval ⟨d,.makeSlice t l c,ty,pos,af,g⟩).run K.P w= .ok (.value (.slice (some ⟨w.heap.size,0,none⟩) m m)) (w.alloc (.cells ((Array.range (m*size)).map (z.cells[· %z.cells.size]!)) e)):=by
  obtain⟨_,i,hi1,hi2,hi3,hi4⟩:=he
  have hb:(i.bytes:Int)*(m:Int)≤281474976710656:=by
   rw [hi4,Int.mul_comm,←Int.natCast_mul];omega
  have:=run_make (P:=K.P) w t e i z hu hi1 hi2 .i64 .i64 m m (by omega) (Int.le_refl _) hb (by omega)
  simp only [Int.toNat_natCast,hi3,madeCells] at this
  simp only [execOp,h1,h2,Sem.run_bind,this,Result.andThen_ok]
  rfl
 unfold Oper.wp
 rw [hrun]
 have hnew:=hr.new k 1 hk ((Array.range (m*size)).map (z.cells[· %z.cells.size]!)) e (.arr e 1 size (List.replicate m zrow)) (fun β' X' w' hw hn hrv=>⟨Nat.le_refl _,Or.inr ⟨w.heap.size,_,hn,by subst hw;exact bU _ _,?_,?_,?_⟩⟩)
 ·have hsz:(w.alloc (.cells ((Array.range (m*size)).map (z.cells[· %z.cells.size]!)) e)).heap.size=w.heap.size+1:=World.size_alloc ..
  have hsh:(w.alloc (.cells ((Array.range (m*size)).map (z.cells[· %z.cells.size]!)) e)).shape? w.heap.size=some (e,m*size):=by unfold World.shape?;rw [bU];simp
  have hv:RV (β.put k (some (some w.heap.size,1))) (w.alloc (.cells ((Array.range (m*size)).map (z.cells[· %z.cells.size]!)) e)) (own K (β.put k (some (some w.heap.size,1))) (s.new k (.arr e 1 size (List.replicate m zrow))).H) (.msl k 1 size 0 m)
    (.slice (some ⟨w.heap.size,0*size,none⟩) m m):= .msl k 1 size 0 m m w.heap.size (m*size) e (Nat.le_refl _) (aF _ _ _) (hsz▸Nat.lt_succ_self _) hsh (by rw [Nat.zero_add]) (Nat.le_refl _) (by unfold maxLen;omega)
  rw [Nat.zero_mul] at hv
  exact hk' _ _ _ (hnew.put d hd hv)
 ·simp
 ·intro row hrow
  rw [List.mem_replicate] at hrow
  rw [hrow.2];exact hs'
 ·intro i j row x y hi hj hy
  rw [List.getElem?_replicate] at hi
  split at hi
  ·rename_i him
   cases hi
   have hjl:j<size:=by rw [←hs'];exact(List.getElem?_eq_some_iff.1 hj).1
   have hidx:=lA him hjl
   simp only [Array.getElem?_map,Array.getElem?_range,hidx,if_true,Option.map_some,Option.some.injEq] at hy
   have hmod:(i*size+j)%z.cells.size=j:=by rw [hzs,Nat.add_comm,Nat.add_mul_mod_self_right,Nat.mod_eq_of_lt hjl]
   rw [hmod] at hy
   have hzj:z.cells[j]? =some y:=by rw [←hy];rw [getElem!_pos _ _ (by omega)];simp [hzs,hjl]
   have h3:=c2 j (.t x) y (by rw [hz,List.getElem?_map,hj];rfl) hzj
   have h4:=hrv _ _ h3
   cases h4 with|t _ _ h=>exact h
  ·cases hi
def Src(w:World)(X:Nat→Prop)(size:Nat)(rows:List (List T))(u:Value):Prop:=
 (u= .slice none 0 0∧rows=[])∨ ∃(b off cap:Nat) (us:List Value),u= .slice (some ⟨b,off,none⟩) rows.length cap∧us.length=rows.length*size∧
  (∀(j:Nat) x,us[j]? =some x→w.cell? ⟨b,off+j,none⟩=some x)∧(∀x,x∈us→x.oneCell'=true)∧
  ∀(i j:Nat) (row:List T) (x:T) (y:Value),rows[i]? =some row→row[j]? =some x→us[i*size+j]? =some y→RT w X x y
theorem RT.oneCell{w:World}{X:Nat→Prop}{x:T}{u:Value}(h:RT w X x u):u.oneCell'=true:=by cases h<;>rfl
theorem aEC{β:Map}{w:World}{X:Nat→Prop}{size:Nat}{rows:List (List T)}{u:Value}(h:RV β w X (.t (.sl rows)) u)(hsz: ∀row,row∈rows→row.length=size)(hp:0<size):
  Src w X size rows u∨(rows=[]∧ ∃a cap,u= .slice a 0 cap):=by
 cases h with
 |t _ _ h=>cases h with
  |sl0 a cap=>exact .inr ⟨rfl,a,cap,rfl⟩
  |sl _ b off size' cap f hb hX hcap hsz' hc hr=>
   by_cases hne:rows=[]
   ·subst hne;exact .inr ⟨rfl,_,_,rfl⟩
   ·obtain⟨r0,hr0⟩:=List.exists_mem_of_ne_nil rows hne
    have hss:size'=size:=by rw [←hsz' r0 hr0,hsz r0 hr0]
    subst hss
    refine .inl (.inr ⟨b,off,cap,(List.range (rows.length*size')).map (fun m=>f (m / size') (m%size')),rfl,by simp,fun j x hj=> ?_,fun x hx=> ?_,fun i j row x y h1 h2 h3=> ?_⟩)
    ·rw [List.getElem?_map] at hj
     cases hj2:(List.range (rows.length*size'))[j]? with
     |none=>rw [hj2] at hj;cases hj
     |some j'=>
      rw [hj2] at hj
      have hlt:j<rows.length*size':=by simpa using (List.getElem?_eq_some_iff.1 hj2).1
      have hjj:j'=j:=by rw [List.getElem?_range hlt] at hj2;cases hj2;rfl
      subst hjj
      simp at hj
      rw [←hj]
      have:=hc (j' / size') (j'%size') (by rw [Nat.div_lt_iff_lt_mul hp];exact hlt) (Nat.mod_lt _ hp)
      rw [Nat.add_assoc,Nat.mul_comm,Nat.div_add_mod] at this
      exact this
    ·obtain⟨m,hm,rfl⟩:=List.mem_map.1 hx
     have hm:=List.mem_range.1 hm
     have h1:m / size'<rows.length:=by rw [Nat.div_lt_iff_lt_mul hp];exact hm
     have h2:=Nat.mod_lt m hp
     have h3:=hsz' rows[m / size'] (List.getElem_mem h1)
     exact(hr (m / size') (m%size') rows[m / size'] (rows[m / size'])[m%size'] (List.getElem?_eq_getElem h1) (List.getElem?_eq_getElem (by omega))).oneCell
    ·have hj:j<size':=by rw [←hsz' row (List.mem_of_getElem? h1)];exact(List.getElem?_eq_some_iff.1 h2).1
     have hi:=(List.getElem?_eq_some_iff.1 h1).1
     rw [List.getElem?_map,List.getElem?_range (lA hi hj)] at h3
     simp at h3
     rw [←h3]
     have e1:(i*size'+j) / size'=i:=by rw [Nat.mul_comm,Nat.mul_add_div hp,Nat.div_eq_of_lt hj,Nat.add_zero]
     rw [e1,Nat.mod_eq_of_lt hj]
     exact hr i j row x h1 h2
end ops
end Go.Lift

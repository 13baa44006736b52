/- Views of owned arrays: clear, append of a part behind another part of the same array: steps. -/
import Derived.Test.YtohillieiccgdaaGreatGLiftW
namespace Go.Lift
open Go
theorem aGP{z:Value}{z0:List T}(hv:(cT z).val=true)(hz:xT (cT z).cs=some z0):z.cells.size=z0.length∧ ∀(w:World) (X:Nat→Prop) (j:Nat) (u:Value) (x:T),z.cells[j]? =some u→(z0.map nzT)[j]? =some x→RT w X x u:=by
 have h:=fun(w:World) (X:Nat→Prop)=>(nC (⟨fun _=>none,fun _ _=>False⟩:Map) w X z).cells hv
 have he:=l7 hz
 refine⟨by rw [(h default (fun _=>False)).1,he,List.length_map],fun w X j u x hu hx=> ?_⟩
 rw [List.getElem?_map] at hx
 cases hj:z0[j]? with
 |none=>rw [hj] at hx;cases hx
 |some y=>
  rw [hj] at hx
  simp only [Option.map_some,Option.some.injEq] at hx
  subst hx
  have:=(h w X).2 j (.t y) u (by rw [he,List.getElem?_map,hj];rfl) hu
  cases this with
  |t _ _ h2=>exact h2.nz
section steps
variable {K:Ctx} {s:S} {d:Option Tmp} {ty:TypeId} {pos:String} {af:Array Edge} {g:Option (Nat×Bool)}
variable {t:TypeId} {u:TypeDesc} {z:Value} {size bytes gen:Nat}
theorem N1(zs:Array Value)(n i j:Nat)(hi:i<n)(hj:j<zs.size):(Builtin.zeroCells zs n).toList[i*zs.size+j]? =zs[j]? :=by
 have hlt:i*zs.size+j<n*zs.size:=by
  have:(i+1)*zs.size≤n*zs.size:=Nat.mul_le_mul_right _ hi
  rw [Nat.add_mul] at this;omega
 have hm:(i*zs.size+j)%zs.size=j:=by rw [Nat.mul_comm,Nat.mul_add_mod];exact Nat.mod_eq_of_lt hj
 simp [Builtin.zeroCells,hlt,hm,hj]
theorem aHC(x:Operand)(id off len:Nat)(e e':TypeId)(rows:List (List T))(z0:List T)(hx:s.get x= .msl id gen size off len)(hH:s.H id=some (.arr e' gen size rows))(ht:K.P.underlying t=some (.slice e)){sz:Nat}(he:TI K.P e u z sz bytes)
  (hv:(cT z).val=true) (hz:xT (cT z).cs=some z0) (hzl:z0.length=size) (hl:off+len≤rows.length):
  OpJ K ⟨none,.call {callee:= .builtin .clear,args:= #[x],argTypes:= #[t]},ty,pos,af,g⟩ s {s with H:=upd s.H id (some (.arr e' gen size (rows.take off++List.replicate len (z0.map nzT)++rows.drop (off+len))))}:=by
 intro β a w next Q hr hk
 have hxv:=hr.get x
 rw [hx] at hxv
 have hre:=(hr.heap id _ hH).2
 obtain⟨q,hq⟩:=kX hre
 obtain⟨hzs,hzr⟩:=aGP hv hz
 unfold Oper.wp
 cases len with
 |zero=>
  obtain⟨ad,cap,hxe⟩: ∃ad cap,a.eval x= .slice ad 0 cap:=by
   rcases dF hxv hq with ⟨cap,b,n,ty',hxe,_⟩|⟨_,_,_,hxe⟩
   ·exact⟨_,cap,hxe⟩
   ·exact⟨none,0,hxe⟩
  have hrun:(execOp a.eval ⟨none,.call {callee:= .builtin .clear,args:= #[x],argTypes:= #[t]},ty,pos,af,g⟩).run K.P w= .ok (.value (.tuple #[])) w:=by
   cases ad<;>simp [execOp,resolve,invoke,builtin,hxe,Builtin.clear_,run_underlying ht]
  rw [hrun]
  have:rows.take off++List.replicate 0 (z0.map nzT)++rows.drop (off+0)=rows:=by simp
  refine hk β _ _ ?_
  rw [this]
  exact hr.sameH id _ hH
 |succ len=>
  rcases dF hxv hq with ⟨cap,b,n,ty',hxe,hb0,hw,hs,hn,hlc,hm⟩|⟨_,_,h0,_⟩
  ·subst hb0
   rcases hre.2 with ⟨h1,_⟩|⟨b2,us,h1,h2,h3,h4,h5⟩
   ·rw [hq] at h1;cases h1
   ·rw [hq] at h1;cases h1
    have hsz2:z.cells.size=size:=by rw [hzs,hzl]
    have hcl:(Builtin.zeroCells z.cells (len+1)).toList.length=(len+1)*size:=by rw [Array.length_toList,size_zeroCells,hsz2]
    have hfit:off*size+(len+1)*size≤us.size:=by
     have:(off+(len+1))*size≤rows.length*size:=Nat.mul_le_mul_right _ hl
     rw [Nat.add_mul] at this;omega
    have hcells: ∀(i j:Nat) (u:Value),i<len+1→j<size→(Builtin.zeroCells z.cells (len+1)).toList[i*size+j]? =some u→z.cells[j]? =some u:=by
     intro i j u hi hj hu
     rw [←hsz2] at hj hu
     rwa [N1 _ _ _ _ hi hj] at hu
    have hone: ∀v∈(Builtin.zeroCells z.cells (len+1)).toList,v.oneCell'=true:=by
     intro v hvm
     obtain⟨k,hk⟩:=List.mem_iff_getElem?.1 hvm
     have hkl:=(List.getElem?_eq_some_iff.1 hk).1
     rw [hcl] at hkl
     have hp:0<size:=by
      rcases Nat.eq_zero_or_pos size with e0|e0
      ·rw [e0] at hkl;omega
      ·exact e0
     have hdiv:k / size<len+1:=(Nat.div_lt_iff_lt_mul hp).2 hkl
     have hmod:k%size<size:=Nat.mod_lt _ hp
     have hk':(Builtin.zeroCells z.cells (len+1)).toList[k / size*size+k%size]? =some v:=by rw [Nat.div_add_mod'];exact hk
     have h9:=hcells _ _ _ hdiv hmod hk'
     have:(z0.map nzT)[k%size]? =some (nzT z0[k%size]):=by rw [List.getElem?_map,List.getElem?_eq_getElem (by omega)];rfl
     exact(RV.t (β:=β) _ _ (hzr w (fun _=>False) _ _ _ h9 this)).oneCell rfl
    have hst:=run_storeCells_at K.P b (off*size) e' (Builtin.zeroCells z.cells (len+1)).toList 0 us w h2 (by rw [hcl];omega) hone
    simp only [Nat.add_zero] at hst
    have hrun:(execOp a.eval ⟨none,.call {callee:= .builtin .clear,args:= #[x],argTypes:= #[t]},ty,pos,af,g⟩).run K.P w= .ok (.value (.tuple #[])) (w.setRow b (us.toList.take (off*size)++(Builtin.zeroCells z.cells (len+1)).toList++us.toList.drop (off*size+(Builtin.zeroCells z.cells (len+1)).toList.length)).toArray):=by
     simp [execOp,resolve,invoke,builtin,hxe,Builtin.clear_,run_underlying ht,he.run_zero,hst]
    rw [hrun]
    refine hk β _ _ (aGE hr id b e' rows _ us _ hH hq h2 (by simp [hcl];omega) ?_ ?_ ?_)
    ·have:(rows.take off++List.replicate (len+1) (z0.map nzT)++rows.drop (off+(len+1))).length=rows.length:=by simp;omega
     rw [this];exact h3
    ·intro row hrow
     rw [List.mem_append,List.mem_append] at hrow
     rcases hrow with (hrow|hrow)|hrow
     ·exact h4 row (List.mem_of_mem_take hrow)
     ·rw [(List.mem_replicate.1 hrow).2,List.length_map];exact hzl
     ·exact h4 row (List.mem_of_mem_drop hrow)
    ·intro i j row x' u' a1 a2 a3
     have a3:(us.toList.take (off*size)++(Builtin.zeroCells z.cells (len+1)).toList++us.toList.drop (off*size+(Builtin.zeroCells z.cells (len+1)).toList.length))[i*size+j]? =some u':=by simpa using a3
     rw [hcl] at a3
     have htk:(us.toList.take (off*size)).length=off*size:=by simp;omega
     by_cases c1:i<off
     ·rw [List.append_assoc,List.getElem?_append_left (by simp;omega),List.getElem?_take,if_pos c1] at a1
      have hj:j<size:=by rw [←h4 row (List.mem_of_getElem? a1)];exact(List.getElem?_eq_some_iff.1 a2).1
      have hlt:i*size+j<off*size:=lA c1 hj
      rw [List.append_assoc,List.getElem?_append_left (by omega),List.getElem?_take,if_pos hlt] at a3
      exact .inl ⟨i,row,a1,a2,by simpa using a3⟩
     ·by_cases c2:i<off+(len+1)
      ·rw [List.getElem?_append_left (by simp;omega),List.getElem?_append_right (by simp;omega)] at a1
       have hrow:row=z0.map nzT:=by
        have:=List.mem_of_getElem? a1
        exact(List.mem_replicate.1 this).2
       subst hrow
       have hj:j<size:=by rw [←hzl,←List.length_map (f:=nzT)];exact(List.getElem?_eq_some_iff.1 a2).1
       have e1:i*size+j=off*size+((i-off)*size+j):=by rw [Nat.sub_mul];have:=Nat.mul_le_mul_right size (show off≤i by omega);omega
       have hlt:(i-off)*size+j<(len+1)*size:=lA (by omega) hj
       rw [e1,List.getElem?_append_left (by rw [List.length_append,htk,hcl];omega),List.getElem?_append_right (by omega),htk,Nat.add_sub_cancel_left] at a3
       exact .inr (fun w X=>hzr w X j _ _ (hcells _ _ _ (by omega) hj a3) a2)
      ·have hlen2:(rows.take off++List.replicate (len+1) (z0.map nzT)).length=off+(len+1):=by simp;omega
       rw [List.getElem?_append_right (by omega),hlen2,List.getElem?_drop,show off+(len+1)+(i-(off+(len+1)))=i by omega] at a1
       have hj:j<size:=by rw [←h4 row (List.mem_of_getElem? a1)];exact(List.getElem?_eq_some_iff.1 a2).1
       have hge:off*size+(len+1)*size≤i*size+j:=by
        have:=Nat.mul_le_mul_right size (show off+(len+1)≤i by omega)
        rw [Nat.add_mul] at this;omega
       rw [List.getElem?_append_right (by rw [List.length_append,htk,hcl];omega),List.length_append,htk,hcl,List.getElem?_drop,show off*size+(len+1)*size+(i*size+j-(off*size+(len+1)*size))=i*size+j by omega] at a3
       exact .inl ⟨i,row,a1,a2,by simpa using a3⟩
  ·omega
end steps
end Go.Lift

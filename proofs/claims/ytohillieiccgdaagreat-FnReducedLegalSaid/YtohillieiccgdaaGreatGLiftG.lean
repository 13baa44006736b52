/- Slices: parts of strings and slices, literals, make, append; giving an owned block up. -/
import Derived.Test.YtohillieiccgdaaGreatGLiftF
namespace Go.Lift
open Go
section yields
variable {P:Program} {H:Nat→Option E} {d:Option Tmp} {ty:TypeId} {pos:String} {af:Array Edge} {g:Option (Nat×Bool)}
variable {t:TypeId} {u:TypeDesc} {z:Value} {size bytes:Nat}
theorem cY(w:World)(n:Nat)(y:Nat)(c:Go.BoundsCode)(h:n≤y):(Instr.sliceBound (.int .i64 (n:Nat)) y c).run P w= .ok n w:=by
 simp [Instr.sliceBound,asIntOf]
 intro h';omega
theorem vR(l:List UInt8)(a b:Nat):(ByteArray.mk l.toArray).extract a b=ByteArray.mk ((l.take b).drop a).toArray:=by
 apply ByteArray.ext
 rw [ByteArray.data_extract]
 apply Array.ext'
 simp [List.extract_eq_take_drop,List.drop_take]
theorem aAl(x:Operand)(lo hi:Operand)(l:List UInt8)(a b:Nat)(ht:P.underlying t=some .string)(h1:a≤b)(h2:b≤l.length):
  Yield P H ⟨d,.slice t x (some lo) (some hi) none,ty,pos,af,g⟩ [.t (.str l),.t (.int .i64 (a:Nat)),.t (.int .i64 (b:Nat))] (.t (.str ((l.take b).drop a))):=by
 intro β w X ρ _ ha
 refine⟨.string ⟨((l.take b).drop a).toArray⟩,?_,.t _ _ (.str _)⟩
 have hx:ρ x=_:=cV ha.1
 have hl:ρ lo=_:=aY ha.2.1
 have hh:ρ hi=_:=aY ha.2.2.1
 have hs:(ByteArray.mk l.toArray).size=l.length:=by simp [ByteArray.size]
 simp [execOp,hx,hl,hh,Instr.sliceAt,Instr.slice,run_underlying ht,Instr.sliceBounds,hs,cY w b l.length _ h2,cY w a b _ h1,vR]
theorem xR(x:Operand)(lo:Operand)(l:List UInt8)(a:Nat)(ht:P.underlying t=some .string)(h1:a≤l.length):
  Yield P H ⟨d,.slice t x (some lo) none none,ty,pos,af,g⟩ [.t (.str l),.t (.int .i64 (a:Nat))] (.t (.str (l.drop a))):=by
 intro β w X ρ _ ha
 refine⟨.string ⟨(l.drop a).toArray⟩,?_,.t _ _ (.str _)⟩
 have hx:ρ x=_:=cV ha.1
 have hl:ρ lo=_:=aY ha.2.1
 have hs:(ByteArray.mk l.toArray).size=l.length:=by simp [ByteArray.size]
 simp [execOp,hx,hl,Instr.sliceAt,Instr.slice,run_underlying ht,Instr.sliceBounds,hs,cY w a l.length _ h1,vR]
theorem C4(x:Operand)(hi:Operand)(l:List UInt8)(b:Nat)(ht:P.underlying t=some .string)(h2:b≤l.length):
  Yield P H ⟨d,.slice t x none (some hi) none,ty,pos,af,g⟩ [.t (.str l),.t (.int .i64 (b:Nat))] (.t (.str (l.take b))):=by
 intro β w X ρ _ ha
 refine⟨.string ⟨(l.take b).toArray⟩,?_,.t _ _ (.str _)⟩
 have hx:ρ x=_:=cV ha.1
 have hh:ρ hi=_:=aY ha.2.1
 have hs:(ByteArray.mk l.toArray).size=l.length:=by simp [ByteArray.size]
 simp [execOp,hx,hh,Instr.sliceAt,Instr.slice,run_underlying ht,Instr.sliceBounds,hs,cY w b l.length _ h2,vR]
theorem RT.part{w:World}{X:Nat→Prop}{rows:List (List T)}{v:Value}(h:RT w X (.sl rows) v)(a b size:Nat)(h1:a≤b)(h2:b≤rows.length)(hsz: ∀row,row∈rows→row.length=size):
  ∃ad cap,v= .slice ad rows.length cap∧rows.length≤cap∧RT w X (.sl ((rows.take b).drop a)) (.slice (if cap=a then ad else ad.map (·.add (a*size))) (b-a) (cap-a)):=by
 cases h with
 |sl0 ad cap=>
  have ha:a=0:=by simp at h2;omega
  have hb:b=0:=by simp at h2;omega
  subst ha;subst hb
  exact⟨ad,cap,rfl,by simp,by simpa using RT.sl0 _ _⟩
 |sl _ b' off size' cap f hb hX hcap hsz' hc hr=>
  refine⟨_,cap,rfl,hcap,?_⟩
  have hlen:((rows.take b).drop a).length=b-a:=by simp;omega
  by_cases hab:a=b
  ·subst hab
   rw [show(rows.take a).drop a=[] by simp]
   rw [Nat.sub_self]
   exact .sl0 _ _
  ·have hne:rows≠[]:=by intro e;subst e;simp at h2;omega
   obtain⟨r0,hr0⟩:=List.exists_mem_of_ne_nil rows hne
   have hss:size'=size:=by rw [←hsz' r0 hr0,hsz r0 hr0]
   subst hss
   rw [if_neg (by omega)]
   simp only [Option.map_some,d9]
   rw [←hlen]
   refine .sl _ b' (off+a*size') size' (cap-a) (fun i j=>f (a+i) j) hb hX (by rw [hlen];omega) (fun row hrow=>hsz row (List.mem_of_mem_take (List.mem_of_mem_drop hrow))) (fun i j hi hj=> ?_) (fun i j row x h3 h4=> ?_)
   ·have:=hc (a+i) j (by rw [hlen] at hi;omega) hj
    rw [Nat.add_mul,←Nat.add_assoc] at this
    exact this
   ·refine hr (a+i) j row x ?_ h4
    rw [List.getElem?_drop,List.getElem?_take] at h3
    split at h3
    ·exact h3
    ·cases h3
theorem zV(x:Operand)(lo:Operand)(e:TypeId)(rows:List (List T))(a:Nat)(ht:P.underlying t=some (.slice e))(he:TI P e u z size bytes)(h1:a≤rows.length)(hsz: ∀row,row∈rows→row.length=size):
  Yield P H ⟨d,.slice t x (some lo) none none,ty,pos,af,g⟩ [.t (.sl rows),.t (.int .i64 (a:Nat))] (.t (.sl (rows.drop a))):=by
 intro β w X ρ _ ha
 have hl:ρ lo=_:=aY ha.2.1
 have h0:RV β w X (.t (.sl rows)) (ρ x):=ha.1
 cases h0 with
 |t _ _ h=>
  obtain⟨ad,cap,hx,hcap,hr⟩:=h.part a rows.length size h1 (Nat.le_refl _) hsz
  rw [List.take_length] at hr
  refine⟨_,?_,.t _ _ hr⟩
  simp [execOp,hx,hl,Instr.sliceAt,Instr.slice,run_underlying ht,Instr.sliceBounds,cY w a rows.length _ h1,he.run_sizeOf]
theorem N2(x:Operand)(hi:Operand)(e:TypeId)(rows:List (List T))(b:Nat)(ht:P.underlying t=some (.slice e))(he:TI P e u z size bytes)(h2:b≤rows.length)(hsz: ∀row,row∈rows→row.length=size):
  Yield P H ⟨d,.slice t x none (some hi) none,ty,pos,af,g⟩ [.t (.sl rows),.t (.int .i64 (b:Nat))] (.t (.sl (rows.take b))):=by
 intro β w X ρ _ ha
 have hl:ρ hi=_:=aY ha.2.1
 have h0:RV β w X (.t (.sl rows)) (ρ x):=ha.1
 cases h0 with
 |t _ _ h=>
  obtain⟨ad,cap,hx,hcap,hr⟩:=h.part 0 b size (Nat.zero_le _) h2 hsz
  simp only [List.drop_zero] at hr
  refine⟨_,?_,.t _ _ hr⟩
  simp [execOp,hx,hl,Instr.sliceAt,Instr.slice,run_underlying ht,Instr.sliceBounds,cY w b cap _ (by omega),he.run_sizeOf]
theorem aBK(x:Operand)(lo hi:Operand)(e:TypeId)(rows:List (List T))(a b:Nat)(ht:P.underlying t=some (.slice e))(he:TI P e u z size bytes)(h1:a≤b)(h2:b≤rows.length)(hsz: ∀row,row∈rows→row.length=size):
  Yield P H ⟨d,.slice t x (some lo) (some hi) none,ty,pos,af,g⟩ [.t (.sl rows),.t (.int .i64 (a:Nat)),.t (.int .i64 (b:Nat))] (.t (.sl ((rows.take b).drop a))):=by
 intro β w X ρ _ ha
 have hl:ρ lo=_:=aY ha.2.1
 have hh:ρ hi=_:=aY ha.2.2.1
 have h0:RV β w X (.t (.sl rows)) (ρ x):=ha.1
 cases h0 with
 |t _ _ h=>
  obtain⟨ad,cap,hx,hcap,hr⟩:=h.part a b size h1 h2 hsz
  refine⟨_,?_,.t _ _ hr⟩
  simp [execOp,hx,hl,hh,Instr.sliceAt,Instr.slice,run_underlying ht,Instr.sliceBounds,cY w b cap _ (by omega),cY w a b _ h1,he.run_sizeOf]
end yields
end Go.Lift

/- Bytes and strings. -/
import Derived.Test.YtlbojjldejlgaaaGreatTLiftQ
import Derived.Laws.BytesArg
namespace Go.Lift
open Go
section
variable {P:Program} {H:Nat→Option E} {d:Option Tmp} {ty:TypeId} {pos:String} {af:Array Edge} {g:Option (Nat×Bool)}
theorem aJc(n:Int):IntKind.u8.wrap n=((UInt8.ofInt n).toNat:Int):=by
 have:IntKind.u8.wrap n=n%256:=by simp [IntKind.wrap,IntKind.bits,IntKind.signed]
 rw [this];simp [UInt8.ofInt];omega
theorem aBN(x:Operand)(src dst e:TypeId)(l:List UInt8)(hs:P.underlying src=some (.slice e))(he:P.underlying e=some (.int .u8))(hd:P.underlying dst=some .string):
  Yield P H ⟨d,.convert src dst x,ty,pos,af,g⟩ [vL (l.map mX)] (vS l):=by
 intro β w X ρ _ ha;refine⟨.string ⟨l.toArray⟩,?_,.t _ _ (.str l)⟩;have h1:RV β w X (vL (l.map mX)) (ρ x):=ha.1;simp only [execOp];suffices (convert src dst (ρ x)).run P w= .ok (.string ⟨l.toArray⟩) w by
  simp only [Sem.run_bind,this,Result.andThen_ok,Sem.run_pure]
 generalize ρ x=y at h1⊢;cases h1 with
 |t _ _ h=>
  generalize hr:l.map mX=rows at h;cases h with
  |sl0 a cap=>
   have hl:l=[]:=by simpa using hr
   subst hl;rw [run_convert_bytes_string w src dst e _ _ _ hs he hd];cases a with
   |none=>simp [Conv.bytesToString];rfl
   |some a=>
    rw [run_bytesToString w a 0 cap [] (by simp [loadCells,loadCellsFrom,Sem.run_pure])];rfl
  |sl _ b off size cap f hb hX hcap hsz hc hrr=>
   subst hr;cases hl:l with
   |nil=>
    subst hl
    have:=run_convert_bytes_arg (P:=P) w src e hs he b off 0 cap [] rfl (fun i hi=>by omega) dst hd;exact this
   |cons y l'=>
    rw [←hl];have hsize:size=1:=by
     have:=hsz (mX y) (by rw [hl];simp);simpa using this.symm
    subst hsize;have hf: ∀(i:Nat) (z:UInt8),l[i]? =some z→f i 0= .int .u8 (z.toNat:Int):=by
     intro i z hz;have h2:=hrr i 0 (mX z) (.int .u8 (z.toNat:Nat)) (by rw [zG,hz];rfl) rfl;generalize f i 0=q at h2⊢;cases h2;rfl
    have:=run_convert_bytes_arg (P:=P) w src e hs he b off (l.map mX).length cap (l.map fun z=>(z.toNat:Int)) (by simp) (fun i hi=>by
     have hi':i<l.length:=by simpa using hi
     have hz:l[i]? =some l[i]:=dH hi';have h3:=hc i 0 (by simpa using hi') (by omega);rw [hf i _ hz] at h3;rw [show off+i*1+0=off+i by omega] at h3;rw [h3];simp [List.getD_eq_getElem?_getD,hz]) dst hd
    rw [this];congr 2;simp only [strOfNums,List.map_map];congr 2;apply List.ext_getElem?;intro i;rw [zG];cases hz:l[i]? with
    |none=>rfl
    |some z=>simp
end
end Go.Lift

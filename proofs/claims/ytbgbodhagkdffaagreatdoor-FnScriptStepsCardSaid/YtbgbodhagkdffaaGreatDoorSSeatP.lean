/- Tools. -/
import Derived.Test.YtbgbodhagkdffaaGreatDoorSTab
import Derived.Test.YtbgbodhagkdffaaGreatDoorSRowB
import Derived.Test.YtbgbodhagkdffaaGreatDoorSCmpR
import Derived.Test.YtbgbodhagkdffaaGreatDoorSCpfR
import Derived.Test.YtbgbodhagkdffaaGreatDoorSRowS
import Derived.Test.YtbgbodhagkdffaaGreatDoorRows
import Derived.Test.YtbgbodhagkdffaaGreatDoorSLiftBm
import Derived.Shelf.Strings.SlTrimAscii
set_option maxRecDepth 100000
namespace Go.Lift
open Go Go.Proofs Go.RowKit Go.Proofs.Tryz
open Go renaming laidMet -> IQ
theorem Yj:gw prog 54:=⟨_,func54,rfl,rfl⟩
theorem air:gw prog 133:=⟨_,func133,rfl,rfl⟩
theorem aiq:gw prog 150:=⟨_,func150,rfl,rfl⟩
theorem aip:gw prog 152:=⟨_,func152,rfl,rfl⟩
theorem aio:gw prog 167:=⟨_,func167,rfl,rfl⟩
theorem ain:gw prog 217:=⟨_,func217,rfl,rfl⟩
theorem ahz:gw prog 299:=⟨_,func299,rfl,rfl⟩
theorem ahw:gw prog 354:=⟨_,func354,rfl,rfl⟩
theorem ahv:gw prog 420:=⟨_,func420,rfl,rfl⟩
theorem ahu:gw prog 443:=⟨_,func443,rfl,rfl⟩
theorem aht:gw prog 444:=⟨_,func444,rfl,rfl⟩
theorem ahs:gw prog 445:=⟨_,func445,rfl,rfl⟩
theorem ahy:gw prog 333:=⟨_,func333,rfl,rfl⟩
theorem ahx:gw prog 334:=⟨_,func334,rfl,rfl⟩
theorem Yh:gw prog 57:=⟨_,func57,rfl,rfl⟩
theorem Yi:gw prog 56:=⟨_,func56,rfl,rfl⟩
theorem yd(s:ByteArray):s.data.toList.length=s.size:=sj ..
theorem acQ(w:World): ∀n,Below w.heap.size w (w.drewN n):=λ_=>⟨rfl,rfl,rfl,dV _,λ_ _=>rfl⟩
abbrev v':List (String×DataW Unit):=YtbgbodhagkdffaaGreatDoor.Rows.fnScriptStepsRow.laid
def T1:String:=((v'.getD 2 ("",.nil)).1)
theorem MC:prog.globalNamed T1=some 3:=J
theorem agM:(prog.globals[3]?).map (·.type)=some 371:=J
theorem aiK:prog.cellsOf 371=20:=J
theorem aiJ:prog.cellsOf 336=1:=J
theorem Vb:prog.globalNamed "strconv.ErrRange" =some 2:=J
theorem ade:(prog.globals[2]?).map (·.type)=some 89:=J
theorem Uu:prog.globalNamed "strconv.ErrSyntax" =some 1:=J
theorem acv:(prog.globals[1]?).map (·.type)=some 89:=J
variable {W:World}
theorem YH(h:laidMetH prog v' W):IQ prog v' W:=h
theorem aiL(h:IQ prog v' W):Lib.TabIs prog W T1 .u64 Lib.pow10Tab:=
 Lib.tabIs_of_head (rest:=_) MC agM underlying371 underlying336 aiJ aiK (laidMet.tail (laidMet.tail h))
theorem agB(h:IQ prog v' W): ∃u v,W.var? prog "strconv.ErrRange" =some #[.iface u v]:=
 QY (laidMet.tail (laidMet.tail (laidMet.tail (laidMet.tail h)))) Vb ade underlying89
theorem ae6(h:IQ prog v' W): ∃u v,W.var? prog "strconv.ErrSyntax" =some #[.iface u v]:=
 QY (laidMet.tail (laidMet.tail (laidMet.tail (laidMet.tail (laidMet.tail h))))) Uu acv underlying89
theorem YR(F:W.ShapedOpen prog)(z:laidMetH prog v' W): ∃G:dt,G.g.ok W:=by
 have z:=YH z;have C:=aiL z;obtain⟨f,u,a⟩:=agB z;obtain⟨E,M,P⟩:=ae6 z;obtain⟨m,y⟩:=Tryz.W3.s1_3 W F;have y:W.cell? ⟨0,0,none⟩=some (.int .i64 m):=y;have S:3<W.heap.size:=aeY MC C;let G:gC:=⟨4,W⟩
 have R:=Yr (G:=G) (te:=5) aip
  (λs v d q w _=>Any.strconv_Atoi_ok Tryz.G5 s d v q w)
  (λs d q T w o=>(Any.strconv_Atoi_syntax_var Tryz.G5 s d (by rcases X:Lib.atoiAll s.data.toList with v|_|_;exact bu X (q v);rfl;exact bu X T) E M w ((KU o Uu (by decide)).trans P)).mono λe A h=>by obtain⟨N,d,_,_,H⟩:=h;exact⟨_,_,d,H⟩)
  λs d q w o=>(Any.strconv_Atoi_range_var Tryz.G5 s d q f u w ((KU o Vb (by decide)).trans a)).mono λe A h=>by obtain⟨N,d,_,_,H⟩:=h;exact⟨_,_,d,H⟩
 refine⟨{g:=G,split:= ?_,itoa:= ?_,cut:= ?_,x':= ?_,x9:= ?_,clone:= ?_,WR:= ?_,join:= ?_,contains:= ?_,indexB:= ?_,WM:= ?_,Xm:= ?_,trimS:= ?_,H2:= ?_,VP:= ?_,MH:= ?_,s4:= ?_},by show 4<=W.heap.size;omega,λb _=>rfl⟩
 ·exact aiB (ts:=9) Yj λs K d q w o=>Any.strings_Split Tryz.WZ J s K m w d ((Et o (by decide)).trans y) q
 ·exact Yq air λn V d w o=>Any.strconv_Itoa Tryz.amw n V d w ((KU o MC (by decide)).trans C)
 ·exact A' ajk aiq (λs t r a w o=>by
   unfold pZ at a;split at a
   ·rename_i i;cases a;exact(Any.strings_Cut Tryz.amu s t m w (yd s▸i) ((Et o (by decide)).trans y)).mono λe A h=>by obtain⟨d,n,rfl⟩:=h;exact⟨d,acQ w n⟩
   cases a)
 ·exact R.1
 ·exact R.2
 ·exact aiC aio (Any.slices_Clone_int Tryz.NQ) (Any.slices_Clone_int_nil Tryz.NQ) (Any.slices_Clone_int_zero Tryz.NQ)
 ·exact A' LM ain (λs t r a w o=>by
   unfold Ha at a;split at a
   ·rename_i i;cases a;exact(Any.strings_Index Tryz.ams s t m w (yd s▸i) ((Et o (by decide)).trans y)).mono λe A h=>by obtain⟨d,rfl⟩:=h;exact⟨d,Below.refl _ _⟩
   cases a)
 ·exact λl t r a=>by
   unfold Ct at a;split at a
   ·rename_i i;cases a;exact Yp ahz (Any.strings_Join_none Tryz.G4 Tryz.DB) (Any.strings_Join Tryz.G4 Tryz.DB) l t i.1 i.2
   cases a
 ·exact adR ahw λs sub d w o=>Any.strings_Contains Tryz.amt s sub m w d ((Et o (by decide)).trans y)
 ·exact Yo ahv (λs c r a w o=>by
   unfold Hb at a;cases a;refine(Any.strings_IndexByte Tryz.amr s _ w).mono λe A h=>?_;obtain⟨d,rfl⟩:=h;exact⟨by simpa using d,Below.refl _ _⟩)
 ·exact A' LM ahu (λs t r a w o=>by
   unfold Cs at a;split at a
   ·rename_i i;cases a;exact Any.strings_IndexAny_laid Tryz.amv J s t w (yd s▸i.1.1) (yd t▸i.1.2) (λj b B=>i.2.1 b (ca B)) λj b B=>i.2.2 b (ca B)
   cases a)
 ·exact A' FX aht (λs t r a w o=>by
   unfold Cu at a;split at a
   ·rename_i i;cases a;exact(Any.strings_TrimLeft_laid Tryz.NP J s t w (yd t▸i.1) λj b B=>i.2 b (ca B))
   cases a)
 ·exact A' FX ahs (λs t r a w o=>by
   unfold y5 at a;split at a
   ·rename_i i;cases a;exact(Any.strings_TrimSuffix Tryz.amq s t w (yd s▸i)).mono λe A h=>by obtain⟨d,rfl⟩:=h;exact⟨d,Below.refl _ _⟩
   cases a)
 ·exact λΓ m m1 L Q x gs r a=>abY Tryz.amy ajC ajv ahy L Q a
 ·exact λΓ m m1 L Q x gs dm=>acT ajL ajY ahx L Q x dm
 ·exact λp C k x s r a=>by
   unfold app at a;split at a
   ·rename_i i;cases a;exact ajq (ρ:=Tryz.l9) {Tryz.G4 with} Tryz.DB J Yh G p C k x s i
   cases a
 exact λp k x hx=>ajp (ρ:=Tryz.l9) {Tryz.G4 with} Tryz.DB Yi G p k x hx
end Go.Lift

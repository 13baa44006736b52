/- Tools. -/
import Derived.Shelf.Small.Bits
import Derived.Shelf.Small.Wraps
import Derived.Shelf.Strconv.Itoa0
import Derived.Shelf.Strings.Search1
import Derived.Shelf.Strings.Search2
import Derived.Shelf.Strings.Search3
import Derived.Shelf.LaysM
import Derived.Shelf.Strings.Shaped
import Derived.Shelf.Slices.Turned
import Derived.Shelf.Slices.Equal
import Derived.Ground.Names2Prog
import Derived.Shelf.Slices.Clone
import Derived.Shelf.Slices.SearchI
import Derived.Shelf.Slices.Delete
import Derived.Shelf.Slices.Cells
import Derived.Shelf.Slices.Empties
import Derived.Shelf.Slices.Empties2
import Derived.Ground.SlgnProg
import Derived.Shelf.SlicesE.Delete
import Derived.Shelf.SlicesE.Clone
import Derived.Ground.SlsfProg
import Derived.Shelf.SlSortCmp.Insertion
import Derived.Shelf.SlSortCmp.SiftDown1
import Derived.Shelf.SlSortCmp.HeapSort1
import Derived.Shelf.SlSortCmp.Insertion1
import Derived.Shelf.SlSortCmp.Median1
import Derived.Shelf.SlSortCmp.Pivot1
import Derived.Shelf.SlSortCmp.ReverseRange1
import Derived.Shelf.SlSortCmp.PartialInsertion1
import Derived.Shelf.SlSortCmp.PartitionEqual1
import Derived.Shelf.SlSortCmp.Partition1
import Derived.Shelf.SlSortCmp.Pdq1
import Derived.Shelf.SlSortCmp.Whole1
import Derived.Shelf.SlSortCmp.NoneTotal
import Derived.Test.YtlklcemjbgpcnaaGreatProg
namespace Go.Proofs
open Go.Shelf Go.Proofs.Tryz
def Tryz.aka:Go.Shelf.Ren:=⟨fun|144=>306|143=>329|219=>335|217=>346|225=>347|224=>348|267=>349|266=>355|314=>356|n=>n,fun|9=>9|4=>4|3=>3|5=>5|46=>303|146=>321|51=>312|n=>n,fun|1=>0|n=>n⟩
theorem Tryz.aj':Go.Proofs.Lays.n144 prog Tryz.aka:={
 mixed:=by kernel_rfl
 f143:=func329.trans (congrArg some (by kernel_rfl))
 f144:=func306.trans (congrArg some (by kernel_rfl))
 f217:=func346.trans (congrArg some (by kernel_rfl))
 f219:=func335.trans (congrArg some (by kernel_rfl))
 f224:=func348.trans (congrArg some (by kernel_rfl))
 f225:=func347.trans (congrArg some (by kernel_rfl))
 f266:=func355.trans (congrArg some (by kernel_rfl))
 f267:=func349.trans (congrArg some (by kernel_rfl))
 f314:=func356.trans (congrArg some (by kernel_rfl))
 t3:=underlying3
 a3:=isAgg3
 z3:=sizeOf3
 v3:=zeroValue3
 t4:=underlying4
 a4:=isAgg4
 z4:=sizeOf4
 v4:=zeroValue4
 t5:=underlying5
 a5:=isAgg5
 z5:=sizeOf5
 v5:=zeroValue5
 t9:=underlying9
 a9:=isAgg9
 z9:=sizeOf9
 v9:=zeroValue9
 t46:=underlying303
 a46:=isAgg303
 z46:=sizeOf303
 v46:=zeroValue303
 t51:=underlying312
 a51:=isAgg312
 z51:=sizeOf312
 v51:=zeroValue312
 t146:=underlying321
 a146:=isAgg321
 z146:=sizeOf321
 v146:=zeroValue321
 g1:=by kernel_rfl}
open Go.RowKit Go.Lib in
theorem Tryz.strings_Contains(s sub:ByteArray)(m:Int)(w:World)(hs:s.size<4294967281)(hm:w.cell? ⟨0,0,none⟩=some (.int .i64 m)):
  Calls prog 306 #[.string s,.string sub] w fun e w'=>e= .returned (.bool (Lib.contains s.data.toList sub.data.toList))∧w'=w:=Any.strings_Contains Tryz.aj' s sub m w hs hm
def Tryz.akc:Go.Shelf.Ren:=⟨fun|144=>306|143=>329|219=>335|217=>346|225=>347|224=>348|267=>349|266=>355|314=>356|n=>n,fun|9=>9|4=>4|3=>3|5=>5|46=>303|146=>321|51=>312|n=>n,fun|1=>0|n=>n⟩
theorem Tryz.akb:Go.Proofs.LaysM.n144 prog Tryz.akc:={
 mixed:=by kernel_rfl
 f143:=func329.trans (congrArg some (by kernel_rfl))
 f144:=func306.trans (congrArg some (by kernel_rfl))
 f217:=func346.trans (congrArg some (by kernel_rfl))
 f219:=func335.trans (congrArg some (by kernel_rfl))
 f224:=func348.trans (congrArg some (by kernel_rfl))
 f225:=func347.trans (congrArg some (by kernel_rfl))
 f266:=func355.trans (congrArg some (by kernel_rfl))
 f267:=func349.trans (congrArg some (by kernel_rfl))
 f314:=func356.trans (congrArg some (by kernel_rfl))
 t3:=underlying3
 a3:=isAgg3
 z3:=sizeOf3
 v3:=zeroValue3
 t4:=underlying4
 a4:=isAgg4
 z4:=sizeOf4
 v4:=zeroValue4
 t5:=underlying5
 a5:=isAgg5
 z5:=sizeOf5
 v5:=zeroValue5
 t9:=underlying9
 a9:=isAgg9
 z9:=sizeOf9
 v9:=zeroValue9
 t46:=underlying303
 a46:=isAgg303
 z46:=sizeOf303
 v46:=zeroValue303
 t51:=underlying312
 a51:=isAgg312
 z51:=sizeOf312
 v51:=zeroValue312
 t146:=underlying321
 a146:=isAgg321
 z146:=sizeOf321
 v146:=zeroValue321
 g1:=by kernel_rfl
 i3:=by kernel_rfl
 i4:=by kernel_rfl
 i5:=by kernel_rfl
 i9:=by kernel_rfl
 i46:=by kernel_rfl
 i51:=by kernel_rfl
 i146:=by kernel_rfl
 m1:=by kernel_rfl
 s1_3:=fun w h=>Go.Proofs.cell_of_shapedOpen_int (zero:= #[.int .i64 0]) (t:=3) h (of_decide_eq_true (by kernel_rfl)) (by kernel_rfl) rfl (by kernel_rfl) (by kernel_rfl) underlying3}
def Tryz.aj9:Go.Shelf.Ren:=⟨fun|111=>279|n=>n,fun|28=>58|3=>3|4=>4|0=>0|n=>n,fun|n=>n⟩
theorem Tryz.KB:Go.Proofs.Lays.n111 prog Tryz.aj9:={
 mixed:=by kernel_rfl
 f111:=func279.trans (congrArg some (by kernel_rfl))
 t0:=underlying0
 a0:=isAgg0
 z0:=sizeOf0
 v0:=zeroValue0
 t3:=underlying3
 a3:=isAgg3
 z3:=sizeOf3
 v3:=zeroValue3
 t4:=underlying4
 a4:=isAgg4
 z4:=sizeOf4
 v4:=zeroValue4
 t28:=underlying58
 a28:=isAgg58
 z28:=sizeOf58
 v28:=zeroValue58}
open Go.RowKit Go.Lib in
theorem Tryz.slices_Equal_int(dd hY n c cB hF m d:Nat)(xs ys:List Int)(w:World)(hx:n≤xs.length)(hy:m≤ys.length)(hbig:n≤9223372036854775807)(hbig2:m≤9223372036854775807)(hc1: ∀j,j<xs.length→w.cell? ⟨dd,hY+j,none⟩=some (.int .i64 (xs.getD j 0)))(hc2: ∀j,j<ys.length→w.cell? ⟨cB,hF+j,none⟩=some (.int .i64 (ys.getD j 0))):
  Calls prog 279 #[.slice (some ⟨dd,hY,none⟩) n c,.slice (some ⟨cB,hF,none⟩) m d] w fun e w'=>e= .returned (.bool (xs.take n==ys.take m))∧ ∃q,w'=w.drewN q:=Any.slices_Equal_int Tryz.KB dd hY n c cB hF m d xs ys w hx hy hbig hbig2 hc1 hc2
open Go.RowKit Go.Lib in
theorem Tryz.slices_Equal_int_empty(aL a2:Option Addr)(c m d:Nat)(w:World)(hbig2:m≤9223372036854775807):
  Calls prog 279 #[.slice aL 0 c,.slice a2 m d] w fun e w'=>e= .returned (.bool (decide (m=0)))∧w'=w:=Any.slices_Equal_int_empty Tryz.KB aL a2 c m d w hbig2
def Tryz.akd:Go.Shelf.Ren:=⟨fun|15=>61|n=>n,fun|22=>58|3=>3|4=>4|n=>n,fun|n=>n⟩
theorem Tryz.KC:Go.Proofs.Lays2.n15 prog Tryz.akd:={
 mixed:=by kernel_rfl
 f15:=func61.trans (congrArg some (by kernel_rfl))
 t3:=underlying3
 a3:=isAgg3
 z3:=sizeOf3
 v3:=zeroValue3
 t4:=underlying4
 a4:=isAgg4
 z4:=sizeOf4
 v4:=zeroValue4
 t22:=underlying58
 a22:=isAgg58
 z22:=sizeOf58
 v22:=zeroValue58
 i3:=by kernel_rfl}
open Go.RowKit Go.Lib in
theorem Tryz.slices_Clone_int(b off n c:Nat)(pB:List Int)(w:World)(ep:n≤pB.length)(hbig:n*8≤140737488355328)(bS: ∀j,j<pB.length→w.cell? ⟨b,off+j,none⟩=some (.int .i64 (pB.getD j 0))):
  Calls prog 61 #[.slice (some ⟨b,off,none⟩) n c] w fun e w'=> ∃dC,e= .returned dC∧w'.ownsRow w.heap.size 3 1 dC n ((pB.take n).map (Value.int .i64))∧dC≠ .slice none 0 0∧Below w.heap.size w w':=Any.slices_Clone_int Tryz.KC b off n c pB w ep hbig bS
open Go.RowKit Go.Lib in
theorem Tryz.slices_Clone_int_nil(n c:Nat)(w:World):
  Calls prog 61 #[.slice none n c] w fun e w'=>e= .returned (.slice none 0 0)∧w'=w:=Any.slices_Clone_int_nil Tryz.KC n c w
open Go.RowKit Go.Lib in
theorem Tryz.slices_Clone_int_zero(a:Addr)(c:Nat)(w:World):
  Calls prog 61 #[.slice (some a) 0 c] w fun e w'=> ∃dC,e= .returned dC∧w'.ownsRow w.heap.size 3 1 dC 0 []∧dC≠ .slice none 0 0∧Below w.heap.size w w':=Any.slices_Clone_int_zero Tryz.KC a c w
def Tryz.akf:Go.Shelf.Ren:=⟨fun|23=>124|n=>n,fun|22=>58|3=>3|4=>4|0=>0|n=>n,fun|n=>n⟩
theorem Tryz.ake:Go.Proofs.Lays2.n23 prog Tryz.akf:={
 mixed:=by kernel_rfl
 f23:=func124.trans (congrArg some (by kernel_rfl))
 t0:=underlying0
 a0:=isAgg0
 z0:=sizeOf0
 v0:=zeroValue0
 t3:=underlying3
 a3:=isAgg3
 z3:=sizeOf3
 v3:=zeroValue3
 t4:=underlying4
 a4:=isAgg4
 z4:=sizeOf4
 v4:=zeroValue4
 t22:=underlying58
 a22:=isAgg58
 z22:=sizeOf58
 v22:=zeroValue58
 i3:=by kernel_rfl}
open Go.RowKit Go.Lib in
theorem Tryz.slices_Equal_int_lens(aL a2:Option Addr)(n c m d:Nat)(w:World)(hnm:n≠m):
  Calls prog 279 #[.slice aL n c,.slice a2 m d] w fun e w'=>e= .returned (.bool false)∧w'=w:=Any.slices_Equal_int_lens Tryz.KB aL a2 n c m d w hnm
def Tryz.akg:Go.Shelf.Ren:=⟨fun|6=>316|15=>334|14=>333|28=>344|29=>345|20=>336|21=>337|22=>338|23=>339|24=>340|25=>341|26=>342|27=>343|46=>350|47=>351|48=>352|49=>353|50=>354|57=>357|n=>n,fun|22=>121|24=>58|25=>232|3=>3|39=>303|0=>0|53=>312|55=>314|4=>4|46=>306|45=>305|50=>107|5=>5|9=>9|66=>316|70=>266|76=>323|77=>254|n=>n,fun|n=>n⟩
theorem Tryz.S':Go.Proofs.SlLaysF.n6 prog Tryz.akg:={
 mixed:=by kernel_rfl
 f6:=⟨f316.name,by decide,func316.trans (congrArg some (by kernel_rfl))⟩
 f14:=⟨f333.name,by decide,func333.trans (congrArg some (by kernel_rfl))⟩
 f15:=func334.trans (congrArg some (by kernel_rfl))
 f20:=⟨f336.name,by decide,func336.trans (congrArg some (by kernel_rfl))⟩
 f21:=⟨f337.name,by decide,func337.trans (congrArg some (by kernel_rfl))⟩
 f22:=⟨f338.name,by decide,func338.trans (congrArg some (by kernel_rfl))⟩
 f23:=⟨f339.name,by decide,func339.trans (congrArg some (by kernel_rfl))⟩
 f24:=⟨f340.name,by decide,func340.trans (congrArg some (by kernel_rfl))⟩
 f25:=⟨f341.name,by decide,func341.trans (congrArg some (by kernel_rfl))⟩
 f26:=⟨f342.name,by decide,func342.trans (congrArg some (by kernel_rfl))⟩
 f27:=⟨f343.name,by decide,func343.trans (congrArg some (by kernel_rfl))⟩
 f28:=func344.trans (congrArg some (by kernel_rfl))
 f29:=func345.trans (congrArg some (by kernel_rfl))
 f46:=⟨f350.name,by decide,func350.trans (congrArg some (by kernel_rfl))⟩
 f47:=func351.trans (congrArg some (by kernel_rfl))
 f48:=func352.trans (congrArg some (by kernel_rfl))
 f49:=⟨f353.name,by decide,func353.trans (congrArg some (by kernel_rfl))⟩
 f50:=⟨f354.name,by decide,func354.trans (congrArg some (by kernel_rfl))⟩
 f57:=⟨f357.name,by decide,func357.trans (congrArg some (by kernel_rfl))⟩
 t0:=underlying0
 a0:=isAgg0
 z0:=sizeOf0
 v0:=zeroValue0
 t3:=underlying3
 a3:=isAgg3
 z3:=sizeOf3
 v3:=zeroValue3
 t4:=underlying4
 a4:=isAgg4
 z4:=sizeOf4
 v4:=zeroValue4
 t5:=underlying5
 a5:=isAgg5
 z5:=sizeOf5
 v5:=zeroValue5
 t9:=underlying9
 a9:=isAgg9
 z9:=sizeOf9
 v9:=zeroValue9
 t22:=underlying121
 a22:=isAgg121
 z22:=sizeOf121
 v22:=zeroValue121
 a24:=isAgg58
 z24:=sizeOf58
 t25:=underlying232
 a25:=isAgg232
 z25:=sizeOf232
 v25:=zeroValue232
 t39:=underlying303
 a39:=isAgg303
 z39:=sizeOf303
 v39:=zeroValue303
 t45:=underlying305
 a45:=isAgg305
 z45:=sizeOf305
 v45:=zeroValue305
 t46:=underlying306
 a46:=isAgg306
 z46:=sizeOf306
 v46:=zeroValue306
 t50:=underlying107
 a50:=isAgg107
 z50:=sizeOf107
 v50:=zeroValue107
 t53:=underlying312
 a53:=isAgg312
 z53:=sizeOf312
 v53:=zeroValue312
 t55:=underlying314
 a55:=isAgg314
 z55:=sizeOf314
 v55:=zeroValue314
 t66:=underlying316
 a66:=isAgg316
 z66:=sizeOf316
 v66:=zeroValue316
 t70:=underlying266
 a70:=isAgg266
 z70:=sizeOf266
 v70:=zeroValue266
 t76:=underlying323
 a76:=isAgg323
 z76:=sizeOf323
 v76:=zeroValue323
 t77:=underlying254
 a77:=isAgg254
 z77:=sizeOf254
 v77:=zeroValue254}
end Go.Proofs

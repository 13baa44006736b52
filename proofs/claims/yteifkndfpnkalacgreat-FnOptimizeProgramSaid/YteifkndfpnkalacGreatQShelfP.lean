/- Tools. -/
import Derived.Shelf.Small.Bits
import Derived.Shelf.Strconv.Itoa0
import Derived.Shelf.Strings.Search1
import Derived.Shelf.Strings.Search2
import Derived.Shelf.Strings.Search3
import Derived.Shelf.LaysM
import Derived.Shelf.Strings.Shaped
import Derived.Shelf.Slices.Turned
import Derived.Shelf.Slices.Equal
import Derived.Ground.Names2Prog
import Derived.Shelf.Slices.Clone
import Derived.Shelf.Slices.SearchI
import Derived.Shelf.Slices.Delete
import Derived.Shelf.Slices.Cells
import Derived.Shelf.Slices.Empties
import Derived.Shelf.Slices.Empties2
import Derived.Ground.SlgnProg
import Derived.Shelf.SlicesE.Clone
import Derived.Ground.SlsfProg
import Derived.Shelf.SlSortCmp.Insertion
import Derived.Shelf.SlSortCmp.SiftDown1
import Derived.Shelf.SlSortCmp.HeapSort1
import Derived.Shelf.SlSortCmp.Insertion1
import Derived.Shelf.SlSortCmp.Median1
import Derived.Shelf.SlSortCmp.Pivot1
import Derived.Shelf.SlSortCmp.ReverseRange1
import Derived.Shelf.SlSortCmp.PartialInsertion1
import Derived.Shelf.SlSortCmp.PartitionEqual1
import Derived.Shelf.SlSortCmp.Partition1
import Derived.Shelf.SlSortCmp.Pdq1
import Derived.Shelf.SlSortCmp.Whole1
import Derived.Shelf.SlSortCmp.NoneTotal
import Derived.Test.YteifkndfpnkalacGreatProg
namespace Go.Proofs
open Go.Shelf Go.Proofs.Tryz
def Tryz.ag5:Go.Shelf.Ren:=⟨fun|144=>280|143=>316|219=>336|217=>350|225=>351|224=>352|267=>353|266=>360|314=>361|n=>n,fun|9=>9|4=>4|3=>3|5=>5|46=>300|146=>324|51=>314|n=>n,fun|1=>0|n=>n⟩
theorem Tryz.ag4:Go.Proofs.Lays.n144 prog Tryz.ag5:={
 mixed:=by kernel_rfl
 f143:=func316.trans (congrArg some (by kernel_rfl))
 f144:=func280.trans (congrArg some (by kernel_rfl))
 f217:=func350.trans (congrArg some (by kernel_rfl))
 f219:=func336.trans (congrArg some (by kernel_rfl))
 f224:=func352.trans (congrArg some (by kernel_rfl))
 f225:=func351.trans (congrArg some (by kernel_rfl))
 f266:=func360.trans (congrArg some (by kernel_rfl))
 f267:=func353.trans (congrArg some (by kernel_rfl))
 f314:=func361.trans (congrArg some (by kernel_rfl))
 t3:=underlying3
 a3:=isAgg3
 z3:=sizeOf3
 v3:=zeroValue3
 t4:=underlying4
 a4:=isAgg4
 z4:=sizeOf4
 v4:=zeroValue4
 t5:=underlying5
 a5:=isAgg5
 z5:=sizeOf5
 v5:=zeroValue5
 t9:=underlying9
 a9:=isAgg9
 z9:=sizeOf9
 v9:=zeroValue9
 t46:=underlying300
 a46:=isAgg300
 z46:=sizeOf300
 v46:=zeroValue300
 t51:=underlying314
 a51:=isAgg314
 z51:=sizeOf314
 v51:=zeroValue314
 t146:=underlying324
 a146:=isAgg324
 z146:=sizeOf324
 v146:=zeroValue324
 g1:=by kernel_rfl}
open Go.RowKit Go.Lib in
theorem Tryz.strings_Contains(s sub:ByteArray)(m:Int)(w:World)(hs:s.size<4294967281)(hm:w.cell? ⟨0,0,none⟩=some (.int .i64 m)):
  Calls prog 280 #[.string s,.string sub] w fun e w'=>e= .returned (.bool (Lib.contains s.data.toList sub.data.toList))∧w'=w:=Any.strings_Contains Tryz.ag4 s sub m w hs hm
def Tryz.ag7:Go.Shelf.Ren:=⟨fun|144=>280|143=>316|219=>336|217=>350|225=>351|224=>352|267=>353|266=>360|314=>361|n=>n,fun|9=>9|4=>4|3=>3|5=>5|46=>300|146=>324|51=>314|n=>n,fun|1=>0|n=>n⟩
theorem Tryz.ag6:Go.Proofs.LaysM.n144 prog Tryz.ag7:={
 mixed:=by kernel_rfl
 f143:=func316.trans (congrArg some (by kernel_rfl))
 f144:=func280.trans (congrArg some (by kernel_rfl))
 f217:=func350.trans (congrArg some (by kernel_rfl))
 f219:=func336.trans (congrArg some (by kernel_rfl))
 f224:=func352.trans (congrArg some (by kernel_rfl))
 f225:=func351.trans (congrArg some (by kernel_rfl))
 f266:=func360.trans (congrArg some (by kernel_rfl))
 f267:=func353.trans (congrArg some (by kernel_rfl))
 f314:=func361.trans (congrArg some (by kernel_rfl))
 t3:=underlying3
 a3:=isAgg3
 z3:=sizeOf3
 v3:=zeroValue3
 t4:=underlying4
 a4:=isAgg4
 z4:=sizeOf4
 v4:=zeroValue4
 t5:=underlying5
 a5:=isAgg5
 z5:=sizeOf5
 v5:=zeroValue5
 t9:=underlying9
 a9:=isAgg9
 z9:=sizeOf9
 v9:=zeroValue9
 t46:=underlying300
 a46:=isAgg300
 z46:=sizeOf300
 v46:=zeroValue300
 t51:=underlying314
 a51:=isAgg314
 z51:=sizeOf314
 v51:=zeroValue314
 t146:=underlying324
 a146:=isAgg324
 z146:=sizeOf324
 v146:=zeroValue324
 g1:=by kernel_rfl
 i3:=by kernel_rfl
 i4:=by kernel_rfl
 i5:=by kernel_rfl
 i9:=by kernel_rfl
 i46:=by kernel_rfl
 i51:=by kernel_rfl
 i146:=by kernel_rfl
 m1:=by kernel_rfl
 s1_3:=fun w h=>Go.Proofs.cell_of_shapedOpen_int (zero:= #[.int .i64 0]) (t:=3) h (of_decide_eq_true (by kernel_rfl)) (by kernel_rfl) rfl (by kernel_rfl) (by kernel_rfl) underlying3}
def Tryz.ag3:Go.Shelf.Ren:=⟨fun|111=>22|n=>n,fun|28=>46|3=>3|4=>4|0=>0|n=>n,fun|n=>n⟩
theorem Tryz.Ia:Go.Proofs.Lays.n111 prog Tryz.ag3:={
 mixed:=by kernel_rfl
 f111:=func22.trans (congrArg some (by kernel_rfl))
 t0:=underlying0
 a0:=isAgg0
 z0:=sizeOf0
 v0:=zeroValue0
 t3:=underlying3
 a3:=isAgg3
 z3:=sizeOf3
 v3:=zeroValue3
 t4:=underlying4
 a4:=isAgg4
 z4:=sizeOf4
 v4:=zeroValue4
 t28:=underlying46
 a28:=isAgg46
 z28:=sizeOf46
 v28:=zeroValue46}
open Go.RowKit Go.Lib in
theorem Tryz.slices_Equal_int(di hQ n c cI hn m d:Nat)(xs ys:List Int)(w:World)(hx:n≤xs.length)(hy:m≤ys.length)(hbig:n≤9223372036854775807)(hbig2:m≤9223372036854775807)(hc1: ∀j,j<xs.length→w.cell? ⟨di,hQ+j,none⟩=some (.int .i64 (xs.getD j 0)))(hc2: ∀j,j<ys.length→w.cell? ⟨cI,hn+j,none⟩=some (.int .i64 (ys.getD j 0))):
  Calls prog 22 #[.slice (some ⟨di,hQ,none⟩) n c,.slice (some ⟨cI,hn,none⟩) m d] w fun e w'=>e= .returned (.bool (xs.take n==ys.take m))∧ ∃q,w'=w.drewN q:=Any.slices_Equal_int Tryz.Ia di hQ n c cI hn m d xs ys w hx hy hbig hbig2 hc1 hc2
open Go.RowKit Go.Lib in
theorem Tryz.slices_Equal_int_empty(aS a2:Option Addr)(c m d:Nat)(w:World)(hbig2:m≤9223372036854775807):
  Calls prog 22 #[.slice aS 0 c,.slice a2 m d] w fun e w'=>e= .returned (.bool (decide (m=0)))∧w'=w:=Any.slices_Equal_int_empty Tryz.Ia aS a2 c m d w hbig2
def Tryz.ag8:Go.Shelf.Ren:=⟨fun|15=>40|n=>n,fun|22=>46|3=>3|4=>4|n=>n,fun|n=>n⟩
theorem Tryz.Ib:Go.Proofs.Lays2.n15 prog Tryz.ag8:={
 mixed:=by kernel_rfl
 f15:=func40.trans (congrArg some (by kernel_rfl))
 t3:=underlying3
 a3:=isAgg3
 z3:=sizeOf3
 v3:=zeroValue3
 t4:=underlying4
 a4:=isAgg4
 z4:=sizeOf4
 v4:=zeroValue4
 t22:=underlying46
 a22:=isAgg46
 z22:=sizeOf46
 v22:=zeroValue46
 i3:=by kernel_rfl}
open Go.RowKit Go.Lib in
theorem Tryz.slices_Clone_int(b off n c:Nat)(o0:List Int)(w:World)(e4:n≤o0.length)(hbig:n*8≤140737488355328)(bN: ∀j,j<o0.length→w.cell? ⟨b,off+j,none⟩=some (.int .i64 (o0.getD j 0))):
  Calls prog 40 #[.slice (some ⟨b,off,none⟩) n c] w fun e w'=> ∃dO,e= .returned dO∧w'.ownsRow w.heap.size 3 1 dO n ((o0.take n).map (Value.int .i64))∧dO≠ .slice none 0 0∧Below w.heap.size w w':=Any.slices_Clone_int Tryz.Ib b off n c o0 w e4 hbig bN
open Go.RowKit Go.Lib in
theorem Tryz.slices_Clone_int_nil(n c:Nat)(w:World):
  Calls prog 40 #[.slice none n c] w fun e w'=>e= .returned (.slice none 0 0)∧w'=w:=Any.slices_Clone_int_nil Tryz.Ib n c w
open Go.RowKit Go.Lib in
theorem Tryz.slices_Clone_int_zero(a:Addr)(c:Nat)(w:World):
  Calls prog 40 #[.slice (some a) 0 c] w fun e w'=> ∃dO,e= .returned dO∧w'.ownsRow w.heap.size 3 1 dO 0 []∧dO≠ .slice none 0 0∧Below w.heap.size w w':=Any.slices_Clone_int_zero Tryz.Ib a c w
def Tryz.ag':Go.Shelf.Ren:=⟨fun|23=>87|n=>n,fun|22=>46|3=>3|4=>4|0=>0|n=>n,fun|n=>n⟩
theorem Tryz.ag9:Go.Proofs.Lays2.n23 prog Tryz.ag':={
 mixed:=by kernel_rfl
 f23:=func87.trans (congrArg some (by kernel_rfl))
 t0:=underlying0
 a0:=isAgg0
 z0:=sizeOf0
 v0:=zeroValue0
 t3:=underlying3
 a3:=isAgg3
 z3:=sizeOf3
 v3:=zeroValue3
 t4:=underlying4
 a4:=isAgg4
 z4:=sizeOf4
 v4:=zeroValue4
 t22:=underlying46
 a22:=isAgg46
 z22:=sizeOf46
 v22:=zeroValue46
 i3:=by kernel_rfl}
open Go.RowKit Go.Lib in
theorem Tryz.slices_Equal_int_lens(aS a2:Option Addr)(n c m d:Nat)(w:World)(hnm:n≠m):
  Calls prog 22 #[.slice aS n c,.slice a2 m d] w fun e w'=>e= .returned (.bool false)∧w'=w:=Any.slices_Equal_int_lens Tryz.Ia aS a2 n c m d w hnm
def Tryz.aha:Go.Shelf.Ren:=⟨fun|6=>298|15=>329|14=>328|28=>348|29=>349|20=>340|21=>341|22=>342|23=>343|24=>344|25=>345|26=>346|27=>347|46=>355|47=>356|48=>357|49=>358|50=>359|57=>362|n=>n,fun|22=>116|24=>46|25=>204|3=>3|39=>300|0=>0|53=>314|55=>316|4=>4|46=>308|45=>307|50=>158|5=>5|9=>9|66=>319|70=>231|76=>326|77=>262|n=>n,fun|n=>n⟩
theorem Tryz.Q3:Go.Proofs.SlLaysF.n6 prog Tryz.aha:={
 mixed:=by kernel_rfl
 f6:=⟨f298.name,by decide,func298.trans (congrArg some (by kernel_rfl))⟩
 f14:=⟨f328.name,by decide,func328.trans (congrArg some (by kernel_rfl))⟩
 f15:=func329.trans (congrArg some (by kernel_rfl))
 f20:=⟨f340.name,by decide,func340.trans (congrArg some (by kernel_rfl))⟩
 f21:=⟨f341.name,by decide,func341.trans (congrArg some (by kernel_rfl))⟩
 f22:=⟨f342.name,by decide,func342.trans (congrArg some (by kernel_rfl))⟩
 f23:=⟨f343.name,by decide,func343.trans (congrArg some (by kernel_rfl))⟩
 f24:=⟨f344.name,by decide,func344.trans (congrArg some (by kernel_rfl))⟩
 f25:=⟨f345.name,by decide,func345.trans (congrArg some (by kernel_rfl))⟩
 f26:=⟨f346.name,by decide,func346.trans (congrArg some (by kernel_rfl))⟩
 f27:=⟨f347.name,by decide,func347.trans (congrArg some (by kernel_rfl))⟩
 f28:=func348.trans (congrArg some (by kernel_rfl))
 f29:=func349.trans (congrArg some (by kernel_rfl))
 f46:=⟨f355.name,by decide,func355.trans (congrArg some (by kernel_rfl))⟩
 f47:=func356.trans (congrArg some (by kernel_rfl))
 f48:=func357.trans (congrArg some (by kernel_rfl))
 f49:=⟨f358.name,by decide,func358.trans (congrArg some (by kernel_rfl))⟩
 f50:=⟨f359.name,by decide,func359.trans (congrArg some (by kernel_rfl))⟩
 f57:=⟨f362.name,by decide,func362.trans (congrArg some (by kernel_rfl))⟩
 t0:=underlying0
 a0:=isAgg0
 z0:=sizeOf0
 v0:=zeroValue0
 t3:=underlying3
 a3:=isAgg3
 z3:=sizeOf3
 v3:=zeroValue3
 t4:=underlying4
 a4:=isAgg4
 z4:=sizeOf4
 v4:=zeroValue4
 t5:=underlying5
 a5:=isAgg5
 z5:=sizeOf5
 v5:=zeroValue5
 t9:=underlying9
 a9:=isAgg9
 z9:=sizeOf9
 v9:=zeroValue9
 t22:=underlying116
 a22:=isAgg116
 z22:=sizeOf116
 v22:=zeroValue116
 a24:=isAgg46
 z24:=sizeOf46
 t25:=underlying204
 a25:=isAgg204
 z25:=sizeOf204
 v25:=zeroValue204
 t39:=underlying300
 a39:=isAgg300
 z39:=sizeOf300
 v39:=zeroValue300
 t45:=underlying307
 a45:=isAgg307
 z45:=sizeOf307
 v45:=zeroValue307
 t46:=underlying308
 a46:=isAgg308
 z46:=sizeOf308
 v46:=zeroValue308
 t50:=underlying158
 a50:=isAgg158
 z50:=sizeOf158
 v50:=zeroValue158
 t53:=underlying314
 a53:=isAgg314
 z53:=sizeOf314
 v53:=zeroValue314
 t55:=underlying316
 a55:=isAgg316
 z55:=sizeOf316
 v55:=zeroValue316
 t66:=underlying319
 a66:=isAgg319
 z66:=sizeOf319
 v66:=zeroValue319
 t70:=underlying231
 a70:=isAgg231
 z70:=sizeOf231
 v70:=zeroValue231
 t76:=underlying326
 a76:=isAgg326
 z76:=sizeOf326
 v76:=zeroValue326
 t77:=underlying262
 a77:=isAgg262
 z77:=sizeOf262
 v77:=zeroValue262}
end Go.Proofs

/- Tools. -/
import Derived.Shelf.Small.Bits
import Derived.Shelf.Strconv.Itoa0
import Derived.Shelf.Strings.Search1
import Derived.Shelf.Strings.Search2
import Derived.Shelf.Strings.Search3
import Derived.Shelf.LaysM
import Derived.Shelf.Strings.Shaped
import Derived.Shelf.Slices.Turned
import Derived.Shelf.Slices.Equal
import Derived.Ground.Names2Prog
import Derived.Shelf.Slices.Clone
import Derived.Shelf.Slices.SearchI
import Derived.Shelf.Slices.Empties2
import Derived.Ground.SlgnProg
import Derived.Shelf.SlicesE.Clone
import Derived.Ground.SlsfProg
import Derived.Shelf.SlSortCmp.Insertion
import Derived.Shelf.SlSortCmp.SiftDown1
import Derived.Shelf.SlSortCmp.HeapSort1
import Derived.Shelf.SlSortCmp.Insertion1
import Derived.Shelf.SlSortCmp.Median1
import Derived.Shelf.SlSortCmp.Pivot1
import Derived.Shelf.SlSortCmp.ReverseRange1
import Derived.Shelf.SlSortCmp.PartialInsertion1
import Derived.Shelf.SlSortCmp.PartitionEqual1
import Derived.Shelf.SlSortCmp.Partition1
import Derived.Shelf.SlSortCmp.Pdq1
import Derived.Shelf.SlSortCmp.Whole1
import Derived.Shelf.SlSortCmp.NoneTotal
import Derived.Test.YteifkndfpnkalabGreatProg
namespace Go.Proofs
open Go.Shelf Go.Proofs.Tryz
def Tryz.ai2:Go.Shelf.Ren:=⟨fun|144=>293|143=>316|219=>332|217=>338|225=>339|224=>340|267=>341|266=>343|314=>344|n=>n,fun|9=>9|4=>4|3=>3|5=>5|46=>301|146=>324|51=>313|n=>n,fun|1=>0|n=>n⟩
theorem Tryz.ai1:Go.Proofs.Lays.n144 prog Tryz.ai2:={
 mixed:=by kernel_rfl
 f143:=func316.trans (congrArg some (by kernel_rfl))
 f144:=func293.trans (congrArg some (by kernel_rfl))
 f217:=func338.trans (congrArg some (by kernel_rfl))
 f219:=func332.trans (congrArg some (by kernel_rfl))
 f224:=func340.trans (congrArg some (by kernel_rfl))
 f225:=func339.trans (congrArg some (by kernel_rfl))
 f266:=func343.trans (congrArg some (by kernel_rfl))
 f267:=func341.trans (congrArg some (by kernel_rfl))
 f314:=func344.trans (congrArg some (by kernel_rfl))
 t3:=underlying3
 a3:=isAgg3
 z3:=sizeOf3
 v3:=zeroValue3
 t4:=underlying4
 a4:=isAgg4
 z4:=sizeOf4
 v4:=zeroValue4
 t5:=underlying5
 a5:=isAgg5
 z5:=sizeOf5
 v5:=zeroValue5
 t9:=underlying9
 a9:=isAgg9
 z9:=sizeOf9
 v9:=zeroValue9
 t46:=underlying301
 a46:=isAgg301
 z46:=sizeOf301
 v46:=zeroValue301
 t51:=underlying313
 a51:=isAgg313
 z51:=sizeOf313
 v51:=zeroValue313
 t146:=underlying324
 a146:=isAgg324
 z146:=sizeOf324
 v146:=zeroValue324
 g1:=by kernel_rfl}
open Go.RowKit Go.Lib in
theorem Tryz.strings_Contains(s sub:ByteArray)(m:Int)(w:World)(hs:s.size<4294967281)(hm:w.cell? ⟨0,0,none⟩=some (.int .i64 m)):
  Calls prog 293 #[.string s,.string sub] w fun e w'=>e= .returned (.bool (Lib.contains s.data.toList sub.data.toList))∧w'=w:=Any.strings_Contains Tryz.ai1 s sub m w hs hm
def Tryz.ai4:Go.Shelf.Ren:=⟨fun|144=>293|143=>316|219=>332|217=>338|225=>339|224=>340|267=>341|266=>343|314=>344|n=>n,fun|9=>9|4=>4|3=>3|5=>5|46=>301|146=>324|51=>313|n=>n,fun|1=>0|n=>n⟩
theorem Tryz.ai3:Go.Proofs.LaysM.n144 prog Tryz.ai4:={
 mixed:=by kernel_rfl
 f143:=func316.trans (congrArg some (by kernel_rfl))
 f144:=func293.trans (congrArg some (by kernel_rfl))
 f217:=func338.trans (congrArg some (by kernel_rfl))
 f219:=func332.trans (congrArg some (by kernel_rfl))
 f224:=func340.trans (congrArg some (by kernel_rfl))
 f225:=func339.trans (congrArg some (by kernel_rfl))
 f266:=func343.trans (congrArg some (by kernel_rfl))
 f267:=func341.trans (congrArg some (by kernel_rfl))
 f314:=func344.trans (congrArg some (by kernel_rfl))
 t3:=underlying3
 a3:=isAgg3
 z3:=sizeOf3
 v3:=zeroValue3
 t4:=underlying4
 a4:=isAgg4
 z4:=sizeOf4
 v4:=zeroValue4
 t5:=underlying5
 a5:=isAgg5
 z5:=sizeOf5
 v5:=zeroValue5
 t9:=underlying9
 a9:=isAgg9
 z9:=sizeOf9
 v9:=zeroValue9
 t46:=underlying301
 a46:=isAgg301
 z46:=sizeOf301
 v46:=zeroValue301
 t51:=underlying313
 a51:=isAgg313
 z51:=sizeOf313
 v51:=zeroValue313
 t146:=underlying324
 a146:=isAgg324
 z146:=sizeOf324
 v146:=zeroValue324
 g1:=by kernel_rfl
 i3:=by kernel_rfl
 i4:=by kernel_rfl
 i5:=by kernel_rfl
 i9:=by kernel_rfl
 i46:=by kernel_rfl
 i51:=by kernel_rfl
 i146:=by kernel_rfl
 m1:=by kernel_rfl
 s1_3:=fun w h=>Go.Proofs.cell_of_shapedOpen_int (zero:= #[.int .i64 0]) (t:=3) h (of_decide_eq_true (by kernel_rfl)) (by kernel_rfl) rfl (by kernel_rfl) (by kernel_rfl) underlying3}
def Tryz.ai0:Go.Shelf.Ren:=⟨fun|111=>238|n=>n,fun|28=>67|3=>3|4=>4|0=>0|n=>n,fun|n=>n⟩
theorem Tryz.J5:Go.Proofs.Lays.n111 prog Tryz.ai0:={
 mixed:=by kernel_rfl
 f111:=func238.trans (congrArg some (by kernel_rfl))
 t0:=underlying0
 a0:=isAgg0
 z0:=sizeOf0
 v0:=zeroValue0
 t3:=underlying3
 a3:=isAgg3
 z3:=sizeOf3
 v3:=zeroValue3
 t4:=underlying4
 a4:=isAgg4
 z4:=sizeOf4
 v4:=zeroValue4
 t28:=underlying67
 a28:=isAgg67
 z28:=sizeOf67
 v28:=zeroValue67}
open Go.RowKit Go.Lib in
theorem Tryz.slices_Equal_int(dm hN n c cL kR m d:Nat)(xs ys:List Int)(w:World)(hx:n≤xs.length)(hy:m≤ys.length)(hbig:n≤9223372036854775807)(hbig2:m≤9223372036854775807)(hc1: ∀j,j<xs.length→w.cell? ⟨dm,hN+j,none⟩=some (.int .i64 (xs.getD j 0)))(hc2: ∀j,j<ys.length→w.cell? ⟨cL,kR+j,none⟩=some (.int .i64 (ys.getD j 0))):
  Calls prog 238 #[.slice (some ⟨dm,hN,none⟩) n c,.slice (some ⟨cL,kR,none⟩) m d] w fun e w'=>e= .returned (.bool (xs.take n==ys.take m))∧ ∃q,w'=w.drewN q:=Any.slices_Equal_int Tryz.J5 dm hN n c cL kR m d xs ys w hx hy hbig hbig2 hc1 hc2
open Go.RowKit Go.Lib in
theorem Tryz.slices_Equal_int_empty(aP a2:Option Addr)(c m d:Nat)(w:World)(hbig2:m≤9223372036854775807):
  Calls prog 238 #[.slice aP 0 c,.slice a2 m d] w fun e w'=>e= .returned (.bool (decide (m=0)))∧w'=w:=Any.slices_Equal_int_empty Tryz.J5 aP a2 c m d w hbig2
def Tryz.ai5:Go.Shelf.Ren:=⟨fun|15=>141|n=>n,fun|22=>67|3=>3|4=>4|n=>n,fun|n=>n⟩
theorem Tryz.J6:Go.Proofs.Lays2.n15 prog Tryz.ai5:={
 mixed:=by kernel_rfl
 f15:=func141.trans (congrArg some (by kernel_rfl))
 t3:=underlying3
 a3:=isAgg3
 z3:=sizeOf3
 v3:=zeroValue3
 t4:=underlying4
 a4:=isAgg4
 z4:=sizeOf4
 v4:=zeroValue4
 t22:=underlying67
 a22:=isAgg67
 z22:=sizeOf67
 v22:=zeroValue67
 i3:=by kernel_rfl}
open Go.RowKit Go.Lib in
theorem Tryz.slices_Clone_int(b off n c:Nat)(Ah:List Int)(w:World)(er:n≤Ah.length)(hbig:n*8≤140737488355328)(bW: ∀j,j<Ah.length→w.cell? ⟨b,off+j,none⟩=some (.int .i64 (Ah.getD j 0))):
  Calls prog 141 #[.slice (some ⟨b,off,none⟩) n c] w fun e w'=> ∃ea,e= .returned ea∧w'.ownsRow w.heap.size 3 1 ea n ((Ah.take n).map (Value.int .i64))∧ea≠ .slice none 0 0∧Below w.heap.size w w':=Any.slices_Clone_int Tryz.J6 b off n c Ah w er hbig bW
open Go.RowKit Go.Lib in
theorem Tryz.slices_Clone_int_nil(n c:Nat)(w:World):
  Calls prog 141 #[.slice none n c] w fun e w'=>e= .returned (.slice none 0 0)∧w'=w:=Any.slices_Clone_int_nil Tryz.J6 n c w
open Go.RowKit Go.Lib in
theorem Tryz.slices_Clone_int_zero(a:Addr)(c:Nat)(w:World):
  Calls prog 141 #[.slice (some a) 0 c] w fun e w'=> ∃ea,e= .returned ea∧w'.ownsRow w.heap.size 3 1 ea 0 []∧ea≠ .slice none 0 0∧Below w.heap.size w w':=Any.slices_Clone_int_zero Tryz.J6 a c w
open Go.RowKit Go.Lib in
theorem Tryz.slices_Equal_int_lens(aP a2:Option Addr)(n c m d:Nat)(w:World)(hnm:n≠m):
  Calls prog 238 #[.slice aP n c,.slice a2 m d] w fun e w'=>e= .returned (.bool false)∧w'=w:=Any.slices_Equal_int_lens Tryz.J5 aP a2 n c m d w hnm
def Tryz.ai6:Go.Shelf.Ren:=⟨fun|6=>282|15=>313|14=>312|28=>330|29=>331|20=>322|21=>323|22=>324|23=>325|24=>326|25=>327|26=>328|27=>329|46=>333|47=>334|48=>335|49=>336|50=>337|57=>342|n=>n,fun|22=>87|24=>67|25=>205|3=>3|39=>301|0=>0|53=>313|55=>315|4=>4|46=>307|45=>306|50=>161|5=>5|9=>9|66=>316|70=>270|76=>322|77=>240|n=>n,fun|n=>n⟩
theorem Tryz.Sl:Go.Proofs.SlLaysF.n6 prog Tryz.ai6:={
 mixed:=by kernel_rfl
 f6:=⟨f282.name,by decide,func282.trans (congrArg some (by kernel_rfl))⟩
 f14:=⟨f312.name,by decide,func312.trans (congrArg some (by kernel_rfl))⟩
 f15:=func313.trans (congrArg some (by kernel_rfl))
 f20:=⟨f322.name,by decide,func322.trans (congrArg some (by kernel_rfl))⟩
 f21:=⟨f323.name,by decide,func323.trans (congrArg some (by kernel_rfl))⟩
 f22:=⟨f324.name,by decide,func324.trans (congrArg some (by kernel_rfl))⟩
 f23:=⟨f325.name,by decide,func325.trans (congrArg some (by kernel_rfl))⟩
 f24:=⟨f326.name,by decide,func326.trans (congrArg some (by kernel_rfl))⟩
 f25:=⟨f327.name,by decide,func327.trans (congrArg some (by kernel_rfl))⟩
 f26:=⟨f328.name,by decide,func328.trans (congrArg some (by kernel_rfl))⟩
 f27:=⟨f329.name,by decide,func329.trans (congrArg some (by kernel_rfl))⟩
 f28:=func330.trans (congrArg some (by kernel_rfl))
 f29:=func331.trans (congrArg some (by kernel_rfl))
 f46:=⟨f333.name,by decide,func333.trans (congrArg some (by kernel_rfl))⟩
 f47:=func334.trans (congrArg some (by kernel_rfl))
 f48:=func335.trans (congrArg some (by kernel_rfl))
 f49:=⟨f336.name,by decide,func336.trans (congrArg some (by kernel_rfl))⟩
 f50:=⟨f337.name,by decide,func337.trans (congrArg some (by kernel_rfl))⟩
 f57:=⟨f342.name,by decide,func342.trans (congrArg some (by kernel_rfl))⟩
 t0:=underlying0
 a0:=isAgg0
 z0:=sizeOf0
 v0:=zeroValue0
 t3:=underlying3
 a3:=isAgg3
 z3:=sizeOf3
 v3:=zeroValue3
 t4:=underlying4
 a4:=isAgg4
 z4:=sizeOf4
 v4:=zeroValue4
 t5:=underlying5
 a5:=isAgg5
 z5:=sizeOf5
 v5:=zeroValue5
 t9:=underlying9
 a9:=isAgg9
 z9:=sizeOf9
 v9:=zeroValue9
 t22:=underlying87
 a22:=isAgg87
 z22:=sizeOf87
 v22:=zeroValue87
 a24:=isAgg67
 z24:=sizeOf67
 t25:=underlying205
 a25:=isAgg205
 z25:=sizeOf205
 v25:=zeroValue205
 t39:=underlying301
 a39:=isAgg301
 z39:=sizeOf301
 v39:=zeroValue301
 t45:=underlying306
 a45:=isAgg306
 z45:=sizeOf306
 v45:=zeroValue306
 t46:=underlying307
 a46:=isAgg307
 z46:=sizeOf307
 v46:=zeroValue307
 t50:=underlying161
 a50:=isAgg161
 z50:=sizeOf161
 v50:=zeroValue161
 t53:=underlying313
 a53:=isAgg313
 z53:=sizeOf313
 v53:=zeroValue313
 t55:=underlying315
 a55:=isAgg315
 z55:=sizeOf315
 v55:=zeroValue315
 t66:=underlying316
 a66:=isAgg316
 z66:=sizeOf316
 v66:=zeroValue316
 t70:=underlying270
 a70:=isAgg270
 z70:=sizeOf270
 v70:=zeroValue270
 t76:=underlying322
 a76:=isAgg322
 z76:=sizeOf322
 v76:=zeroValue322
 t77:=underlying240
 a77:=isAgg240
 z77:=sizeOf240
 v77:=zeroValue240}
end Go.Proofs

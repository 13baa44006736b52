/- Tools. -/
import Derived.Shelf.Small.Bits
import Derived.Shelf.Small.Wraps
import Derived.Shelf.Strconv.Itoa0
import Derived.Shelf.Strings.Search1
import Derived.Shelf.Strings.Search2
import Derived.Shelf.Strings.Search3
import Derived.Shelf.LaysM
import Derived.Shelf.Strings.Shaped
import Derived.Shelf.Slices.Turned
import Derived.Shelf.Slices.Equal
import Derived.Ground.Names2Prog
import Derived.Shelf.Slices.Clone
import Derived.Shelf.Slices.SearchI
import Derived.Shelf.Slices.Empties2
import Derived.Ground.SlgnProg
import Derived.Shelf.SlicesE.Clone
import Derived.Ground.SlsfProg
import Derived.Shelf.SlSortCmp.Insertion
import Derived.Shelf.SlSortCmp.SiftDown1
import Derived.Shelf.SlSortCmp.HeapSort1
import Derived.Shelf.SlSortCmp.Insertion1
import Derived.Shelf.SlSortCmp.Median1
import Derived.Shelf.SlSortCmp.Pivot1
import Derived.Shelf.SlSortCmp.ReverseRange1
import Derived.Shelf.SlSortCmp.PartialInsertion1
import Derived.Shelf.SlSortCmp.PartitionEqual1
import Derived.Shelf.SlSortCmp.Partition1
import Derived.Shelf.SlSortCmp.Pdq1
import Derived.Shelf.SlSortCmp.Whole1
import Derived.Shelf.SlSortCmp.NoneTotal
import Derived.Test.YtlbojjldejlgaaaGreatProg
namespace Go.Proofs
open Go.Shelf Go.Proofs.Tryz
def Tryz.Wr:Go.Shelf.Ren:=⟨fun|144=>235|143=>264|219=>274|217=>276|225=>277|224=>278|267=>279|266=>280|314=>281|n=>n,fun|9=>9|4=>4|3=>3|5=>5|46=>253|146=>288|51=>275|n=>n,fun|1=>0|n=>n⟩
theorem Tryz.Wq:Go.Proofs.Lays.n144 prog Tryz.Wr:={
 mixed:=by kernel_rfl
 f143:=func264.trans (congrArg some (by kernel_rfl))
 f144:=func235.trans (congrArg some (by kernel_rfl))
 f217:=func276.trans (congrArg some (by kernel_rfl))
 f219:=func274.trans (congrArg some (by kernel_rfl))
 f224:=func278.trans (congrArg some (by kernel_rfl))
 f225:=func277.trans (congrArg some (by kernel_rfl))
 f266:=func280.trans (congrArg some (by kernel_rfl))
 f267:=func279.trans (congrArg some (by kernel_rfl))
 f314:=func281.trans (congrArg some (by kernel_rfl))
 t3:=underlying3
 a3:=isAgg3
 z3:=sizeOf3
 v3:=zeroValue3
 t4:=underlying4
 a4:=isAgg4
 z4:=sizeOf4
 v4:=zeroValue4
 t5:=underlying5
 a5:=isAgg5
 z5:=sizeOf5
 v5:=zeroValue5
 t9:=underlying9
 a9:=isAgg9
 z9:=sizeOf9
 v9:=zeroValue9
 t46:=underlying253
 a46:=isAgg253
 z46:=sizeOf253
 v46:=zeroValue253
 t51:=underlying275
 a51:=isAgg275
 z51:=sizeOf275
 v51:=zeroValue275
 t146:=underlying288
 a146:=isAgg288
 z146:=sizeOf288
 v146:=zeroValue288
 g1:=by kernel_rfl}
open Go.RowKit Go.Lib in
theorem Tryz.strings_Contains(s sub:ByteArray)(m:Int)(w:World)(hs:s.size<4294967281)(hm:w.cell? ⟨0,0,none⟩=some (.int .i64 m)):
  Calls prog 235 #[.string s,.string sub] w fun e w'=>e= .returned (.bool (Lib.contains s.data.toList sub.data.toList))∧w'=w:=Any.strings_Contains Tryz.Wq s sub m w hs hm
def Tryz.Wt:Go.Shelf.Ren:=⟨fun|144=>235|143=>264|219=>274|217=>276|225=>277|224=>278|267=>279|266=>280|314=>281|n=>n,fun|9=>9|4=>4|3=>3|5=>5|46=>253|146=>288|51=>275|n=>n,fun|1=>0|n=>n⟩
theorem Tryz.Ws:Go.Proofs.LaysM.n144 prog Tryz.Wt:={
 mixed:=by kernel_rfl
 f143:=func264.trans (congrArg some (by kernel_rfl))
 f144:=func235.trans (congrArg some (by kernel_rfl))
 f217:=func276.trans (congrArg some (by kernel_rfl))
 f219:=func274.trans (congrArg some (by kernel_rfl))
 f224:=func278.trans (congrArg some (by kernel_rfl))
 f225:=func277.trans (congrArg some (by kernel_rfl))
 f266:=func280.trans (congrArg some (by kernel_rfl))
 f267:=func279.trans (congrArg some (by kernel_rfl))
 f314:=func281.trans (congrArg some (by kernel_rfl))
 t3:=underlying3
 a3:=isAgg3
 z3:=sizeOf3
 v3:=zeroValue3
 t4:=underlying4
 a4:=isAgg4
 z4:=sizeOf4
 v4:=zeroValue4
 t5:=underlying5
 a5:=isAgg5
 z5:=sizeOf5
 v5:=zeroValue5
 t9:=underlying9
 a9:=isAgg9
 z9:=sizeOf9
 v9:=zeroValue9
 t46:=underlying253
 a46:=isAgg253
 z46:=sizeOf253
 v46:=zeroValue253
 t51:=underlying275
 a51:=isAgg275
 z51:=sizeOf275
 v51:=zeroValue275
 t146:=underlying288
 a146:=isAgg288
 z146:=sizeOf288
 v146:=zeroValue288
 g1:=by kernel_rfl
 i3:=by kernel_rfl
 i4:=by kernel_rfl
 i5:=by kernel_rfl
 i9:=by kernel_rfl
 i46:=by kernel_rfl
 i51:=by kernel_rfl
 i146:=by kernel_rfl
 m1:=by kernel_rfl
 s1_3:=fun w h=>Go.Proofs.cell_of_shapedOpen_int (zero:= #[.int .i64 0]) (t:=3) h (of_decide_eq_true (by kernel_rfl)) (by kernel_rfl) rfl (by kernel_rfl) (by kernel_rfl) underlying3}
def Tryz.Wp:Go.Shelf.Ren:=⟨fun|111=>181|n=>n,fun|28=>44|3=>3|4=>4|0=>0|n=>n,fun|n=>n⟩
theorem Tryz.BG:Go.Proofs.Lays.n111 prog Tryz.Wp:={
 mixed:=by kernel_rfl
 f111:=func181.trans (congrArg some (by kernel_rfl))
 t0:=underlying0
 a0:=isAgg0
 z0:=sizeOf0
 v0:=zeroValue0
 t3:=underlying3
 a3:=isAgg3
 z3:=sizeOf3
 v3:=zeroValue3
 t4:=underlying4
 a4:=isAgg4
 z4:=sizeOf4
 v4:=zeroValue4
 t28:=underlying44
 a28:=isAgg44
 z28:=sizeOf44
 v28:=zeroValue44}
open Go.RowKit Go.Lib in
theorem Tryz.slices_Equal_int(cF fG n c b2 iq m d:Nat)(xs ys:List Int)(w:World)(hx:n≤xs.length)(hy:m≤ys.length)(hbig:n≤9223372036854775807)(hbig2:m≤9223372036854775807)(hc1: ∀j,j<xs.length→w.cell? ⟨cF,fG+j,none⟩=some (.int .i64 (xs.getD j 0)))(hc2: ∀j,j<ys.length→w.cell? ⟨b2,iq+j,none⟩=some (.int .i64 (ys.getD j 0))):
  Calls prog 181 #[.slice (some ⟨cF,fG,none⟩) n c,.slice (some ⟨b2,iq,none⟩) m d] w fun e w'=>e= .returned (.bool (xs.take n==ys.take m))∧ ∃q,w'=w.drewN q:=Any.slices_Equal_int Tryz.BG cF fG n c b2 iq m d xs ys w hx hy hbig hbig2 hc1 hc2
open Go.RowKit Go.Lib in
theorem Tryz.slices_Equal_int_empty(ay a2:Option Addr)(c m d:Nat)(w:World)(hbig2:m≤9223372036854775807):
  Calls prog 181 #[.slice ay 0 c,.slice a2 m d] w fun e w'=>e= .returned (.bool (decide (m=0)))∧w'=w:=Any.slices_Equal_int_empty Tryz.BG ay a2 c m d w hbig2
def Tryz.Wu:Go.Shelf.Ren:=⟨fun|15=>97|n=>n,fun|22=>44|3=>3|4=>4|n=>n,fun|n=>n⟩
theorem Tryz.BH:Go.Proofs.Lays2.n15 prog Tryz.Wu:={
 mixed:=by kernel_rfl
 f15:=func97.trans (congrArg some (by kernel_rfl))
 t3:=underlying3
 a3:=isAgg3
 z3:=sizeOf3
 v3:=zeroValue3
 t4:=underlying4
 a4:=isAgg4
 z4:=sizeOf4
 v4:=zeroValue4
 t22:=underlying44
 a22:=isAgg44
 z22:=sizeOf44
 v22:=zeroValue44
 i3:=by kernel_rfl}
open Go.RowKit Go.Lib in
theorem Tryz.slices_Clone_int(b off n c:Nat)(tW:List Int)(w:World)(db:n≤tW.length)(hbig:n*8≤140737488355328)(bl: ∀j,j<tW.length→w.cell? ⟨b,off+j,none⟩=some (.int .i64 (tW.getD j 0))):
  Calls prog 97 #[.slice (some ⟨b,off,none⟩) n c] w fun e w'=> ∃c8,e= .returned c8∧w'.ownsRow w.heap.size 3 1 c8 n ((tW.take n).map (Value.int .i64))∧c8≠ .slice none 0 0∧Below w.heap.size w w':=Any.slices_Clone_int Tryz.BH b off n c tW w db hbig bl
open Go.RowKit Go.Lib in
theorem Tryz.slices_Clone_int_nil(n c:Nat)(w:World):
  Calls prog 97 #[.slice none n c] w fun e w'=>e= .returned (.slice none 0 0)∧w'=w:=Any.slices_Clone_int_nil Tryz.BH n c w
open Go.RowKit Go.Lib in
theorem Tryz.slices_Clone_int_zero(a:Addr)(c:Nat)(w:World):
  Calls prog 97 #[.slice (some a) 0 c] w fun e w'=> ∃c8,e= .returned c8∧w'.ownsRow w.heap.size 3 1 c8 0 []∧c8≠ .slice none 0 0∧Below w.heap.size w w':=Any.slices_Clone_int_zero Tryz.BH a c w
open Go.RowKit Go.Lib in
theorem Tryz.slices_Equal_int_lens(ay a2:Option Addr)(n c m d:Nat)(w:World)(hnm:n≠m):
  Calls prog 181 #[.slice ay n c,.slice a2 m d] w fun e w'=>e= .returned (.bool false)∧w'=w:=Any.slices_Equal_int_lens Tryz.BG ay a2 n c m d w hnm
def Tryz.Wv:Go.Shelf.Ren:=⟨fun|6=>178|15=>221|14=>220|28=>257|29=>258|20=>249|21=>250|22=>251|23=>252|24=>253|25=>254|26=>255|27=>256|46=>269|47=>270|48=>271|49=>272|50=>273|57=>275|n=>n,fun|22=>82|24=>44|25=>214|3=>3|39=>253|0=>0|53=>275|55=>277|4=>4|46=>269|45=>268|50=>143|5=>5|9=>9|66=>280|70=>238|76=>285|77=>205|n=>n,fun|n=>n⟩
theorem Tryz.H5:Go.Proofs.SlLaysF.n6 prog Tryz.Wv:={
 mixed:=by kernel_rfl
 f6:=⟨f178.name,by decide,func178.trans (congrArg some (by kernel_rfl))⟩
 f14:=⟨f220.name,by decide,func220.trans (congrArg some (by kernel_rfl))⟩
 f15:=func221.trans (congrArg some (by kernel_rfl))
 f20:=⟨f249.name,by decide,func249.trans (congrArg some (by kernel_rfl))⟩
 f21:=⟨f250.name,by decide,func250.trans (congrArg some (by kernel_rfl))⟩
 f22:=⟨f251.name,by decide,func251.trans (congrArg some (by kernel_rfl))⟩
 f23:=⟨f252.name,by decide,func252.trans (congrArg some (by kernel_rfl))⟩
 f24:=⟨f253.name,by decide,func253.trans (congrArg some (by kernel_rfl))⟩
 f25:=⟨f254.name,by decide,func254.trans (congrArg some (by kernel_rfl))⟩
 f26:=⟨f255.name,by decide,func255.trans (congrArg some (by kernel_rfl))⟩
 f27:=⟨f256.name,by decide,func256.trans (congrArg some (by kernel_rfl))⟩
 f28:=func257.trans (congrArg some (by kernel_rfl))
 f29:=func258.trans (congrArg some (by kernel_rfl))
 f46:=⟨f269.name,by decide,func269.trans (congrArg some (by kernel_rfl))⟩
 f47:=func270.trans (congrArg some (by kernel_rfl))
 f48:=func271.trans (congrArg some (by kernel_rfl))
 f49:=⟨f272.name,by decide,func272.trans (congrArg some (by kernel_rfl))⟩
 f50:=⟨f273.name,by decide,func273.trans (congrArg some (by kernel_rfl))⟩
 f57:=⟨f275.name,by decide,func275.trans (congrArg some (by kernel_rfl))⟩
 t0:=underlying0
 a0:=isAgg0
 z0:=sizeOf0
 v0:=zeroValue0
 t3:=underlying3
 a3:=isAgg3
 z3:=sizeOf3
 v3:=zeroValue3
 t4:=underlying4
 a4:=isAgg4
 z4:=sizeOf4
 v4:=zeroValue4
 t5:=underlying5
 a5:=isAgg5
 z5:=sizeOf5
 v5:=zeroValue5
 t9:=underlying9
 a9:=isAgg9
 z9:=sizeOf9
 v9:=zeroValue9
 t22:=underlying82
 a22:=isAgg82
 z22:=sizeOf82
 v22:=zeroValue82
 a24:=isAgg44
 z24:=sizeOf44
 t25:=underlying214
 a25:=isAgg214
 z25:=sizeOf214
 v25:=zeroValue214
 t39:=underlying253
 a39:=isAgg253
 z39:=sizeOf253
 v39:=zeroValue253
 t45:=underlying268
 a45:=isAgg268
 z45:=sizeOf268
 v45:=zeroValue268
 t46:=underlying269
 a46:=isAgg269
 z46:=sizeOf269
 v46:=zeroValue269
 t50:=underlying143
 a50:=isAgg143
 z50:=sizeOf143
 v50:=zeroValue143
 t53:=underlying275
 a53:=isAgg275
 z53:=sizeOf275
 v53:=zeroValue275
 t55:=underlying277
 a55:=isAgg277
 z55:=sizeOf277
 v55:=zeroValue277
 t66:=underlying280
 a66:=isAgg280
 z66:=sizeOf280
 v66:=zeroValue280
 t70:=underlying238
 a70:=isAgg238
 z70:=sizeOf238
 v70:=zeroValue238
 t76:=underlying285
 a76:=isAgg285
 z76:=sizeOf285
 v76:=zeroValue285
 t77:=underlying205
 a77:=isAgg205
 z77:=sizeOf205
 v77:=zeroValue205}
end Go.Proofs

/- Tools. -/
import Derived.Shelf.Small.Bits
import Derived.Shelf.Strconv.Itoa0
import Derived.Shelf.Strings.Search1
import Derived.Shelf.Strings.Search2
import Derived.Shelf.Strings.Search3
import Derived.Shelf.LaysM
import Derived.Shelf.Strings.Shaped
import Derived.Shelf.Slices.Equal
import Derived.Ground.Names2Prog
import Derived.Shelf.Slices.Clone
import Derived.Shelf.Slices.Empties2
import Derived.Ground.SlgnProg
import Derived.Shelf.SlicesE.Clone
import Derived.Ground.SlsfProg
import Derived.Shelf.SlSortCmp.Insertion
import Derived.Shelf.SlSortCmp.SiftDown1
import Derived.Shelf.SlSortCmp.HeapSort1
import Derived.Shelf.SlSortCmp.Insertion1
import Derived.Shelf.SlSortCmp.Median1
import Derived.Shelf.SlSortCmp.Pivot1
import Derived.Shelf.SlSortCmp.ReverseRange1
import Derived.Shelf.SlSortCmp.PartialInsertion1
import Derived.Shelf.SlSortCmp.PartitionEqual1
import Derived.Shelf.SlSortCmp.Partition1
import Derived.Shelf.SlSortCmp.Pdq1
import Derived.Shelf.SlSortCmp.Whole1
import Derived.Shelf.SlSortCmp.NoneTotal
import Derived.Test.YteifkndfpnkalaaGreatProg
namespace Go.Proofs
open Go.Shelf Go.Proofs.Tryz
def Tryz.ajr:Go.Shelf.Ren:=⟨fun|144=>256|143=>296|219=>318|217=>334|225=>335|224=>336|267=>337|266=>344|314=>345|n=>n,fun|9=>9|4=>4|3=>3|5=>5|46=>295|146=>319|51=>308|n=>n,fun|1=>0|n=>n⟩
theorem Tryz.ajq:Go.Proofs.Lays.n144 prog Tryz.ajr:={
 mixed:=by kernel_rfl
 f143:=func296.trans (congrArg some (by kernel_rfl))
 f144:=func256.trans (congrArg some (by kernel_rfl))
 f217:=func334.trans (congrArg some (by kernel_rfl))
 f219:=func318.trans (congrArg some (by kernel_rfl))
 f224:=func336.trans (congrArg some (by kernel_rfl))
 f225:=func335.trans (congrArg some (by kernel_rfl))
 f266:=func344.trans (congrArg some (by kernel_rfl))
 f267:=func337.trans (congrArg some (by kernel_rfl))
 f314:=func345.trans (congrArg some (by kernel_rfl))
 t3:=underlying3
 a3:=isAgg3
 z3:=sizeOf3
 v3:=zeroValue3
 t4:=underlying4
 a4:=isAgg4
 z4:=sizeOf4
 v4:=zeroValue4
 t5:=underlying5
 a5:=isAgg5
 z5:=sizeOf5
 v5:=zeroValue5
 t9:=underlying9
 a9:=isAgg9
 z9:=sizeOf9
 v9:=zeroValue9
 t46:=underlying295
 a46:=isAgg295
 z46:=sizeOf295
 v46:=zeroValue295
 t51:=underlying308
 a51:=isAgg308
 z51:=sizeOf308
 v51:=zeroValue308
 t146:=underlying319
 a146:=isAgg319
 z146:=sizeOf319
 v146:=zeroValue319
 g1:=by kernel_rfl}
open Go.RowKit Go.Lib in
theorem Tryz.strings_Contains(s sub:ByteArray)(m:Int)(w:World)(hs:s.size<4294967281)(hm:w.cell? ⟨0,0,none⟩=some (.int .i64 m)):
  Calls prog 256 #[.string s,.string sub] w fun e w'=>e= .returned (.bool (Lib.contains s.data.toList sub.data.toList))∧w'=w:=Any.strings_Contains Tryz.ajq s sub m w hs hm
def Tryz.ajt:Go.Shelf.Ren:=⟨fun|144=>256|143=>296|219=>318|217=>334|225=>335|224=>336|267=>337|266=>344|314=>345|n=>n,fun|9=>9|4=>4|3=>3|5=>5|46=>295|146=>319|51=>308|n=>n,fun|1=>0|n=>n⟩
theorem Tryz.ajs:Go.Proofs.LaysM.n144 prog Tryz.ajt:={
 mixed:=by kernel_rfl
 f143:=func296.trans (congrArg some (by kernel_rfl))
 f144:=func256.trans (congrArg some (by kernel_rfl))
 f217:=func334.trans (congrArg some (by kernel_rfl))
 f219:=func318.trans (congrArg some (by kernel_rfl))
 f224:=func336.trans (congrArg some (by kernel_rfl))
 f225:=func335.trans (congrArg some (by kernel_rfl))
 f266:=func344.trans (congrArg some (by kernel_rfl))
 f267:=func337.trans (congrArg some (by kernel_rfl))
 f314:=func345.trans (congrArg some (by kernel_rfl))
 t3:=underlying3
 a3:=isAgg3
 z3:=sizeOf3
 v3:=zeroValue3
 t4:=underlying4
 a4:=isAgg4
 z4:=sizeOf4
 v4:=zeroValue4
 t5:=underlying5
 a5:=isAgg5
 z5:=sizeOf5
 v5:=zeroValue5
 t9:=underlying9
 a9:=isAgg9
 z9:=sizeOf9
 v9:=zeroValue9
 t46:=underlying295
 a46:=isAgg295
 z46:=sizeOf295
 v46:=zeroValue295
 t51:=underlying308
 a51:=isAgg308
 z51:=sizeOf308
 v51:=zeroValue308
 t146:=underlying319
 a146:=isAgg319
 z146:=sizeOf319
 v146:=zeroValue319
 g1:=by kernel_rfl
 i3:=by kernel_rfl
 i4:=by kernel_rfl
 i5:=by kernel_rfl
 i9:=by kernel_rfl
 i46:=by kernel_rfl
 i51:=by kernel_rfl
 i146:=by kernel_rfl
 m1:=by kernel_rfl
 s1_3:=fun w h=>Go.Proofs.cell_of_shapedOpen_int (zero:= #[.int .i64 0]) (t:=3) h (of_decide_eq_true (by kernel_rfl)) (by kernel_rfl) rfl (by kernel_rfl) (by kernel_rfl) underlying3}
def Tryz.ajp:Go.Shelf.Ren:=⟨fun|111=>45|n=>n,fun|28=>53|3=>3|4=>4|0=>0|n=>n,fun|n=>n⟩
theorem Tryz.Kf:Go.Proofs.Lays.n111 prog Tryz.ajp:={
 mixed:=by kernel_rfl
 f111:=func45.trans (congrArg some (by kernel_rfl))
 t0:=underlying0
 a0:=isAgg0
 z0:=sizeOf0
 v0:=zeroValue0
 t3:=underlying3
 a3:=isAgg3
 z3:=sizeOf3
 v3:=zeroValue3
 t4:=underlying4
 a4:=isAgg4
 z4:=sizeOf4
 v4:=zeroValue4
 t28:=underlying53
 a28:=isAgg53
 z28:=sizeOf53
 v28:=zeroValue53}
open Go.RowKit Go.Lib in
theorem Tryz.slices_Equal_int(dc iB n c cS lF m d:Nat)(xs ys:List Int)(w:World)(hx:n≤xs.length)(hy:m≤ys.length)(hbig:n≤9223372036854775807)(hbig2:m≤9223372036854775807)(hc1: ∀j,j<xs.length→w.cell? ⟨dc,iB+j,none⟩=some (.int .i64 (xs.getD j 0)))(hc2: ∀j,j<ys.length→w.cell? ⟨cS,lF+j,none⟩=some (.int .i64 (ys.getD j 0))):
  Calls prog 45 #[.slice (some ⟨dc,iB,none⟩) n c,.slice (some ⟨cS,lF,none⟩) m d] w fun e w'=>e= .returned (.bool (xs.take n==ys.take m))∧ ∃q,w'=w.drewN q:=Any.slices_Equal_int Tryz.Kf dc iB n c cS lF m d xs ys w hx hy hbig hbig2 hc1 hc2
open Go.RowKit Go.Lib in
theorem Tryz.slices_Equal_int_empty(aN a2:Option Addr)(c m d:Nat)(w:World)(hbig2:m≤9223372036854775807):
  Calls prog 45 #[.slice aN 0 c,.slice a2 m d] w fun e w'=>e= .returned (.bool (decide (m=0)))∧w'=w:=Any.slices_Equal_int_empty Tryz.Kf aN a2 c m d w hbig2
def Tryz.aju:Go.Shelf.Ren:=⟨fun|15=>142|n=>n,fun|22=>53|3=>3|4=>4|n=>n,fun|n=>n⟩
theorem Tryz.Kg:Go.Proofs.Lays2.n15 prog Tryz.aju:={
 mixed:=by kernel_rfl
 f15:=func142.trans (congrArg some (by kernel_rfl))
 t3:=underlying3
 a3:=isAgg3
 z3:=sizeOf3
 v3:=zeroValue3
 t4:=underlying4
 a4:=isAgg4
 z4:=sizeOf4
 v4:=zeroValue4
 t22:=underlying53
 a22:=isAgg53
 z22:=sizeOf53
 v22:=zeroValue53
 i3:=by kernel_rfl}
open Go.RowKit Go.Lib in
theorem Tryz.slices_Clone_int(b off n c:Nat)(An:List Int)(w:World)(fr:n≤An.length)(hbig:n*8≤140737488355328)(bT: ∀j,j<An.length→w.cell? ⟨b,off+j,none⟩=some (.int .i64 (An.getD j 0))):
  Calls prog 142 #[.slice (some ⟨b,off,none⟩) n c] w fun e w'=> ∃ef,e= .returned ef∧w'.ownsRow w.heap.size 3 1 ef n ((An.take n).map (Value.int .i64))∧ef≠ .slice none 0 0∧Below w.heap.size w w':=Any.slices_Clone_int Tryz.Kg b off n c An w fr hbig bT
open Go.RowKit Go.Lib in
theorem Tryz.slices_Clone_int_nil(n c:Nat)(w:World):
  Calls prog 142 #[.slice none n c] w fun e w'=>e= .returned (.slice none 0 0)∧w'=w:=Any.slices_Clone_int_nil Tryz.Kg n c w
open Go.RowKit Go.Lib in
theorem Tryz.slices_Clone_int_zero(a:Addr)(c:Nat)(w:World):
  Calls prog 142 #[.slice (some a) 0 c] w fun e w'=> ∃ef,e= .returned ef∧w'.ownsRow w.heap.size 3 1 ef 0 []∧ef≠ .slice none 0 0∧Below w.heap.size w w':=Any.slices_Clone_int_zero Tryz.Kg a c w
open Go.RowKit Go.Lib in
theorem Tryz.slices_Equal_int_lens(aN a2:Option Addr)(n c m d:Nat)(w:World)(hnm:n≠m):
  Calls prog 45 #[.slice aN n c,.slice a2 m d] w fun e w'=>e= .returned (.bool false)∧w'=w:=Any.slices_Equal_int_lens Tryz.Kf aN a2 n c m d w hnm
def Tryz.ajv:Go.Shelf.Ren:=⟨fun|6=>280|15=>310|14=>309|28=>330|29=>331|20=>322|21=>323|22=>324|23=>325|24=>326|25=>327|26=>328|27=>329|46=>339|47=>340|48=>341|49=>342|50=>343|57=>346|n=>n,fun|22=>123|24=>53|25=>185|3=>3|39=>295|0=>0|53=>308|55=>310|4=>4|46=>302|45=>301|50=>169|5=>5|9=>9|66=>314|70=>220|76=>321|77=>251|n=>n,fun|n=>n⟩
theorem Tryz.Ti:Go.Proofs.SlLaysF.n6 prog Tryz.ajv:={
 mixed:=by kernel_rfl
 f6:=⟨f280.name,by decide,func280.trans (congrArg some (by kernel_rfl))⟩
 f14:=⟨f309.name,by decide,func309.trans (congrArg some (by kernel_rfl))⟩
 f15:=func310.trans (congrArg some (by kernel_rfl))
 f20:=⟨f322.name,by decide,func322.trans (congrArg some (by kernel_rfl))⟩
 f21:=⟨f323.name,by decide,func323.trans (congrArg some (by kernel_rfl))⟩
 f22:=⟨f324.name,by decide,func324.trans (congrArg some (by kernel_rfl))⟩
 f23:=⟨f325.name,by decide,func325.trans (congrArg some (by kernel_rfl))⟩
 f24:=⟨f326.name,by decide,func326.trans (congrArg some (by kernel_rfl))⟩
 f25:=⟨f327.name,by decide,func327.trans (congrArg some (by kernel_rfl))⟩
 f26:=⟨f328.name,by decide,func328.trans (congrArg some (by kernel_rfl))⟩
 f27:=⟨f329.name,by decide,func329.trans (congrArg some (by kernel_rfl))⟩
 f28:=func330.trans (congrArg some (by kernel_rfl))
 f29:=func331.trans (congrArg some (by kernel_rfl))
 f46:=⟨f339.name,by decide,func339.trans (congrArg some (by kernel_rfl))⟩
 f47:=func340.trans (congrArg some (by kernel_rfl))
 f48:=func341.trans (congrArg some (by kernel_rfl))
 f49:=⟨f342.name,by decide,func342.trans (congrArg some (by kernel_rfl))⟩
 f50:=⟨f343.name,by decide,func343.trans (congrArg some (by kernel_rfl))⟩
 f57:=⟨f346.name,by decide,func346.trans (congrArg some (by kernel_rfl))⟩
 t0:=underlying0
 a0:=isAgg0
 z0:=sizeOf0
 v0:=zeroValue0
 t3:=underlying3
 a3:=isAgg3
 z3:=sizeOf3
 v3:=zeroValue3
 t4:=underlying4
 a4:=isAgg4
 z4:=sizeOf4
 v4:=zeroValue4
 t5:=underlying5
 a5:=isAgg5
 z5:=sizeOf5
 v5:=zeroValue5
 t9:=underlying9
 a9:=isAgg9
 z9:=sizeOf9
 v9:=zeroValue9
 t22:=underlying123
 a22:=isAgg123
 z22:=sizeOf123
 v22:=zeroValue123
 a24:=isAgg53
 z24:=sizeOf53
 t25:=underlying185
 a25:=isAgg185
 z25:=sizeOf185
 v25:=zeroValue185
 t39:=underlying295
 a39:=isAgg295
 z39:=sizeOf295
 v39:=zeroValue295
 t45:=underlying301
 a45:=isAgg301
 z45:=sizeOf301
 v45:=zeroValue301
 t46:=underlying302
 a46:=isAgg302
 z46:=sizeOf302
 v46:=zeroValue302
 t50:=underlying169
 a50:=isAgg169
 z50:=sizeOf169
 v50:=zeroValue169
 t53:=underlying308
 a53:=isAgg308
 z53:=sizeOf308
 v53:=zeroValue308
 t55:=underlying310
 a55:=isAgg310
 z55:=sizeOf310
 v55:=zeroValue310
 t66:=underlying314
 a66:=isAgg314
 z66:=sizeOf314
 v66:=zeroValue314
 t70:=underlying220
 a70:=isAgg220
 z70:=sizeOf220
 v70:=zeroValue220
 t76:=underlying321
 a76:=isAgg321
 z76:=sizeOf321
 v76:=zeroValue321
 t77:=underlying251
 a77:=isAgg251
 z77:=sizeOf251
 v77:=zeroValue251}
end Go.Proofs

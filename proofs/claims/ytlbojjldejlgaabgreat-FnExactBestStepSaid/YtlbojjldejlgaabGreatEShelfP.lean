/- Tools. -/
import Derived.Shelf.Small.Bits
import Derived.Shelf.Small.Wraps
import Derived.Shelf.Strconv.Itoa0
import Derived.Shelf.Strings.Search1
import Derived.Shelf.Strings.Search2
import Derived.Shelf.Strings.Search3
import Derived.Shelf.LaysM
import Derived.Shelf.Strings.Shaped
import Derived.Shelf.Slices.Turned
import Derived.Shelf.Slices.Equal
import Derived.Ground.Names2Prog
import Derived.Shelf.Slices.Clone
import Derived.Shelf.Slices.SearchI
import Derived.Shelf.Slices.Delete
import Derived.Shelf.Slices.Cells
import Derived.Shelf.Slices.Empties
import Derived.Shelf.Slices.Empties2
import Derived.Ground.SlgnProg
import Derived.Shelf.SlicesE.Delete
import Derived.Shelf.SlicesE.Clone
import Derived.Ground.SlsfProg
import Derived.Shelf.SlSortCmp.Insertion
import Derived.Shelf.SlSortCmp.SiftDown1
import Derived.Shelf.SlSortCmp.HeapSort1
import Derived.Shelf.SlSortCmp.Insertion1
import Derived.Shelf.SlSortCmp.Median1
import Derived.Shelf.SlSortCmp.Pivot1
import Derived.Shelf.SlSortCmp.ReverseRange1
import Derived.Shelf.SlSortCmp.PartialInsertion1
import Derived.Shelf.SlSortCmp.PartitionEqual1
import Derived.Shelf.SlSortCmp.Partition1
import Derived.Shelf.SlSortCmp.Pdq1
import Derived.Shelf.SlSortCmp.Whole1
import Derived.Shelf.SlSortCmp.NoneTotal
import Derived.Test.YtlbojjldejlgaabGreatProg
namespace Go.Proofs
open Go.Shelf Go.Proofs.Tryz
def Tryz.aha:Go.Shelf.Ren:=⟨fun|144=>281|143=>305|219=>313|217=>324|225=>325|224=>326|267=>327|266=>333|314=>334|n=>n,fun|9=>9|4=>4|3=>3|5=>5|46=>290|146=>309|51=>300|n=>n,fun|1=>0|n=>n⟩
theorem Tryz.ag':Go.Proofs.Lays.n144 prog Tryz.aha:={
 mixed:=by kernel_rfl
 f143:=func305.trans (congrArg some (by kernel_rfl))
 f144:=func281.trans (congrArg some (by kernel_rfl))
 f217:=func324.trans (congrArg some (by kernel_rfl))
 f219:=func313.trans (congrArg some (by kernel_rfl))
 f224:=func326.trans (congrArg some (by kernel_rfl))
 f225:=func325.trans (congrArg some (by kernel_rfl))
 f266:=func333.trans (congrArg some (by kernel_rfl))
 f267:=func327.trans (congrArg some (by kernel_rfl))
 f314:=func334.trans (congrArg some (by kernel_rfl))
 t3:=underlying3
 a3:=isAgg3
 z3:=sizeOf3
 v3:=zeroValue3
 t4:=underlying4
 a4:=isAgg4
 z4:=sizeOf4
 v4:=zeroValue4
 t5:=underlying5
 a5:=isAgg5
 z5:=sizeOf5
 v5:=zeroValue5
 t9:=underlying9
 a9:=isAgg9
 z9:=sizeOf9
 v9:=zeroValue9
 t46:=underlying290
 a46:=isAgg290
 z46:=sizeOf290
 v46:=zeroValue290
 t51:=underlying300
 a51:=isAgg300
 z51:=sizeOf300
 v51:=zeroValue300
 t146:=underlying309
 a146:=isAgg309
 z146:=sizeOf309
 v146:=zeroValue309
 g1:=by kernel_rfl}
open Go.RowKit Go.Lib in
theorem Tryz.strings_Contains(s sub:ByteArray)(m:Int)(w:World)(hs:s.size<4294967281)(hm:w.cell? ⟨0,0,none⟩=some (.int .i64 m)):
  Calls prog 281 #[.string s,.string sub] w fun e w'=>e= .returned (.bool (Lib.contains s.data.toList sub.data.toList))∧w'=w:=Any.strings_Contains Tryz.ag' s sub m w hs hm
def Tryz.ahc:Go.Shelf.Ren:=⟨fun|144=>281|143=>305|219=>313|217=>324|225=>325|224=>326|267=>327|266=>333|314=>334|n=>n,fun|9=>9|4=>4|3=>3|5=>5|46=>290|146=>309|51=>300|n=>n,fun|1=>0|n=>n⟩
theorem Tryz.ahb:Go.Proofs.LaysM.n144 prog Tryz.ahc:={
 mixed:=by kernel_rfl
 f143:=func305.trans (congrArg some (by kernel_rfl))
 f144:=func281.trans (congrArg some (by kernel_rfl))
 f217:=func324.trans (congrArg some (by kernel_rfl))
 f219:=func313.trans (congrArg some (by kernel_rfl))
 f224:=func326.trans (congrArg some (by kernel_rfl))
 f225:=func325.trans (congrArg some (by kernel_rfl))
 f266:=func333.trans (congrArg some (by kernel_rfl))
 f267:=func327.trans (congrArg some (by kernel_rfl))
 f314:=func334.trans (congrArg some (by kernel_rfl))
 t3:=underlying3
 a3:=isAgg3
 z3:=sizeOf3
 v3:=zeroValue3
 t4:=underlying4
 a4:=isAgg4
 z4:=sizeOf4
 v4:=zeroValue4
 t5:=underlying5
 a5:=isAgg5
 z5:=sizeOf5
 v5:=zeroValue5
 t9:=underlying9
 a9:=isAgg9
 z9:=sizeOf9
 v9:=zeroValue9
 t46:=underlying290
 a46:=isAgg290
 z46:=sizeOf290
 v46:=zeroValue290
 t51:=underlying300
 a51:=isAgg300
 z51:=sizeOf300
 v51:=zeroValue300
 t146:=underlying309
 a146:=isAgg309
 z146:=sizeOf309
 v146:=zeroValue309
 g1:=by kernel_rfl
 i3:=by kernel_rfl
 i4:=by kernel_rfl
 i5:=by kernel_rfl
 i9:=by kernel_rfl
 i46:=by kernel_rfl
 i51:=by kernel_rfl
 i146:=by kernel_rfl
 m1:=by kernel_rfl
 s1_3:=fun w h=>Go.Proofs.cell_of_shapedOpen_int (zero:= #[.int .i64 0]) (t:=3) h (of_decide_eq_true (by kernel_rfl)) (by kernel_rfl) rfl (by kernel_rfl) (by kernel_rfl) underlying3}
def Tryz.ag9:Go.Shelf.Ren:=⟨fun|111=>255|n=>n,fun|28=>51|3=>3|4=>4|0=>0|n=>n,fun|n=>n⟩
theorem Tryz.I7:Go.Proofs.Lays.n111 prog Tryz.ag9:={
 mixed:=by kernel_rfl
 f111:=func255.trans (congrArg some (by kernel_rfl))
 t0:=underlying0
 a0:=isAgg0
 z0:=sizeOf0
 v0:=zeroValue0
 t3:=underlying3
 a3:=isAgg3
 z3:=sizeOf3
 v3:=zeroValue3
 t4:=underlying4
 a4:=isAgg4
 z4:=sizeOf4
 v4:=zeroValue4
 t28:=underlying51
 a28:=isAgg51
 z28:=sizeOf51
 v28:=zeroValue51}
open Go.RowKit Go.Lib in
theorem Tryz.slices_Equal_int(cS gU n c cd gG m d:Nat)(xs ys:List Int)(w:World)(hx:n≤xs.length)(hy:m≤ys.length)(hbig:n≤9223372036854775807)(hbig2:m≤9223372036854775807)(hc1: ∀j,j<xs.length→w.cell? ⟨cS,gU+j,none⟩=some (.int .i64 (xs.getD j 0)))(hc2: ∀j,j<ys.length→w.cell? ⟨cd,gG+j,none⟩=some (.int .i64 (ys.getD j 0))):
  Calls prog 255 #[.slice (some ⟨cS,gU,none⟩) n c,.slice (some ⟨cd,gG,none⟩) m d] w fun e w'=>e= .returned (.bool (xs.take n==ys.take m))∧ ∃q,w'=w.drewN q:=Any.slices_Equal_int Tryz.I7 cS gU n c cd gG m d xs ys w hx hy hbig hbig2 hc1 hc2
open Go.RowKit Go.Lib in
theorem Tryz.slices_Equal_int_empty(aH a2:Option Addr)(c m d:Nat)(w:World)(hbig2:m≤9223372036854775807):
  Calls prog 255 #[.slice aH 0 c,.slice a2 m d] w fun e w'=>e= .returned (.bool (decide (m=0)))∧w'=w:=Any.slices_Equal_int_empty Tryz.I7 aH a2 c m d w hbig2
def Tryz.ahd:Go.Shelf.Ren:=⟨fun|15=>178|n=>n,fun|22=>51|3=>3|4=>4|n=>n,fun|n=>n⟩
theorem Tryz.I8:Go.Proofs.Lays2.n15 prog Tryz.ahd:={
 mixed:=by kernel_rfl
 f15:=func178.trans (congrArg some (by kernel_rfl))
 t3:=underlying3
 a3:=isAgg3
 z3:=sizeOf3
 v3:=zeroValue3
 t4:=underlying4
 a4:=isAgg4
 z4:=sizeOf4
 v4:=zeroValue4
 t22:=underlying51
 a22:=isAgg51
 z22:=sizeOf51
 v22:=zeroValue51
 i3:=by kernel_rfl}
open Go.RowKit Go.Lib in
theorem Tryz.slices_Clone_int(b off n c:Nat)(oi:List Int)(w:World)(eG:n≤oi.length)(hbig:n*8≤140737488355328)(bB: ∀j,j<oi.length→w.cell? ⟨b,off+j,none⟩=some (.int .i64 (oi.getD j 0))):
  Calls prog 178 #[.slice (some ⟨b,off,none⟩) n c] w fun e w'=> ∃c8,e= .returned c8∧w'.ownsRow w.heap.size 3 1 c8 n ((oi.take n).map (Value.int .i64))∧c8≠ .slice none 0 0∧Below w.heap.size w w':=Any.slices_Clone_int Tryz.I8 b off n c oi w eG hbig bB
open Go.RowKit Go.Lib in
theorem Tryz.slices_Clone_int_nil(n c:Nat)(w:World):
  Calls prog 178 #[.slice none n c] w fun e w'=>e= .returned (.slice none 0 0)∧w'=w:=Any.slices_Clone_int_nil Tryz.I8 n c w
open Go.RowKit Go.Lib in
theorem Tryz.slices_Clone_int_zero(a:Addr)(c:Nat)(w:World):
  Calls prog 178 #[.slice (some a) 0 c] w fun e w'=> ∃c8,e= .returned c8∧w'.ownsRow w.heap.size 3 1 c8 0 []∧c8≠ .slice none 0 0∧Below w.heap.size w w':=Any.slices_Clone_int_zero Tryz.I8 a c w
def Tryz.ahf:Go.Shelf.Ren:=⟨fun|23=>97|n=>n,fun|22=>51|3=>3|4=>4|0=>0|n=>n,fun|n=>n⟩
theorem Tryz.ahe:Go.Proofs.Lays2.n23 prog Tryz.ahf:={
 mixed:=by kernel_rfl
 f23:=func97.trans (congrArg some (by kernel_rfl))
 t0:=underlying0
 a0:=isAgg0
 z0:=sizeOf0
 v0:=zeroValue0
 t3:=underlying3
 a3:=isAgg3
 z3:=sizeOf3
 v3:=zeroValue3
 t4:=underlying4
 a4:=isAgg4
 z4:=sizeOf4
 v4:=zeroValue4
 t22:=underlying51
 a22:=isAgg51
 z22:=sizeOf51
 v22:=zeroValue51
 i3:=by kernel_rfl}
open Go.RowKit Go.Lib in
theorem Tryz.slices_Equal_int_lens(aH a2:Option Addr)(n c m d:Nat)(w:World)(hnm:n≠m):
  Calls prog 255 #[.slice aH n c,.slice a2 m d] w fun e w'=>e= .returned (.bool false)∧w'=w:=Any.slices_Equal_int_lens Tryz.I7 aH a2 n c m d w hnm
def Tryz.ahg:Go.Shelf.Ren:=⟨fun|6=>291|15=>310|14=>309|28=>322|29=>323|20=>314|21=>315|22=>316|23=>317|24=>318|25=>319|26=>320|27=>321|46=>328|47=>329|48=>330|49=>331|50=>332|57=>335|n=>n,fun|22=>96|24=>51|25=>219|3=>3|39=>290|0=>0|53=>300|55=>302|4=>4|46=>294|45=>293|50=>80|5=>5|9=>9|66=>304|70=>253|76=>311|77=>241|n=>n,fun|n=>n⟩
theorem Tryz.QR:Go.Proofs.SlLaysF.n6 prog Tryz.ahg:={
 mixed:=by kernel_rfl
 f6:=⟨f291.name,by decide,func291.trans (congrArg some (by kernel_rfl))⟩
 f14:=⟨f309.name,by decide,func309.trans (congrArg some (by kernel_rfl))⟩
 f15:=func310.trans (congrArg some (by kernel_rfl))
 f20:=⟨f314.name,by decide,func314.trans (congrArg some (by kernel_rfl))⟩
 f21:=⟨f315.name,by decide,func315.trans (congrArg some (by kernel_rfl))⟩
 f22:=⟨f316.name,by decide,func316.trans (congrArg some (by kernel_rfl))⟩
 f23:=⟨f317.name,by decide,func317.trans (congrArg some (by kernel_rfl))⟩
 f24:=⟨f318.name,by decide,func318.trans (congrArg some (by kernel_rfl))⟩
 f25:=⟨f319.name,by decide,func319.trans (congrArg some (by kernel_rfl))⟩
 f26:=⟨f320.name,by decide,func320.trans (congrArg some (by kernel_rfl))⟩
 f27:=⟨f321.name,by decide,func321.trans (congrArg some (by kernel_rfl))⟩
 f28:=func322.trans (congrArg some (by kernel_rfl))
 f29:=func323.trans (congrArg some (by kernel_rfl))
 f46:=⟨f328.name,by decide,func328.trans (congrArg some (by kernel_rfl))⟩
 f47:=func329.trans (congrArg some (by kernel_rfl))
 f48:=func330.trans (congrArg some (by kernel_rfl))
 f49:=⟨f331.name,by decide,func331.trans (congrArg some (by kernel_rfl))⟩
 f50:=⟨f332.name,by decide,func332.trans (congrArg some (by kernel_rfl))⟩
 f57:=⟨f335.name,by decide,func335.trans (congrArg some (by kernel_rfl))⟩
 t0:=underlying0
 a0:=isAgg0
 z0:=sizeOf0
 v0:=zeroValue0
 t3:=underlying3
 a3:=isAgg3
 z3:=sizeOf3
 v3:=zeroValue3
 t4:=underlying4
 a4:=isAgg4
 z4:=sizeOf4
 v4:=zeroValue4
 t5:=underlying5
 a5:=isAgg5
 z5:=sizeOf5
 v5:=zeroValue5
 t9:=underlying9
 a9:=isAgg9
 z9:=sizeOf9
 v9:=zeroValue9
 t22:=underlying96
 a22:=isAgg96
 z22:=sizeOf96
 v22:=zeroValue96
 a24:=isAgg51
 z24:=sizeOf51
 t25:=underlying219
 a25:=isAgg219
 z25:=sizeOf219
 v25:=zeroValue219
 t39:=underlying290
 a39:=isAgg290
 z39:=sizeOf290
 v39:=zeroValue290
 t45:=underlying293
 a45:=isAgg293
 z45:=sizeOf293
 v45:=zeroValue293
 t46:=underlying294
 a46:=isAgg294
 z46:=sizeOf294
 v46:=zeroValue294
 t50:=underlying80
 a50:=isAgg80
 z50:=sizeOf80
 v50:=zeroValue80
 t53:=underlying300
 a53:=isAgg300
 z53:=sizeOf300
 v53:=zeroValue300
 t55:=underlying302
 a55:=isAgg302
 z55:=sizeOf302
 v55:=zeroValue302
 t66:=underlying304
 a66:=isAgg304
 z66:=sizeOf304
 v66:=zeroValue304
 t70:=underlying253
 a70:=isAgg253
 z70:=sizeOf253
 v70:=zeroValue253
 t76:=underlying311
 a76:=isAgg311
 z76:=sizeOf311
 v76:=zeroValue311
 t77:=underlying241
 a77:=isAgg241
 z77:=sizeOf241
 v77:=zeroValue241}
end Go.Proofs

/- Tools. -/
import Derived.Shelf.Small.Bits
import Derived.Shelf.Small.Wraps
import Derived.Shelf.Strconv.Itoa0
import Derived.Shelf.Strings.Search1
import Derived.Shelf.Strings.Search2
import Derived.Shelf.Strings.Search3
import Derived.Shelf.LaysM
import Derived.Shelf.Strings.Shaped
import Derived.Shelf.Slices.Turned
import Derived.Shelf.Slices.Equal
import Derived.Ground.Names2Prog
import Derived.Shelf.Slices.Clone
import Derived.Shelf.Slices.SearchI
import Derived.Shelf.Slices.Delete
import Derived.Shelf.Slices.Cells
import Derived.Shelf.Slices.Empties
import Derived.Shelf.Slices.Empties2
import Derived.Ground.SlgnProg
import Derived.Shelf.SlicesE.Delete
import Derived.Shelf.SlicesE.Clone
import Derived.Ground.SlsfProg
import Derived.Shelf.SlSortCmp.Insertion
import Derived.Shelf.SlSortCmp.SiftDown1
import Derived.Shelf.SlSortCmp.HeapSort1
import Derived.Shelf.SlSortCmp.Insertion1
import Derived.Shelf.SlSortCmp.Median1
import Derived.Shelf.SlSortCmp.Pivot1
import Derived.Shelf.SlSortCmp.ReverseRange1
import Derived.Shelf.SlSortCmp.PartialInsertion1
import Derived.Shelf.SlSortCmp.PartitionEqual1
import Derived.Shelf.SlSortCmp.Partition1
import Derived.Shelf.SlSortCmp.Pdq1
import Derived.Shelf.SlSortCmp.Whole1
import Derived.Shelf.SlSortCmp.NoneTotal
import Derived.Test.YtfegpkfpnpjgeaaGreatProg
namespace Go.Proofs
open Go.Shelf Go.Proofs.Tryz
def Tryz.age:Go.Shelf.Ren:=⟨fun|144=>252|143=>289|219=>310|217=>326|225=>327|224=>328|267=>329|266=>336|314=>337|n=>n,fun|9=>9|4=>4|3=>3|5=>5|46=>272|146=>304|51=>290|n=>n,fun|1=>0|n=>n⟩
theorem Tryz.agd:Go.Proofs.Lays.n144 prog Tryz.age:={
 mixed:=by kernel_rfl
 f143:=func289.trans (congrArg some (by kernel_rfl))
 f144:=func252.trans (congrArg some (by kernel_rfl))
 f217:=func326.trans (congrArg some (by kernel_rfl))
 f219:=func310.trans (congrArg some (by kernel_rfl))
 f224:=func328.trans (congrArg some (by kernel_rfl))
 f225:=func327.trans (congrArg some (by kernel_rfl))
 f266:=func336.trans (congrArg some (by kernel_rfl))
 f267:=func329.trans (congrArg some (by kernel_rfl))
 f314:=func337.trans (congrArg some (by kernel_rfl))
 t3:=underlying3
 a3:=isAgg3
 z3:=sizeOf3
 v3:=zeroValue3
 t4:=underlying4
 a4:=isAgg4
 z4:=sizeOf4
 v4:=zeroValue4
 t5:=underlying5
 a5:=isAgg5
 z5:=sizeOf5
 v5:=zeroValue5
 t9:=underlying9
 a9:=isAgg9
 z9:=sizeOf9
 v9:=zeroValue9
 t46:=underlying272
 a46:=isAgg272
 z46:=sizeOf272
 v46:=zeroValue272
 t51:=underlying290
 a51:=isAgg290
 z51:=sizeOf290
 v51:=zeroValue290
 t146:=underlying304
 a146:=isAgg304
 z146:=sizeOf304
 v146:=zeroValue304
 g1:=by kernel_rfl}
open Go.RowKit Go.Lib in
theorem Tryz.strings_Contains(s sub:ByteArray)(m:Int)(w:World)(hs:s.size<4294967281)(hm:w.cell? ⟨0,0,none⟩=some (.int .i64 m)):
  Calls prog 252 #[.string s,.string sub] w fun e w'=>e= .returned (.bool (Lib.contains s.data.toList sub.data.toList))∧w'=w:=Any.strings_Contains Tryz.agd s sub m w hs hm
def Tryz.agh:Go.Shelf.Ren:=⟨fun|144=>252|143=>289|219=>310|217=>326|225=>327|224=>328|267=>329|266=>336|314=>337|n=>n,fun|9=>9|4=>4|3=>3|5=>5|46=>272|146=>304|51=>290|n=>n,fun|1=>0|n=>n⟩
theorem Tryz.agf:Go.Proofs.LaysM.n144 prog Tryz.agh:={
 mixed:=by kernel_rfl
 f143:=func289.trans (congrArg some (by kernel_rfl))
 f144:=func252.trans (congrArg some (by kernel_rfl))
 f217:=func326.trans (congrArg some (by kernel_rfl))
 f219:=func310.trans (congrArg some (by kernel_rfl))
 f224:=func328.trans (congrArg some (by kernel_rfl))
 f225:=func327.trans (congrArg some (by kernel_rfl))
 f266:=func336.trans (congrArg some (by kernel_rfl))
 f267:=func329.trans (congrArg some (by kernel_rfl))
 f314:=func337.trans (congrArg some (by kernel_rfl))
 t3:=underlying3
 a3:=isAgg3
 z3:=sizeOf3
 v3:=zeroValue3
 t4:=underlying4
 a4:=isAgg4
 z4:=sizeOf4
 v4:=zeroValue4
 t5:=underlying5
 a5:=isAgg5
 z5:=sizeOf5
 v5:=zeroValue5
 t9:=underlying9
 a9:=isAgg9
 z9:=sizeOf9
 v9:=zeroValue9
 t46:=underlying272
 a46:=isAgg272
 z46:=sizeOf272
 v46:=zeroValue272
 t51:=underlying290
 a51:=isAgg290
 z51:=sizeOf290
 v51:=zeroValue290
 t146:=underlying304
 a146:=isAgg304
 z146:=sizeOf304
 v146:=zeroValue304
 g1:=by kernel_rfl
 i3:=by kernel_rfl
 i4:=by kernel_rfl
 i5:=by kernel_rfl
 i9:=by kernel_rfl
 i46:=by kernel_rfl
 i51:=by kernel_rfl
 i146:=by kernel_rfl
 m1:=by kernel_rfl
 s1_3:=fun w h=>Go.Proofs.cell_of_shapedOpen_int (zero:= #[.int .i64 0]) (t:=3) h (of_decide_eq_true (by kernel_rfl)) (by kernel_rfl) rfl (by kernel_rfl) (by kernel_rfl) underlying3}
def Tryz.agc:Go.Shelf.Ren:=⟨fun|111=>214|n=>n,fun|28=>41|3=>3|4=>4|0=>0|n=>n,fun|n=>n⟩
theorem Tryz.I1:Go.Proofs.Lays.n111 prog Tryz.agc:={
 mixed:=by kernel_rfl
 f111:=func214.trans (congrArg some (by kernel_rfl))
 t0:=underlying0
 a0:=isAgg0
 z0:=sizeOf0
 v0:=zeroValue0
 t3:=underlying3
 a3:=isAgg3
 z3:=sizeOf3
 v3:=zeroValue3
 t4:=underlying4
 a4:=isAgg4
 z4:=sizeOf4
 v4:=zeroValue4
 t28:=underlying41
 a28:=isAgg41
 z28:=sizeOf41
 v28:=zeroValue41}
open Go.RowKit Go.Lib in
theorem Tryz.slices_Equal_int(cQ hl n c cd gW m d:Nat)(xs ys:List Int)(w:World)(hx:n≤xs.length)(hy:m≤ys.length)(hbig:n≤9223372036854775807)(hbig2:m≤9223372036854775807)(hc1: ∀j,j<xs.length→w.cell? ⟨cQ,hl+j,none⟩=some (.int .i64 (xs.getD j 0)))(hc2: ∀j,j<ys.length→w.cell? ⟨cd,gW+j,none⟩=some (.int .i64 (ys.getD j 0))):
  Calls prog 214 #[.slice (some ⟨cQ,hl,none⟩) n c,.slice (some ⟨cd,gW,none⟩) m d] w fun e w'=>e= .returned (.bool (xs.take n==ys.take m))∧ ∃q,w'=w.drewN q:=Any.slices_Equal_int Tryz.I1 cQ hl n c cd gW m d xs ys w hx hy hbig hbig2 hc1 hc2
open Go.RowKit Go.Lib in
theorem Tryz.slices_Equal_int_empty(aI a2:Option Addr)(c m d:Nat)(w:World)(hbig2:m≤9223372036854775807):
  Calls prog 214 #[.slice aI 0 c,.slice a2 m d] w fun e w'=>e= .returned (.bool (decide (m=0)))∧w'=w:=Any.slices_Equal_int_empty Tryz.I1 aI a2 c m d w hbig2
def Tryz.agi:Go.Shelf.Ren:=⟨fun|15=>139|n=>n,fun|22=>41|3=>3|4=>4|n=>n,fun|n=>n⟩
theorem Tryz.I4:Go.Proofs.Lays2.n15 prog Tryz.agi:={
 mixed:=by kernel_rfl
 f15:=func139.trans (congrArg some (by kernel_rfl))
 t3:=underlying3
 a3:=isAgg3
 z3:=sizeOf3
 v3:=zeroValue3
 t4:=underlying4
 a4:=isAgg4
 z4:=sizeOf4
 v4:=zeroValue4
 t22:=underlying41
 a22:=isAgg41
 z22:=sizeOf41
 v22:=zeroValue41
 i3:=by kernel_rfl}
open Go.RowKit Go.Lib in
theorem Tryz.slices_Clone_int(b off n c:Nat)(o2:List Int)(w:World)(eD:n≤o2.length)(hbig:n*8≤140737488355328)(bG: ∀j,j<o2.length→w.cell? ⟨b,off+j,none⟩=some (.int .i64 (o2.getD j 0))):
  Calls prog 139 #[.slice (some ⟨b,off,none⟩) n c] w fun e w'=> ∃c9,e= .returned c9∧w'.ownsRow w.heap.size 3 1 c9 n ((o2.take n).map (Value.int .i64))∧c9≠ .slice none 0 0∧Below w.heap.size w w':=Any.slices_Clone_int Tryz.I4 b off n c o2 w eD hbig bG
open Go.RowKit Go.Lib in
theorem Tryz.slices_Clone_int_nil(n c:Nat)(w:World):
  Calls prog 139 #[.slice none n c] w fun e w'=>e= .returned (.slice none 0 0)∧w'=w:=Any.slices_Clone_int_nil Tryz.I4 n c w
open Go.RowKit Go.Lib in
theorem Tryz.slices_Clone_int_zero(a:Addr)(c:Nat)(w:World):
  Calls prog 139 #[.slice (some a) 0 c] w fun e w'=> ∃c9,e= .returned c9∧w'.ownsRow w.heap.size 3 1 c9 0 []∧c9≠ .slice none 0 0∧Below w.heap.size w w':=Any.slices_Clone_int_zero Tryz.I4 a c w
def Tryz.agk:Go.Shelf.Ren:=⟨fun|23=>52|n=>n,fun|22=>41|3=>3|4=>4|0=>0|n=>n,fun|n=>n⟩
theorem Tryz.agj:Go.Proofs.Lays2.n23 prog Tryz.agk:={
 mixed:=by kernel_rfl
 f23:=func52.trans (congrArg some (by kernel_rfl))
 t0:=underlying0
 a0:=isAgg0
 z0:=sizeOf0
 v0:=zeroValue0
 t3:=underlying3
 a3:=isAgg3
 z3:=sizeOf3
 v3:=zeroValue3
 t4:=underlying4
 a4:=isAgg4
 z4:=sizeOf4
 v4:=zeroValue4
 t22:=underlying41
 a22:=isAgg41
 z22:=sizeOf41
 v22:=zeroValue41
 i3:=by kernel_rfl}
open Go.RowKit Go.Lib in
theorem Tryz.slices_Equal_int_lens(aI a2:Option Addr)(n c m d:Nat)(w:World)(hnm:n≠m):
  Calls prog 214 #[.slice aI n c,.slice a2 m d] w fun e w'=>e= .returned (.bool false)∧w'=w:=Any.slices_Equal_int_lens Tryz.I1 aI a2 n c m d w hnm
def Tryz.agl:Go.Shelf.Ren:=⟨fun|6=>262|15=>294|14=>293|28=>319|29=>320|20=>311|21=>312|22=>313|23=>314|24=>315|25=>316|26=>317|27=>318|46=>330|47=>331|48=>332|49=>333|50=>334|57=>338|n=>n,fun|22=>66|24=>41|25=>173|3=>3|39=>272|0=>0|53=>290|55=>292|4=>4|46=>284|45=>283|50=>130|5=>5|9=>9|66=>298|70=>207|76=>306|77=>240|n=>n,fun|n=>n⟩
theorem Tryz.QS:Go.Proofs.SlLaysF.n6 prog Tryz.agl:={
 mixed:=by kernel_rfl
 f6:=⟨f262.name,by decide,func262.trans (congrArg some (by kernel_rfl))⟩
 f14:=⟨f293.name,by decide,func293.trans (congrArg some (by kernel_rfl))⟩
 f15:=func294.trans (congrArg some (by kernel_rfl))
 f20:=⟨f311.name,by decide,func311.trans (congrArg some (by kernel_rfl))⟩
 f21:=⟨f312.name,by decide,func312.trans (congrArg some (by kernel_rfl))⟩
 f22:=⟨f313.name,by decide,func313.trans (congrArg some (by kernel_rfl))⟩
 f23:=⟨f314.name,by decide,func314.trans (congrArg some (by kernel_rfl))⟩
 f24:=⟨f315.name,by decide,func315.trans (congrArg some (by kernel_rfl))⟩
 f25:=⟨f316.name,by decide,func316.trans (congrArg some (by kernel_rfl))⟩
 f26:=⟨f317.name,by decide,func317.trans (congrArg some (by kernel_rfl))⟩
 f27:=⟨f318.name,by decide,func318.trans (congrArg some (by kernel_rfl))⟩
 f28:=func319.trans (congrArg some (by kernel_rfl))
 f29:=func320.trans (congrArg some (by kernel_rfl))
 f46:=⟨f330.name,by decide,func330.trans (congrArg some (by kernel_rfl))⟩
 f47:=func331.trans (congrArg some (by kernel_rfl))
 f48:=func332.trans (congrArg some (by kernel_rfl))
 f49:=⟨f333.name,by decide,func333.trans (congrArg some (by kernel_rfl))⟩
 f50:=⟨f334.name,by decide,func334.trans (congrArg some (by kernel_rfl))⟩
 f57:=⟨f338.name,by decide,func338.trans (congrArg some (by kernel_rfl))⟩
 t0:=underlying0
 a0:=isAgg0
 z0:=sizeOf0
 v0:=zeroValue0
 t3:=underlying3
 a3:=isAgg3
 z3:=sizeOf3
 v3:=zeroValue3
 t4:=underlying4
 a4:=isAgg4
 z4:=sizeOf4
 v4:=zeroValue4
 t5:=underlying5
 a5:=isAgg5
 z5:=sizeOf5
 v5:=zeroValue5
 t9:=underlying9
 a9:=isAgg9
 z9:=sizeOf9
 v9:=zeroValue9
 t22:=underlying66
 a22:=isAgg66
 z22:=sizeOf66
 v22:=zeroValue66
 a24:=isAgg41
 z24:=sizeOf41
 t25:=underlying173
 a25:=isAgg173
 z25:=sizeOf173
 v25:=zeroValue173
 t39:=underlying272
 a39:=isAgg272
 z39:=sizeOf272
 v39:=zeroValue272
 t45:=underlying283
 a45:=isAgg283
 z45:=sizeOf283
 v45:=zeroValue283
 t46:=underlying284
 a46:=isAgg284
 z46:=sizeOf284
 v46:=zeroValue284
 t50:=underlying130
 a50:=isAgg130
 z50:=sizeOf130
 v50:=zeroValue130
 t53:=underlying290
 a53:=isAgg290
 z53:=sizeOf290
 v53:=zeroValue290
 t55:=underlying292
 a55:=isAgg292
 z55:=sizeOf292
 v55:=zeroValue292
 t66:=underlying298
 a66:=isAgg298
 z66:=sizeOf298
 v66:=zeroValue298
 t70:=underlying207
 a70:=isAgg207
 z70:=sizeOf207
 v70:=zeroValue207
 t76:=underlying306
 a76:=isAgg306
 z76:=sizeOf306
 v76:=zeroValue306
 t77:=underlying240
 a77:=isAgg240
 z77:=sizeOf240
 v77:=zeroValue240}
end Go.Proofs

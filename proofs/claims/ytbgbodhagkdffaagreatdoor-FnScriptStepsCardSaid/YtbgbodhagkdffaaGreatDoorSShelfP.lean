/- Tools. -/
import Derived.Shelf.Strings.OnBuilder
import Derived.Shelf.Strings.Trim
import Derived.Shelf.Small.Utf8
import Derived.Shelf.Strconv.Itoa3
import Derived.Shelf.Strconv.ErrVarAll
import Derived.Shelf.Strings.Shaped
import Derived.Shelf.Strings.Prefix
import Derived.Shelf.Strings.SplitShaped
import Derived.Shelf.Strings.IndexAnyAll
import Derived.Shelf.Unicode.DecodeSlow
import Derived.Shelf.Slices.Turned
import Derived.Shelf.Slices.Clone
import Derived.Shelf.Slices.Cells
import Derived.Shelf.Slices.Empties
import Derived.Shelf.Slices.Empties2
import Derived.Shelf.SlicesE.Clone
import Derived.Shelf.SlSortCmp.NoneTotal
import Derived.Test.YtbgbodhagkdffaaGreatDoorProg
namespace Go.Proofs
open Go.Shelf Go.Proofs.Tryz
def Tryz.l9:Go.Shelf.Ren:=⟨fun|172=>152|244=>231|245=>232|247=>312|279=>313|280=>314|281=>315|282=>316|287=>380|316=>381|171=>133|205=>382|321=>423|322=>424|243=>210|246=>297|283=>362|284=>363|285=>364|286=>365|129=>409|317=>408|318=>410|319=>411|320=>412|337=>440|338=>441|146=>54|221=>145|268=>215|138=>216|143=>217|195=>300|197=>301|218=>302|219=>303|260=>368|217=>369|225=>370|224=>371|267=>372|266=>414|314=>415|161=>444|231=>457|227=>455|233=>458|235=>459|228=>456|151=>464|152=>453|137=>420|119=>463|156=>299|165=>367|166=>57|169=>56|240=>146|241=>413|276=>218|277=>442|153=>443|226=>454|144=>354|145=>150|220=>221|111=>46|102=>445|209=>460|207=>465|n=>n,fun|9=>9|3=>3|75=>89|76=>90|4=>4|5=>5|167=>299|37=>22|0=>0|85=>300|2=>2|168=>302|53=>336|175=>352|46=>342|210=>355|127=>173|145=>387|143=>385|21=>21|171=>335|173=>339|212=>371|51=>372|20=>20|213=>373|232=>408|233=>409|80=>87|31=>84|105=>292|119=>374|139=>377|138=>376|146=>378|117=>413|116=>412|124=>418|72=>83|70=>81|164=>235|59=>177|28=>53|n=>n,fun|15=>1|16=>2|17=>3|18=>6|19=>7|1=>0|3=>4|4=>5|n=>n⟩
theorem Tryz.G5:Go.Proofs.LaysC.n172 prog Tryz.l9:=by
 constructor
 all_goals repeat' first|kernel_rfl|(intro w;kernel_rfl)|constructor
theorem Tryz.amw:Go.Proofs.LaysM.n171 prog Tryz.l9:={Tryz.G5 with
}
theorem Tryz.WZ:Go.Proofs.Lays.n146 prog Tryz.l9:=by
 constructor
 all_goals repeat' first|kernel_rfl|(intro w;kernel_rfl)|constructor
theorem Tryz.NP:Go.Proofs.Lays.n161 prog Tryz.l9:=by
 constructor
 all_goals repeat' first|kernel_rfl|(intro w;kernel_rfl)|constructor
theorem Tryz.G4:Go.Proofs.Lays.n156 prog Tryz.l9:=by
 constructor
 all_goals repeat' first|kernel_rfl|(intro w;kernel_rfl)|constructor
theorem Tryz.amv:Go.Proofs.Lays.n153 prog Tryz.l9:={Tryz.NP with
 f153:=func443.trans (congrArg some (by kernel_rfl))
 f226:=func454.trans (congrArg some (by kernel_rfl))}
theorem Tryz.W3:Go.Proofs.LaysM.n144 prog Tryz.l9:=by
 constructor
 all_goals repeat' first|kernel_rfl|(intro w;kernel_rfl)|exact fun w h=>Go.Proofs.cell_of_shapedOpen_int (zero:= #[.int .i64 0]) (t:=3) h (of_decide_eq_true (by kernel_rfl)) (by kernel_rfl) rfl (by kernel_rfl) (by kernel_rfl) underlying3|constructor
theorem Tryz.amu:Go.Proofs.Lays.n145 prog Tryz.l9:=by
 constructor
 all_goals repeat' first|kernel_rfl|(intro w;kernel_rfl)|constructor
theorem Tryz.amt:Go.Proofs.Lays.n144 prog Tryz.l9:={Tryz.W3 with
}
theorem Tryz.ams:Go.Proofs.Lays.n143 prog Tryz.l9:={Tryz.WZ with
}
theorem Tryz.NO:Go.Proofs.Lays.n111 prog Tryz.l9:=by
 constructor
 all_goals repeat' first|kernel_rfl|(intro w;kernel_rfl)|constructor
theorem Tryz.amr:Go.Proofs.Lays.n137 prog Tryz.l9:={Tryz.NP with
}
theorem Tryz.amq:Go.Proofs.Lays.n102 prog Tryz.l9:=by
 constructor
 all_goals repeat' first|kernel_rfl|(intro w;kernel_rfl)|constructor
theorem Tryz.DB:Builder.Extra prog Tryz.l9:={
 sizeBuilder:=by kernel_rfl
 liesBuilder:=by kernel_rfl
 t5:=underlying5
 a5:=isAgg5
 z5:=sizeOf5
 v5:=zeroValue5
 infoByte:=by kernel_rfl
 cellsByte:=by kernel_rfl
 sizeByte:=by kernel_rfl
 neB5:=by decide}
open Go.RowKit Go.Lib in
theorem Tryz.slices_Equal_int(dQ jP n c dG lF m d:Nat)(xs ys:List Int)(w:World)(hx:n≤xs.length)(hy:m≤ys.length)(hbig:n≤9223372036854775807)(hbig2:m≤9223372036854775807)(hc1: ∀j,j<xs.length→w.cell? ⟨dQ,jP+j,none⟩=some (.int .i64 (xs.getD j 0)))(hc2: ∀j,j<ys.length→w.cell? ⟨dG,lF+j,none⟩=some (.int .i64 (ys.getD j 0))):
  Calls prog 46 #[.slice (some ⟨dQ,jP,none⟩) n c,.slice (some ⟨dG,lF,none⟩) m d] w fun e bZ=>e= .returned (.bool (xs.take n==ys.take m))∧ ∃q,bZ=w.drewN q:=Any.slices_Equal_int Tryz.NO dQ jP n c dG lF m d xs ys w hx hy hbig hbig2 hc1 hc2
open Go.RowKit Go.Lib in
theorem Tryz.slices_Equal_int_empty(aW a2:Option Addr)(c m d:Nat)(w:World)(hbig2:m≤9223372036854775807):
  Calls prog 46 #[.slice aW 0 c,.slice a2 m d] w fun e bZ=>e= .returned (.bool (decide (m=0)))∧bZ=w:=Any.slices_Equal_int_empty Tryz.NO aW a2 c m d w hbig2
def Tryz.amx:Go.Shelf.Ren:=⟨fun|15=>167|n=>n,fun|22=>53|3=>3|4=>4|n=>n,fun|n=>n⟩
theorem Tryz.NQ:Go.Proofs.Lays2.n15 prog Tryz.amx:=by
 constructor
 all_goals repeat' first|kernel_rfl|(intro w;kernel_rfl)|constructor
open Go.RowKit Go.Lib in
theorem Tryz.slices_Equal_int_lens(aW a2:Option Addr)(n c m d:Nat)(w:World)(hnm:n≠m):
  Calls prog 46 #[.slice aW n c,.slice a2 m d] w fun e bZ=>e= .returned (.bool false)∧bZ=w:=Any.slices_Equal_int_lens Tryz.NO aW a2 n c m d w hnm
def Tryz.amz:Go.Shelf.Ren:=⟨fun|6=>333|15=>397|14=>396|28=>437|29=>409|20=>429|21=>430|22=>431|23=>432|24=>433|25=>434|26=>435|27=>436|46=>448|47=>449|48=>450|49=>451|50=>452|57=>462|n=>n,fun|22=>130|24=>53|25=>194|3=>3|39=>342|0=>0|53=>372|55=>336|4=>4|46=>393|45=>392|50=>210|5=>5|9=>9|66=>403|70=>285|76=>419|77=>274|n=>n,fun|n=>n⟩
theorem nr{P:Program}{f:FuncId}{B fn:Func}(h:P.funcs[f]? =some fn)(cN:(fn.name== "runtime.NumGoroutine")=false)(he:fn={B with name:=fn.name}):Bears P f B:=⟨fn.name,cN,h.trans (congrArg some he)⟩
theorem Tryz.amy:Go.Proofs.SlLaysF.n6 prog Tryz.amz:=by
 constructor
 all_goals try first|kernel_rfl|(intro w;kernel_rfl)
 exact nr func333 (by decide) (by kernel_rfl);exact nr func396 (by decide) (by kernel_rfl);exact nr func429 (by decide) (by kernel_rfl);exact nr func430 (by decide) (by kernel_rfl);exact nr func431 (by decide) (by kernel_rfl);exact nr func432 (by decide) (by kernel_rfl);exact nr func433 (by decide) (by kernel_rfl);exact nr func434 (by decide) (by kernel_rfl);exact nr func435 (by decide) (by kernel_rfl);exact nr func436 (by decide) (by kernel_rfl);exact nr func448 (by decide) (by kernel_rfl);exact nr func451 (by decide) (by kernel_rfl);exact nr func452 (by decide) (by kernel_rfl);exact nr func462 (by decide) (by kernel_rfl)
end Go.Proofs

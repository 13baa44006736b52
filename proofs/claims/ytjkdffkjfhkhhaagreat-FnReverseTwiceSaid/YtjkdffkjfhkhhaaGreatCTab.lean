/- The types of the program, as the evaluator knows them. -/
import Derived.Test.YtjkdffkjfhkhhaaGreatCTypes
import Derived.Test.YtjkdffkjfhkhhaaGreatChecked
set_option maxRecDepth 10000
namespace Go.Lift
open Go Go.Proofs
structure GS where
 g:Glob
 clone: ∀(l:List Int) {r:List Int},m_ownClone l=some r→VCC Tryz.prog g 109 [] [vM rI l] (ms 0 1 1 rI r) [ar 3 1 1 rI r]
 sort: ∀(x:List (List Int)) (gs:Nat) {r:List (List Int)},m_sortL x=some r→VCC Tryz.prog g 124 [ar 39 gs 1 (rL rI) x] [ms 0 gs 1 (rL rI) x,V.fn 125 []] (V.tup []) [ar 39 gs 1 (rL rI) r]
 contains: ∀(s t:List UInt8) (r:Bool),m_contains s t=some r→PCC Tryz.prog g 185 [vS s,vS t] (vB r)
 sortT: ∀(Γ:List Nd) (m m1:Nat),(ndOf Γ m).size=1→(ndOf Γ m).kid 0=some m1→ ∀(x:List (List Int)) (gs:Nat) {r:List (List Int)},m_sortL x=some r→VCC Tryz.prog g 124 [E.tree Γ m gs (List.map (rL rI) x) []] [ms 0 gs 1 (rL rI) x,V.fn 125 []] (V.tup []) [E.tree Γ m gs (List.map (rL rI) r) []]
 compT: ∀(Γ:List Nd) (m m1:Nat),(ndOf Γ m).size=1→(ndOf Γ m).kid 0=some m1→ ∀(x:List (List Int)) (gs:Nat),(∀l∈x,l.length≤1000000000)→VCC Tryz.prog g 126 [E.tree Γ m gs (List.map (rL rI) x) []] [ms 0 gs 1 (rL rI) x,V.fn 46 []] (ms 0 gs 1 (rL rI) (ddL x)) [E.tree Γ m gs (List.map (rL rI) (ddL x)) []]
def ty3:TyI:=⟨.int .i64,.int .i64 0,1,8, #[]⟩
theorem aOs:ty3.ok Tryz.prog 3:=⟨_,TI.of Tryz.underlying3 (by kernel_rfl),rfl⟩
def ty4:TyI:=⟨.bool,.bool false,1,1, #[]⟩
theorem aOr:ty4.ok Tryz.prog 4:=⟨_,TI.of Tryz.underlying4 (by kernel_rfl),rfl⟩
def ty5:TyI:=⟨.int .u8,.int .u8 0,1,1, #[]⟩
theorem aOq:ty5.ok Tryz.prog 5:=⟨_,TI.of Tryz.underlying5 (by kernel_rfl),rfl⟩
def ty9:TyI:=⟨.string,.string ⟨#[]⟩,1,16, #[]⟩
theorem aOp:ty9.ok Tryz.prog 9:=⟨_,TI.of Tryz.underlying9 (by kernel_rfl),rfl⟩
def ty22:TyI:=⟨.slice 5,.slice none 0 0,1,24, #[]⟩
theorem aMy:ty22.ok Tryz.prog 22:=⟨_,TI.of Tryz.underlying22 (by kernel_rfl),rfl⟩
def ty23:TyI:=⟨.slice 74,.slice none 0 0,1,24, #[]⟩
theorem aMx:ty23.ok Tryz.prog 23:=⟨_,TI.of Tryz.underlying23 (by kernel_rfl),rfl⟩
def ty24:TyI:=⟨.slice 55,.slice none 0 0,1,24, #[]⟩
theorem aMw:ty24.ok Tryz.prog 24:=⟨_,TI.of Tryz.underlying24 (by kernel_rfl),rfl⟩
def ty26:TyI:=⟨.struct [(23,0),(24,1)],.agg #[.slice none 0 0,.slice none 0 0],2,48, #[(0,1),(1,1)]⟩
theorem aMv:ty26.ok Tryz.prog 26:=⟨_,TI.of Tryz.underlying26 (by kernel_rfl),⟨_,rfl,by kernel_rfl,fun w=>by kernel_rfl⟩⟩
def ty36:TyI:=⟨.slice 103,.slice none 0 0,1,24, #[]⟩
theorem aMu:ty36.ok Tryz.prog 36:=⟨_,TI.of Tryz.underlying36 (by kernel_rfl),rfl⟩
def ty39:TyI:=⟨.slice 3,.slice none 0 0,1,24, #[]⟩
theorem aMt:ty39.ok Tryz.prog 39:=⟨_,TI.of Tryz.underlying39 (by kernel_rfl),rfl⟩
def ty42:TyI:=⟨.slice 39,.slice none 0 0,1,24, #[]⟩
theorem aMs:ty42.ok Tryz.prog 42:=⟨_,TI.of Tryz.underlying42 (by kernel_rfl),rfl⟩
def ty49:TyI:=⟨.slice 60,.slice none 0 0,1,24, #[]⟩
theorem aMr:ty49.ok Tryz.prog 49:=⟨_,TI.of Tryz.underlying49 (by kernel_rfl),rfl⟩
def ty51:TyI:=⟨.struct [(49,0),(49,1)],.agg #[.slice none 0 0,.slice none 0 0],2,48, #[(0,1),(1,1)]⟩
theorem aMq:ty51.ok Tryz.prog 51:=⟨_,TI.of Tryz.underlying51 (by kernel_rfl),⟨_,rfl,by kernel_rfl,fun w=>by kernel_rfl⟩⟩
def ty52:TyI:=⟨.slice 51,.slice none 0 0,1,24, #[]⟩
theorem aMp:ty52.ok Tryz.prog 52:=⟨_,TI.of Tryz.underlying52 (by kernel_rfl),rfl⟩
def ty53:TyI:=⟨.slice 84,.slice none 0 0,1,24, #[]⟩
theorem aMo:ty53.ok Tryz.prog 53:=⟨_,TI.of Tryz.underlying53 (by kernel_rfl),rfl⟩
def ty55:TyI:=⟨.struct [(52,0),(53,1)],.agg #[.slice none 0 0,.slice none 0 0],2,48, #[(0,1),(1,1)]⟩
theorem aMn:ty55.ok Tryz.prog 55:=⟨_,TI.of Tryz.underlying55 (by kernel_rfl),⟨_,rfl,by kernel_rfl,fun w=>by kernel_rfl⟩⟩
def ty60:TyI:=⟨.struct [(39,0),(3,1)],.agg #[.slice none 0 0,.int .i64 0],2,32, #[(0,1),(1,1)]⟩
theorem aMm:ty60.ok Tryz.prog 60:=⟨_,TI.of Tryz.underlying60 (by kernel_rfl),⟨_,rfl,by kernel_rfl,fun w=>by kernel_rfl⟩⟩
def ty74:TyI:=⟨.struct [(9,0),(39,1)],.agg #[.string ⟨#[]⟩,.slice none 0 0],2,40, #[(0,1),(1,1)]⟩
theorem aMl:ty74.ok Tryz.prog 74:=⟨_,TI.of Tryz.underlying74 (by kernel_rfl),⟨_,rfl,by kernel_rfl,fun w=>by kernel_rfl⟩⟩
def ty79:TyI:=⟨.struct [(9,0),(49,1)],.agg #[.string ⟨#[]⟩,.slice none 0 0],2,40, #[(0,1),(1,1)]⟩
theorem aMk:ty79.ok Tryz.prog 79:=⟨_,TI.of Tryz.underlying79 (by kernel_rfl),⟨_,rfl,by kernel_rfl,fun w=>by kernel_rfl⟩⟩
def ty80:TyI:=⟨.slice 82,.slice none 0 0,1,24, #[]⟩
theorem aMj:ty80.ok Tryz.prog 80:=⟨_,TI.of Tryz.underlying80 (by kernel_rfl),rfl⟩
def ty82:TyI:=⟨.struct [(3,0),(3,1),(60,2),(79,4),(80,6)],.agg #[.int .i64 0,.int .i64 0,.slice none 0 0,.int .i64 0,.string ⟨#[]⟩,.slice none 0 0,.slice none 0 0],7,112, #[(0,1),(1,1),(2,2),(4,2),(6,1)]⟩
theorem aMi:ty82.ok Tryz.prog 82:=⟨_,TI.of Tryz.underlying82 (by kernel_rfl),⟨_,rfl,by kernel_rfl,fun w=>by kernel_rfl⟩⟩
def ty84:TyI:=⟨.struct [(79,0),(82,2)],.agg #[.string ⟨#[]⟩,.slice none 0 0,.int .i64 0,.int .i64 0,.slice none 0 0,.int .i64 0,.string ⟨#[]⟩,.slice none 0 0,.slice none 0 0],9,152, #[(0,2),(2,7)]⟩
theorem aMh:ty84.ok Tryz.prog 84:=⟨_,TI.of Tryz.underlying84 (by kernel_rfl),⟨_,rfl,by kernel_rfl,fun w=>by kernel_rfl⟩⟩
def ty103:TyI:=⟨.struct [(3,0),(3,1),(39,2)],.agg #[.int .i64 0,.int .i64 0,.slice none 0 0],3,40, #[(0,1),(1,1),(2,1)]⟩
theorem aJS:ty103.ok Tryz.prog 103:=⟨_,TI.of Tryz.underlying103 (by kernel_rfl),⟨_,rfl,by kernel_rfl,fun w=>by kernel_rfl⟩⟩
def ty124:TyI:=⟨.slice 127,.slice none 0 0,1,24, #[]⟩
theorem aJR:ty124.ok Tryz.prog 124:=⟨_,TI.of Tryz.underlying124 (by kernel_rfl),rfl⟩
def ty127:TyI:=⟨.struct [(3,0),(3,1),(3,2)],.agg #[.int .i64 0,.int .i64 0,.int .i64 0],3,24, #[(0,1),(1,1),(2,1)]⟩
theorem aJQ:ty127.ok Tryz.prog 127:=⟨_,TI.of Tryz.underlying127 (by kernel_rfl),⟨_,rfl,by kernel_rfl,fun w=>by kernel_rfl⟩⟩
def ty153:TyI:=⟨.struct [(22,0),(3,1)],.agg #[.slice none 0 0,.int .i64 0],2,32, #[(0,1),(1,1)]⟩
theorem aJP:ty153.ok Tryz.prog 153:=⟨_,TI.of Tryz.underlying153 (by kernel_rfl),⟨_,rfl,by kernel_rfl,fun w=>by kernel_rfl⟩⟩
def ty157:TyI:=⟨.slice 79,.slice none 0 0,1,24, #[]⟩
theorem aJO:ty157.ok Tryz.prog 157:=⟨_,TI.of Tryz.underlying157 (by kernel_rfl),rfl⟩
def ty161:TyI:=⟨.struct [(26,0),(36,2),(42,3),(39,4)],.agg #[.slice none 0 0,.slice none 0 0,.slice none 0 0,.slice none 0 0,.slice none 0 0],5,120, #[(0,2),(2,1),(3,1),(4,1)]⟩
theorem aJN:ty161.ok Tryz.prog 161:=⟨_,TI.of Tryz.underlying161 (by kernel_rfl),⟨_,rfl,by kernel_rfl,fun w=>by kernel_rfl⟩⟩
def ty168:TyI:=⟨.slice 49,.slice none 0 0,1,24, #[]⟩
theorem aJM:ty168.ok Tryz.prog 168:=⟨_,TI.of Tryz.underlying168 (by kernel_rfl),rfl⟩
def ty176:TyI:=⟨.slice 180,.slice none 0 0,1,24, #[]⟩
theorem aJL:ty176.ok Tryz.prog 176:=⟨_,TI.of Tryz.underlying176 (by kernel_rfl),rfl⟩
def ty180:TyI:=⟨.struct [(39,0),(3,1)],.agg #[.slice none 0 0,.int .i64 0],2,32, #[(0,1),(1,1)]⟩
theorem aJK:ty180.ok Tryz.prog 180:=⟨_,TI.of Tryz.underlying180 (by kernel_rfl),⟨_,rfl,by kernel_rfl,fun w=>by kernel_rfl⟩⟩
def ty192:TyI:=⟨.struct [(52,0),(3,1),(42,2)],.agg #[.slice none 0 0,.int .i64 0,.slice none 0 0],3,56, #[(0,1),(1,1),(2,1)]⟩
theorem aJJ:ty192.ok Tryz.prog 192:=⟨_,TI.of Tryz.underlying192 (by kernel_rfl),⟨_,rfl,by kernel_rfl,fun w=>by kernel_rfl⟩⟩
def ty202:TyI:=⟨.slice 9,.slice none 0 0,1,24, #[]⟩
theorem aJI:ty202.ok Tryz.prog 202:=⟨_,TI.of Tryz.underlying202 (by kernel_rfl),rfl⟩
def tyL:List (Nat×TyI):=[(3,ty3),(4,ty4),(5,ty5),(9,ty9),(22,ty22),(23,ty23),(24,ty24),(26,ty26),(36,ty36),(39,ty39),(42,ty42),(49,ty49),(51,ty51),(52,ty52),(53,ty53),(55,ty55),(60,ty60),(74,ty74),(79,ty79),(80,ty80),(82,ty82),(84,ty84),(103,ty103),(124,ty124),(127,ty127),(153,ty153),(157,ty157),(161,ty161),(168,ty168),(176,ty176),(180,ty180),(192,ty192),(202,ty202)]
theorem aO:TyOK Tryz.prog tyL:= .cons aOs (.cons aOr (.cons aOq (.cons aOp (.cons aMy (.cons aMx (.cons aMw (.cons aMv (.cons aMu (.cons aMt (.cons aMs (.cons aMr (.cons aMq (.cons aMp (.cons aMo (.cons aMn (.cons aMm (.cons aMl (.cons aMk (.cons aMj (.cons aMi (.cons aMh (.cons aJS (.cons aJR (.cons aJQ (.cons aJP (.cons aJO (.cons aJN (.cons aJM (.cons aJL (.cons aJK (.cons aJJ (.cons aJI (.nil)))))))))))))))))))))))))))))))))
def mY:List Nd:=[⟨51,2,[(0,1),(1,1)]⟩,⟨60,2,[]⟩,⟨55,2,[(1,3)]⟩,⟨84,9,[]⟩]
theorem bK:Tryz.prog.follows .mixedOrders=true:=by kernel_rfl
def gQ:List Nd:=[⟨55,2,[(0,1),(1,2)]⟩,⟨51,2,[(0,3),(1,3)]⟩,⟨84,9,[]⟩,⟨60,2,[]⟩,⟨49,1,[(0,3)]⟩]
end Go.Lift

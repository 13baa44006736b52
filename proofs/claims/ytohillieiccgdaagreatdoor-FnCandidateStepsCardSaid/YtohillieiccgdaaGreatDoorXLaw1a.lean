/- The steps' texts: the plain law, first part. -/
import Derived.Test.YtohillieiccgdaaGreatDoorXModels
import Derived.Test.YtohillieiccgdaaGreatDoorXLawDraw
set_option maxRecDepth 100000
set_option linter.unusedVariables false
namespace Go.Lift
open Go
def nf(k:Int):Nat:=if k=1∨k=2∨k=7∨k=8 then 2 else if k=3∨k=4∨k=5 then 3 else if k=6∨k=9∨k=10 then 1 else 0
def gB(n:Int):Bool:=decide (-99≤n∧n≤99)
def gZ(s:Step):Bool:=decide (1≤s.kind∧s.kind≤11)&&(decide (nf s.kind<1→s.part=0)&&(decide (nf s.kind<2→s.a=0)&&(decide (nf s.kind<3→s.b=0)&&(gB s.part&&(gB s.a&&gB s.b)))))
def wordsL:List (List UInt8):=[[105,110,116,101,114,99,104,97,110,103,101],[114,101,118,101,114,115,101],[115,107,101,119],[115,104,105,102,116],[115,116,114,105,112],[102,117,115,101],[100,105,115,116,114,105,98,117,116,101],[115,112,108,105,116],[115,119,97,112],[100,114,111,112],[102,111,108,100]]
def zD(k:Int):List UInt8:=wordsL.getD (k-1).toNat []
def args(s:Step):List Int:=[s.part,s.a,s.b].take (nf s.kind)
def tail:List Int→List UInt8
 | []=>[]
 |v::r=>32::Lib.itoa v++tail r
def zU(s:Step):List UInt8:=zD s.kind++tail (args s)
theorem kinds{k:Int}(h:1≤k∧k≤11):k=1∨k=2∨k=3∨k=4∨k=5∨k=6∨k=7∨k=8∨k=9∨k=10∨k=11:=by omega
theorem t8{k:Int}(h:1≤k∧k≤11):kW N k=some (nf k:Int):=by
 rcases kinds h with rfl|rfl|rfl|rfl|rfl|rfl|rfl|rfl|rfl|rfl|rfl<;>decide
theorem E2{k:Int}(h: ¬(1≤k∧k≤11)):kW N k=some (-1):=by
 have h1:k≠1∧k≠2∧k≠3∧k≠4∧k≠5∧k≠6∧k≠7∧k≠8∧k≠9∧k≠10∧k≠11:=by omega
 obtain⟨a1,a2,a3,a4,a5,a6,a7,a8,a9,a10,a11⟩:=h1
 simp [kW,jn, *]
theorem E0(f:Int→Option Bool)(p:Int→Bool)(hf: ∀x,f x=some (p x))(l:List Int)(hl:l.length<1000): ∃r:Int,cU N l f=some r∧(0≤r↔l.any p=true):=by
 suffices h:Ev (cU N l f) (fun r=>(0≤r↔l.any p=true)) by exact h
 unfold cU
 refine Ev.loop (fun x:Int=>0≤x∧x≤l.length∧(l.take x.toNat).any p=false) (fun x:Int=>l.length-x.toNat) ?_ N 0 ⟨by omega,by omega,by simp⟩ (by simp [N];omega)
 rintro again x ⟨h0,h1,h2⟩ hr
 refine aG (fun hlt=> ?_) (fun hge=> ?_)
 ·obtain⟨y,hy,hy2⟩:=eV h0 hlt
  refine aA hy (aA (hf y) (Ev.cond (fun ht=>Ev.some ?_) (fun hfl=> ?_)))
  ·constructor
   ·intro _;rw [List.any_eq_true];exact⟨y,List.mem_of_getElem? hy2,ht⟩
   ·intro _;exact h0
  ·rw [aK (by omega)]
   refine hr _ ⟨by omega,by omega,?_⟩ (by omega)
   rw [show(x+1).toNat=x.toNat+1 by omega,List.take_add_one,hy2]
   simp [h2,hfl]
 ·refine Ev.some ?_
  have hx:x.toNat=l.length:=by omega
  rw [hx,List.take_length] at h2
  rw [h2];simp
theorem eM(f:Int→Option Bool)(p:Int→Bool)(hf: ∀x,f x=some (p x))(l:List Int)(hl:l.length<1000):aV N l f=some (l.any p):=by
 obtain⟨r,h1,h2⟩:=E0 f p hf l hl
 unfold aV
 rw [h1]
 show some (decide (0≤r))=_
 congr 1
 rw [Bool.eq_iff_iff,decide_eq_true_eq];exact h2
theorem S9(s:Step):mI N s=some (gZ s):=by
 have h1: ∀x,jC N x=some (!decide (x=0)):=fun _=>rfl
 have h2: ∀x,gF N x=some (!gB x):=fun x=>by
  unfold gF kF bV gB
  by_cases a: -99≤x<;>by_cases b:x≤99<;>simp [jn,a,b]
 have hr:mG N s=some (decide (1≤s.kind∧s.kind≤11)&&(decide (nf s.kind<1→s.part=0)&&(decide (nf s.kind<2→s.a=0)&&decide (nf s.kind<3→s.b=0)))):=by
  unfold mG
  by_cases hk:1≤s.kind∧s.kind≤11
  ·rw [t8 hk]
   have hn:nf s.kind=0∨nf s.kind=1∨nf s.kind=2∨nf s.kind=3:=by unfold nf;split;simp;split;simp;split<;>simp
   simp only [Option.bind,jn,d8]
   rcases hn with h|h|h|h<;>rw [h]
   ·simp [sub,eM _ _ h1,hk]
   ·simp [sub,eM _ _ h1,hk]
   ·simp [sub,eM _ _ h1,hk]
   ·simp [sub,eM _ _ h1,hk]
  ·rw [E2 hk]
   simp [jn,hk]
 unfold mI
 rw [hr]
 simp only [jn,Option.bind,d8,gZ]
 generalize decide (1≤s.kind∧s.kind≤11)=a1
 generalize decide (nf s.kind<1→s.part=0)=a2
 generalize decide (nf s.kind<2→s.a=0)=a3
 generalize decide (nf s.kind<3→s.b=0)=a4
 cases a1<;>cases a2<;>cases a3<;>cases a4<;>simp [eM _ _ h2]
end Go.Lift

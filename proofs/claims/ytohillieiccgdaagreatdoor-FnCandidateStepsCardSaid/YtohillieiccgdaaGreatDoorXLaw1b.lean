/- The steps' texts: formatting. -/
import Derived.Test.YtohillieiccgdaaGreatDoorXLaw1a
set_option maxRecDepth 100000
set_option linter.unusedVariables false
namespace Go.Lift
open Go
theorem aER{P:Int→Bool}(h:(List.range 199).all (fun k=>P ((k:Int)-99))=true){v:Int}(hv:gB v=true):P v=true:=by
 simp only [gB,decide_eq_true_eq] at hv
 have:=List.all_eq_true.1 h (v+99).toNat (by simp;omega)
 rwa [show(((v+99).toNat:Int)-99)=v by omega] at this
theorem vU{v:Int}(hv:gB v=true):(Lib.itoa v).length≤3∧(32:UInt8)∉Lib.itoa v∧(10:UInt8)∉Lib.itoa v∧Lib.itoa v≠[]:=by
 have:=aER (P:=fun v=>decide ((Lib.itoa v).length≤3)&&(!(Lib.itoa v).contains 32&&(!(Lib.itoa v).contains 10&& !(Lib.itoa v).isEmpty))) (by decide+kernel) hv
 simpa using this
theorem K0{v:Int}(hv:gB v=true): -99≤v∧v≤99:=by simpa [gB] using hv
theorem tI{s:Step}(h:gZ s=true):1≤s.kind∧s.kind≤11:=by
 simp only [gZ,Bool.and_eq_true] at h;exact of_decide_eq_true h.1
theorem T0{s:Step}(h:gZ s=true):gB s.part=true∧gB s.a=true∧gB s.b=true:=by
 simp only [gZ,Bool.and_eq_true] at h
 exact⟨h.2.2.2.2.1,h.2.2.2.2.2.1,h.2.2.2.2.2.2⟩
theorem z8{s:Step}(h:gZ s=true){v:Int}(hv:v∈args s):gB v=true:=by
 obtain⟨h1,h2,h3⟩:=T0 h
 have:=List.mem_of_mem_take hv
 simp at this
 rcases this with rfl|rfl|rfl<;>assumption
theorem aBF(k:Int):nf k≤3:=by unfold nf;split;simp;split;simp;split<;>simp
theorem P3(s:Step):(args s).length=nf s.kind:=by
 have:=aBF s.kind
 simp [args];omega
theorem J5: ∀{l:List Int},(∀v∈l,gB v=true)→(tail l).length≤4*l.length
 | [],_=>by simp [tail]
 |v::l,h=>by
  have h1:=(vU (h v (by simp))).1
  have h2:=J5 (l:=l) (fun x hx=>h x (by simp [hx]))
  simp [tail];omega
theorem C4{k:Int}(hk:1≤k∧k≤11):(zD k).length≤11∧(32:UInt8)∉zD k∧(10:UInt8)∉zD k∧zD k≠[]∧ix wordsL (wr (k-1))=some (zD k):=by
 rcases kinds hk with rfl|rfl|rfl|rfl|rfl|rfl|rfl|rfl|rfl|rfl|rfl<;>decide+kernel
theorem wV{s:Step}(h:gZ s=true):(zU s).length≤23:=by
 have h1:=(C4 (tI h)).1
 have h2:=J5 (fun v hv=>z8 h hv)
 rw [P3] at h2
 have:=aBF s.kind
 simp [zU];omega
theorem U7{α:Type}{l:List α}{i:Int}{x:α}(h0:0≤i)(h:l[i.toNat]? =some x):l.drop i.toNat=x::l.drop (i+1).toNat:=by
 obtain⟨h1,h2⟩:=List.getElem?_eq_some_iff.1 h
 rw [List.drop_eq_getElem_cons h1,h2,show(i+1).toNat=i.toNat+1 by omega]
theorem J8{s:Step}(h:gZ s=true):kV N s=some (zU s):=by
 have hk:=tI h
 have hlen:=wV h
 have hal:=P3 s
 have hn:=aBF s.kind
 refine Ev.eq ?_
 unfold kV
 refine aA (show lL N=some wordsL from rfl) (aA (C4 hk).2.2.2.2 (aA (show d8 N s=some [s.part,s.a,s.b] from rfl) (aA (t8 hk)
  (aA (C8 (by omega) (by omega) (by simp;omega)) ?_))))
 rw [show(List.take (nf s.kind:Int).toNat [s.part,s.a,s.b]).drop (0:Int).toNat=args s from by simp [args]]
 refine Ev.loop (fun x:List UInt8×Int=>0≤x.2∧x.2≤(args s).length∧x.1++tail ((args s).drop x.2.toNat)=zU s) (fun x=>(args s).length-x.2.toNat) ?_ N _ ⟨by simp,by simp,rfl⟩ (by simp [N];omega)
 rintro again ⟨x,i⟩ ⟨h0,h1,h2⟩ hr
 dsimp only at h0 h1 h2⊢
 refine aG (fun hlt=> ?_) (fun hge=> ?_)
 ·obtain⟨v,hv,hv2⟩:=eV h0 hlt
  have hsm:=z8 h (List.mem_of_getElem? hv2)
  have hrg:=K0 hsm
  have hd:=U7 h0 hv2
  rw [hd] at h2
  have hxl:x.length≤23:=by have:=congrArg List.length h2;simp at this;omega
  have hil:=(vU hsm).1
  refine aA hv (aA (show m_itoa v=some (Lib.itoa v) by unfold m_itoa;rw [if_pos (by omega)]) (aA (G4 (by simp;omega)) (aA (G4 (by simp;omega)) ?_)))
  rw [aK (by omega)]
  refine hr _ ⟨by dsimp only;omega,by dsimp only;omega,?_⟩ (by dsimp only;omega)
  dsimp only
  rw [←h2];simp [tail]
 ·refine Ev.some ?_
  have hx:i.toNat=(args s).length:=by omega
  rw [hx,List.drop_length] at h2
  simpa [tail] using h2
def uT(l:List Step):List UInt8:=(l.map (fun s=>zU s++[10])).flatten
def aAK(l:List Step):Bool:=decide (l.length≤12)&&l.all gZ
def fmt(l:List Step):List UInt8:=bif aAK l then uT l else []
theorem aAI{l:List Step}(h:l.all gZ=true):(uT l).length≤24*l.length:=by
 induction l with
 |nil=>simp [uT]
 |cons s l ih=>
  simp only [List.all_cons,Bool.and_eq_true] at h
  have:=ih h.2
  have:=wV h.1
  simp [uT] at *; omega
theorem aDT{l:List Step}{s:Step}(hm:s∈l)(h:gZ s=false):fmt l=[]:=by
 have:l.all gZ=false:=by rw [List.all_eq_false];exact⟨s,hm,by rw [h];simp⟩
 simp [fmt,aAK,this]
theorem aDS{l:List Step}{x:List UInt8}{i:Int}(hx:x=uT (l.take i.toNat))(hg:(l.take i.toNat).all gZ=true)(h12:i.toNat=0∨l.length≤12)(h1:i≤l.length)(hge: ¬i<l.length):x=fmt l:=by
 have hi:i.toNat=l.length:=by omega
 rw [hi,List.take_length] at hx hg
 unfold fmt aAK
 rw [hg]
 have:l.length≤12:=by rcases h12 with h|h<;>omega
 simp [this,hx]
theorem aAJ{l:List Step}{i:Int}{s:Step}(h0:0≤i)(h:l[i.toNat]? =some s):uT (l.take (i+1).toNat)=uT (l.take i.toNat)++(zU s++[10]):=by
 rw [show(i+1).toNat=i.toNat+1 by omega,List.take_add_one,h]
 simp [uT]
theorem aAG{l:List Step}{i:Int}{s:Step}(h0:0≤i)(h:l[i.toNat]? =some s)(hg:(l.take i.toNat).all gZ=true)(hs:gZ s=true):(l.take (i+1).toNat).all gZ=true:=by
 rw [show(i+1).toNat=i.toNat+1 by omega,List.take_add_one,h]
 simp only [Option.toList_some,List.all_append,hg,List.all_cons,hs,List.all_nil,Bool.and_true]
theorem T2{l:List Step}{i:Int}(h12:i.toNat=0∨l.length≤12)(hg:(l.take i.toNat).all gZ=true):(uT (l.take i.toNat)).length≤300:=by
 have h1:=aAI hg
 have h2:(l.take i.toNat).length≤12:=by rcases h12 with h|h<;>simp<;>omega
 omega
theorem L5(l:List Step)(hl:l.length≤10000):fU N l=some (fmt l):=by
 refine Ev.eq ?_
 unfold fU
 refine Ev.loop (fun x:List UInt8×Int=>0≤x.2∧x.2≤l.length∧x.1=uT (l.take x.2.toNat)∧(l.take x.2.toNat).all gZ=true∧(x.2.toNat=0∨l.length≤12)) (fun x=>l.length-x.2.toNat) ?_ N _ ⟨by simp,by simp,by simp [uT],by simp,.inl rfl⟩ (by simp [N];omega)
 rintro again ⟨x,i⟩ ⟨h0,h1,h2,h3,h4⟩ hr
 dsimp only at h0 h1 h2 h3 h4⊢
 refine aG (fun hlt=> ?_) (fun hge=>Ev.some (aDS h2 h3 h4 h1 hge))
 obtain⟨s,hs,hs2⟩:=eV h0 hlt
 refine aA hs (Ev.jn (fun b=>b=(decide (12<(l.length:Int))|| !gZ s)) (fun j hj=> ?_) (fun b hb=> ?_))
 ·refine aG (fun h=>hj _ (by simp [h])) (fun h=>aA (S9 s) (hj _ (by simp [h])))
 ·subst hb
  refine Ev.cond (fun hb=>Ev.some ?_) (fun hb=> ?_)
  ·simp only [Bool.or_eq_true,decide_eq_true_eq,Bool.not_eq_true'] at hb
   rcases hb with hb|hb
   ·have: ¬l.length≤12:=by omega
    simp [fmt,aAK,this]
   ·rw [aDT (List.mem_of_getElem? hs2) hb]
  ·simp only [Bool.or_eq_false_iff,decide_eq_false_iff_not,Bool.not_eq_false'] at hb
   obtain⟨hb1,hb2⟩:=hb
   have h12:l.length≤12:=by omega
   have hll:=wV hb2
   have hfl:=T2 (.inr h12) h3
   refine aA (J8 hb2) (aA (G4 (by simp;omega)) (aA (G4 (by subst h2;simp;omega)) ?_))
   rw [aK (by omega)]
   exact hr _ ⟨by dsimp only;omega,by dsimp only;omega,by dsimp only;rw [aAJ h0 hs2,h2],aAG h0 hs2 h3 hb2,.inr h12⟩ (by dsimp only;omega)
end Go.Lift

/- slices.SortFunc of slices of integers by slices.Compare: from the library's proof to the contract. -/
import Derived.Test.YtcihigfifglboabGreatELiftIns
import Derived.Test.YtcihigfifglboabGreatELiftLib
import Derived.Shelf.SlSortCmp.NoneTotal
set_option linter.unusedVariables false
namespace Go.Lift
open Go Go.Proofs
theorem aCY: ∀xs,cmpL xs xs=0
 | []=>rfl
 |x::xs=>by unfold cmpL;rw [if_neg (by omega),if_neg (by omega)];exact aCY xs
theorem aA9: ∀xs ys,cmpL xs ys<0↔0<cmpL ys xs
 | [],[]=>by simp [cmpL]
 | [],_::_=>by simp [cmpL]
 |_::_,[]=>by simp [cmpL]
 |x::xs,y::ys=>by
  unfold cmpL;by_cases h1:x<y
  ·rw [if_pos h1,if_neg (by omega),if_pos h1];omega
  by_cases h2:y<x
  ·rw [if_neg h1,if_pos h2,if_pos h2];omega
  rw [if_neg h1,if_neg h2,if_neg h2,if_neg h1];exact aA9 xs ys
theorem P1: ∀{xs ys},cmpL xs ys=0→xs=ys
 | [],[],_=>rfl
 | [],_::_,h=>by simp [cmpL] at h
 |_::_,[],h=>by simp [cmpL] at h
 |x::xs,y::ys,h=>by
  unfold cmpL at h;by_cases h1:x<y
  ·rw [if_pos h1] at h;omega
  by_cases h2:y<x
  ·rw [if_neg h1,if_pos h2] at h;omega
  rw [if_neg h1,if_neg h2] at h;rw [P1 h,show x=y by omega]
theorem zL: ∀xs ys zs,cmpL xs ys<0→cmpL ys zs<0→cmpL xs zs<0
 | [],[],_,h,_=>by simp [cmpL] at h
 | [],_::_,[],_,h=>by simp [cmpL] at h
 | [],_::_,_::_,_,_=>by simp [cmpL]
 |_::_,[],_,h,_=>by simp [cmpL] at h
 |_::_,_::_,[],_,h=>by simp [cmpL] at h
 |x::xs,y::ys,z::zs,h1,h2=>by
  unfold cmpL at h1 h2⊢;by_cases a:x<y
  ·by_cases b:y<z
   ·rw [if_pos (by omega)];omega
   by_cases c:z<y
   ·rw [if_neg b,if_pos c] at h2;omega
   rw [if_pos (by omega)];omega
  by_cases b:y<x
  ·rw [if_neg a,if_pos b] at h1;omega
  by_cases c:y<z
  ·rw [if_pos (by omega)];omega
  by_cases d:z<y
  ·rw [if_neg c,if_pos d] at h2;omega
  rw [if_neg (by omega),if_neg (by omega)];rw [if_neg a,if_neg b] at h1;rw [if_neg c,if_neg d] at h2;exact zL xs ys zs h1 h2
structure CmpRaw (P:Program) (g:FuncId):Prop where
 both: ∀(b1 o1 n c b2 o2 m d:Nat) (xs ys:List Int) (w:World),xs.length=n→ys.length=m→n≤9223372036854775807→m≤9223372036854775807→(∀j,j<xs.length→w.cell? ⟨b1,o1+j,none⟩=some (.int .i64 (xs.getD j 0)))→
  (∀j,j<ys.length→w.cell? ⟨b2,o2+j,none⟩=some (.int .i64 (ys.getD j 0)))→
  Calls P g #[.slice (some ⟨b1,o1,none⟩) n c,.slice (some ⟨b2,o2,none⟩) m d] w fun e w'=>e= .returned (.int .i64 (cmpL xs ys))∧w'=w
 none1: ∀(a1 a2:Option Addr) (c m d:Nat) (w:World),m≤9223372036854775807→Calls P g #[.slice a1 0 c,.slice a2 m d] w fun e w'=>e= .returned (.int .i64 (if 0<m then-1 else 0))∧w'=w
 none2: ∀(b1 o1 n c d:Nat) (a2:Option Addr) (x:Int) (w:World),0<n→n≤9223372036854775807→w.cell? ⟨b1,o1,none⟩=some (.int .i64 x)→Calls P g #[.slice (some ⟨b1,o1,none⟩) n c,.slice a2 0 d] w fun e w'=>e= .returned (.int .i64 1)∧w'=w
theorem G1{w:World}{X:Nat→Prop}{xs:List Int}{v:Value}(h:RT w X (.sl (xs.map jS)) v):
  (xs=[]∧ ∃a c,v= .slice a 0 c)∨ ∃(b o c:Nat),0<xs.length∧v= .slice (some ⟨b,o,none⟩) xs.length c∧ ∀j,j<xs.length→w.cell? ⟨b,o+j,none⟩=some (.int .i64 (xs.getD j 0)):=by
 generalize hr:xs.map jS=rows at h;cases h with
 |sl0 a cap=>exact .inl ⟨by simpa using hr,a,cap,rfl⟩
 |sl _ b off size cap f hb hX hcap hsz hc hrr=>
  subst hr;cases xs with
  |nil=>exact .inl ⟨rfl,_,_,rfl⟩
  |cons x xs=>
   have hs1:size=1:=by have:=hsz (jS x) (by simp);simpa using this.symm
   subst hs1;refine .inr ⟨b,off,cap,by simp,by simp,fun j hj=>?_⟩;have h1:=hc j 0 (by simpa using hj) (by omega);have e:(x::xs).getD j 0=(x::xs)[j]:=by rw [wW,cP hj];rfl
   have h2:=hrr j 0 (jS (x::xs)[j]) (.int .i64 (x::xs)[j]) (by rw [tG,cP hj];rfl) rfl;rw [show off+j*1+0=off+j by omega] at h1;rw [h1,e];generalize f j 0=u at h2;cases h2 with
   |int k n=>rfl
theorem aMo{P:Program}{g:FuncId}(h:CmpRaw P g){w:World}{X:Nat→Prop}{xs ys:List Int}{v1 v2:Value}(h1:RT w X (.sl (xs.map jS)) v1)(h2:RT w X (.sl (ys.map jS)) v2)(l1:xs.length≤1000000000)(l2:ys.length≤1000000000):
  Calls P g #[v1,v2] w fun e w'=>e= .returned (.int .i64 (cmpL xs ys))∧w'=w:=by
 rcases G1 h1 with ⟨rfl,a,c,rfl⟩|⟨b,o,c,p1,rfl,c1⟩<;>rcases G1 h2 with ⟨rfl,a',c',rfl⟩|⟨b',o',c',p2,rfl,c2⟩
 ·exact(h.none1 a a' c 0 c' w (by omega)).mono (by rintro e w' ⟨rfl,rfl⟩;exact⟨rfl,rfl⟩)
 ·refine(h.none1 a (some ⟨b',o',none⟩) c ys.length c' w (by omega)).mono ?_;rintro e w' ⟨rfl,rfl⟩;cases ys with
  |nil=>simp at p2
  |cons y ys=>exact⟨by rw [if_pos p2];rfl,rfl⟩
 ·refine(h.none2 b o xs.length c c' a' (xs.getD 0 0) w p1 (by omega) (c1 0 p1)).mono ?_;rintro e w' ⟨rfl,rfl⟩;cases xs with
  |nil=>simp at p1
  |cons x xs=>exact⟨rfl,rfl⟩
 exact h.both b o xs.length c b' o' ys.length c' xs ys w rfl rfl (by omega) (by omega) c1 c2
section sort
open Go.Shelf Go.RowKit Go.Lib Go.Sort
variable {P:Program} {ρ:Ren}
theorem swo_cmpL:SWO (ltOf cmpL) where
 irrefl x:=by unfold ltOf;rw [aCY];rfl
 trans x y z h1 h2:=by
  unfold ltOf at*;simp only [decide_eq_true_eq] at*;exact zL x y z h1 h2
 ntrans x y z h1 h2:=by
  unfold ltOf at*;simp only [decide_eq_false_iff_not] at*;intro h;by_cases a:cmpL y x<0
  ·exact h2 (zL y x z a h)
  have e:cmpL x y=0:=by
   have:=aA9 y x;omega
  have:=P1 e;subst this;exact h2 h
theorem aKE: ∀x y,ltOf cmpL x y=false→ltOf cmpL y x=false→x=y:=fun x y h1 h2=>by
 unfold ltOf at*;simp only [decide_eq_false_iff_not] at*
 have:=aA9 y x;exact P1 (by omega)
def El(w:World)(X:Nat→Prop):Type:={q:Value×List Int // RT w X (.sl (q.2.map jS)) q.1∧q.2.length≤1000000000}
instance (w:World) (X:Nat→Prop):Inhabited (El w X):=⟨⟨(.slice none 0 0,[]),.sl0 none 0,by simp⟩⟩
def El.enc{w:World}{X:Nat→Prop}(x:El w X):Value:=x.1.1
def El.ls{w:World}{X:Nat→Prop}(x:El w X):List Int:=x.1.2
def aC4{w:World}{X:Nat→Prop}(x y:El w X):Int:=cmpL x.ls y.ls
theorem El.one{w:World}{X:Nat→Prop}:OneCell (El.enc (w:=w) (X:=X)):=fun x=>x.2.1.oneCell
theorem aMD{w:World}{X:Nat→Prop}:SWO (ltOf (aC4 (w:=w) (X:=X))) where
 irrefl x:=swo_cmpL.irrefl x.ls
 trans x y z:=swo_cmpL.trans x.ls y.ls z.ls
 ntrans x y z:=swo_cmpL.ntrans x.ls y.ls z.ls
theorem F8{w:World}{b:Nat}{cur:Array Value}{ty:TypeId}(hg:w.heap[b]? =some (.cells cur ty (0,0)))(f:Array Value→Array Value):mapBlock w b f=w.setRow b (f cur):=by rw [mapBlock_congr w b f (fun _=>f cur) fun c e fr h=>by rw [hg] at h;cases h;rfl];rfl
theorem aGv{w:World}{X:Nat→Prop}{b m:Nat}{dk:Array (El w X)}{os:Array Obj}(hX:X b):Ext X w (sortWorld El.enc w b 0 m dk os):=by
 refine⟨rfl,rfl,rfl,?_,fun k hk hx=>?_⟩
 ·show w.heap.size≤((putRow El.enc (Sort.ahead w m) b 0 dk).heap++os).size;rw [Array.size_append,Go.Sort.size_putRow];exact Nat.le_add_right _ _
 show((putRow El.enc (Sort.ahead w m) b 0 dk).heap++os)[k]? =_;have hs:(putRow El.enc (Sort.ahead w m) b 0 dk).heap.size=w.heap.size:=by rw [Go.Sort.size_putRow];rfl
 rw [Array.getElem?_append_left (by omega)];show((Sort.ahead w m).heap.modify b _)[k]? =_;rw [Array.getElem?_modify,if_neg fun e:b=k=>hx (e▸hX)];rfl
theorem aCz{w:World}{X:Nat→Prop}{d d':Array (El w X)}(hp:PermIn 0 d.size d d')(hs:SortedIn (ltOf aC4) 0 d.size d'):(d'.map El.ls).toList=eJ (d.map El.ls).toList:=by
 refine sorted_unique_holds swo_cmpL aKE (d.map El.ls) (d'.map El.ls) ⟨by simpa using hp.1,fun i hi=>?_,?_⟩ fun i j h1 h2 h3=>?_
 ·have h0:d.size≤i:=by
   rcases hi with h|h
   ·omega
   simpa using h
  have h1:=hp.1;rw [getElem!_neg _ _ (by simp;omega),getElem!_neg _ _ (by simp;omega)]
 ·have h1:=hp.2.2;have e1:(d'.map El.ls).extract 0 (d.map El.ls).size=(d'.extract 0 d.size).map El.ls:=by simp
  have e2:(d.map El.ls).extract 0 (d.map El.ls).size=(d.extract 0 d.size).map El.ls:=by simp
  rw [e1,e2,vBM,vBM];exact h1.map _
 have hsz:=hp.1;have h3':j<d.size:=by simpa using h3
 have:=hs i j h1 h2 h3';rw [getElem!_pos d' j (by omega),getElem!_pos d' i (by omega)] at this;rw [getElem!_pos _ j (by simp;omega),getElem!_pos _ i (by simp;omega),Array.getElem_map,Array.getElem_map];exact this
theorem aNx(L:SlLaysF.n6 P ρ){g:FuncId}(raw:CmpRaw P g)(eg: ∀args w,(callFunc g args).run P w= .ok (.enter g args) w)(call:eB P (ρ.f 6)){G:Glob}{e:TypeId}{gs:Nat}(rows:List (List Int))(hn:rows.length≤1000000000)(hl: ∀l∈rows,l.length≤1000000000):
  VCC P G (ρ.f 6) [ar e gs 1 (rL rI) rows] [ms 0 gs 1 (rL rI) rows,.fn g []] (.tup []) [ar e gs 1 (rL rI) (eJ rows)]:=by
 refine⟨call,?_⟩;intro w X β0 us hG hX hin ha;have hl2:us.length=2:=ha.length;obtain⟨x0,x1,rfl⟩: ∃a b,us=[a,b]:=by
  match us,hl2 with
  | [a,b],_=>exact⟨a,b,rfl⟩
 have h0:=Rel.startV (P:=P) (nt:=2) hG hX hin ha (kH _);obtain⟨hx0,hx1,_⟩:=ha;obtain rfl:x1= .func (.func g) #[] #[]:=by
  cases hx1 with
  |fn _ _ us hs _=>
   have:us= #[]:=vBJ hs;rw [this]
 generalize hact:({tmps:=[x0,Value.func (.func g) #[] #[]].toArray++Array.replicate (2-[x0,Value.func (.func g) #[] #[]].toArray.size) undef,defers:=[]}:Act)=act at h0;generalize hK:Ctx.vc P G w X [ar e gs 1 (rL rI) rows].length β0 2=K at h0;have hKX:K.X=X:=by rw [←hK];rfl
 generalize hS:Lift.startV [ar e gs 1 (rL rI) rows] [ms 0 gs 1 (rL rI) rows,.fn g []]=S0 at h0;have hH0:S0.H 0=some (ar e gs 1 (rL rI) rows):=by rw [←hS];rfl
 have hSH:S0.H=listH [ar e gs 1 (rL rI) rows] 0:=by rw [←hS];rfl
 have hown:own K β0 S0.H=ownOf X β0 (listH [ar e gs 1 (rL rI) rows] 0):=by funext b;rw [hSH];show(K.X b∨_)=_;rw [hKX];rfl
 rw [←hown] at hx0;have hHf:upd S0.H 0 (some (ar e gs 1 (rL rI) (eJ rows)))=listH [ar e gs 1 (rL rI) (eJ rows)] 0:=by
  rw [hSH];funext j
  match j with
  |0=>rfl
  |j+1=>rfl
 have fin: ∀(w':World),Rel K β0 {S0 with H:=upd S0.H 0 (some (ar e gs 1 (rL rI) (eJ rows)))} act w'→
   ∃u,∃_i:Unit,∃β,Ending.returned (.tuple #[])= .returned u∧True∧Left β0 β [ar e gs 1 (rL rI) rows] [ar e gs 1 (rL rI) (eJ rows)] w w' X (.tup []) u:=by
  intro w' hr;subst hK;obtain⟨β,hβ⟩:=vV (out:=[ar e gs 1 (rL rI) (eJ rows)]) hr (kH _) (.tup [] #[] rfl fun i c u hc _=>by simp at hc) rfl (by
   intro id e0 he0;refine⟨⟨e0,?_,ELe.refl _⟩,?_⟩
   ·show upd S0.H 0 _ id=_;rw [hHf];exact he0
   match id with
   |0=>cases he0;exact⟨rfl,rfl⟩
   |k+1=>cases he0)
  exact⟨_,(),β,rfl,trivial,hβ⟩
 have hg1:=(h0.heap 0 _ hH0).2.1;have V0:=aOp (h0.heap 0 _ hH0).2 hx0;have hHne:S0.H 0≠none:=by rw [hH0];simp
 rcases V0 with ⟨rfl,h1,hq⟩|⟨b,cap,cur,rfl,hq,hgb,hcs,hlc,hmc,hr⟩
 ·have hr0:rows=[]:=by simpa using h1
  subst hr0;refine(AnyF.slices_SortFunc_none (P:=P) (ρ:=ρ) {L with} none 0 _ w).mono ?_;rintro e1 w1 ⟨rfl,rfl⟩;refine fin _ ?_
  have:=h0.sameH 0 _ hH0;rw [show eJ []=[] by simp [eJ]];exact this
 have hXb:own K β0 S0.H b:= .inr ⟨0,hHne,.inl ⟨_,hq⟩⟩;have hlen:rows.length≤cur.size:=by
  rw [hcs];simpa using hlc
 have hrt: ∀(j:Nat) (hj:j<rows.length),RT w (own K β0 S0.H) (.sl (rows[j].map jS)) (cur[j]'(by omega)):=fun j hj=>
  hr j 0 (rL rI rows[j]) (.sl (rows[j].map jS)) _ (by rw [tG,cP hj];rfl) rfl (by
   rw [V5,if_pos (by simp;omega)];rw [show j*1+0=j by omega,vAX,vAv (by omega)])
 obtain⟨F,hF1,hF2⟩: ∃F:Fin rows.length→El w (own K β0 S0.H),(∀j,(F j).enc=cur[j.1]'(by have:=j.2;omega))∧ ∀j,(F j).ls=rows[j.1]:=
  ⟨fun j=>⟨(cur[j.1]'(by have:=j.2;omega),rows[j.1]),hrt j.1 j.2,hl _ (T0 j.2)⟩,fun _=>rfl,fun _=>rfl⟩
 obtain⟨d,hd⟩: ∃d:Array (El w (own K β0 S0.H)),d=Array.ofFn F:=⟨_,rfl⟩
 have hds:d.size=rows.length:=by rw [hd];exact Array.size_ofFn
 have hdg: ∀(j:Nat) (hj:j<d.size),d[j].enc=cur[j]'(by omega)∧d[j].ls=rows[j]'(by omega):=fun j hj=>by
  subst hd;rw [Array.getElem_ofFn];exact⟨hF1 _,hF2 _⟩
 have hdl:(d.map El.ls).toList=rows:=by
  refine List.ext_getElem (by simp [hds]) fun j h1 h2=>?_;rw [Array.getElem_toList,Array.getElem_map];exact(hdg j (by omega)).2
 have hH:Holds El.enc w b 0 d:=fun j hj=>by
  rw [nA,getElem!_pos d j hj,(hdg j hj).1];refine⟨?_,by simp [World.frozen?,hgb]⟩
  have:j<cur.size:=by omega
  simp [World.cell?,hgb,this]
 have hcmp:CmpLays1 P g #[] El.enc aC4 b 0 d.size w:=CmpReads.lays (fun m os dk hs x y=>by
  have hE:=aGv (w:=w) (X:=own K β0 S0.H) (b:=b) (m:=m) (dk:=dk) (os:=os) hXb;exact(aMo raw (x.2.1.mono hE fun _ _ h=>h) (y.2.1.mono hE fun _ _ h=>h) x.2.2 y.2.2).mono (by
   rintro e1 w1 ⟨rfl,rfl⟩;exact⟨rfl,0,rfl⟩))
 have run:=Any.slices_SortFunc L El.enc El.one aC4 aMD g #[] b 0 cap d w eg hcmp hH (vAy.1 hgb).1 (by omega);rw [hds] at run;rw [o7];refine run.mono ?_;rintro e1 w1 ⟨rfl,d',n,os,hp,hs,hw1⟩;rw [←hds] at hp hs;refine fin _ ?_;have hls:=aCz hp hs;rw [hdl] at hls;have hds':d'.size=rows.length:=by rw [hp.1,hds]
 have hga:(Sort.ahead w n).heap[b]? =some (.cells cur e (0,0)):=hgb;have hrow:sortWorld El.enc w b 0 n d' os=grow ((Sort.ahead w n).setRow b (putCells El.enc 0 d' cur)) os:=by
  show grow (putRow El.enc (Sort.ahead w n) b 0 d') os=_;congr 1;exact F8 hga _
 have hCs:(putCells El.enc 0 d' cur).size=cur.size:=by simp [putCells]
 have hA:Rel K β0 S0 act (Sort.ahead w n):=h0.grow ⟨rfl,rfl,rfl,kH _,fun _ _ _=>rfl⟩;have hB:=hA.setRow 0 b (.inl ⟨_,hq⟩) cur e hga (putCells El.enc 0 d' cur) hCs (ar e gs 1 (rL rI) (eJ rows)) hHne
  ⟨hg1,Or.inr ⟨b,_,hq,setRow_heap _ _ _ _ _ _ hga,by
   rw [hCs,o7,←hls,vAS,Array.size_map];omega,fun row hrow=>by
    obtain⟨l,_,rfl⟩:=V3.1 hrow;rfl,fun i j row x u a1 a2 a3=>by
   rw [tG] at a1;cases hi:(eJ rows)[i]? with
   |none=>rw [hi] at a1;cases a1
   |some l=>
    rw [hi] at a1;simp only [Option.map_some,Option.some.injEq] at a1;subst a1
    match j,a2 with
    |0,a2=>
     simp only [List.getElem?_cons_zero,Option.some.injEq] at a2;subst a2;rw [←hls,vAX,Array.getElem?_map] at hi;cases hdi:d'[i]? with
     |none=>rw [hdi] at hi;cases hi
     |some y=>
      rw [hdi] at hi;simp only [Option.map_some,Option.some.injEq] at hi;subst hi;have hil:=(vAy.1 hdi).1;have hig:=(vAy.1 hdi).2;have hu:u=y.enc:=by
       rw [show i*1+0=i by omega] at a3;unfold putCells at a3;rw [Array.getElem?_mapIdx,vAv (by omega)] at a3;simp only [Option.map_some,Option.some.injEq] at a3;rw [if_pos (by omega)] at a3;rw [←a3,Nat.sub_zero,getElem!_pos d' i hil,hig]
      subst hu;refine(y.2.1.mono (w':=Sort.ahead w n) ⟨rfl,rfl,rfl,kH _,fun _ _ _=>rfl⟩ fun _ _ h=>h).mono ⟨rfl,rfl,rfl,by simp,fun kk _ hx=>setRow_other _ _ _ _ fun e0=>hx ?_⟩ fun _ _ h=>h;subst e0;exact hXb⟩⟩
 rw [hw1,hrow];refine hB.grow ⟨rfl,rfl,rfl,?_,fun k hk _=>?_⟩
 ·show _≤(_++os).size;rw [Array.size_append];exact Nat.le_add_right _ _
 show(_++os)[k]? =_;rw [Array.getElem?_append_left hk]
theorem aGw(L:SlLaysF.n6 P ρ){g:FuncId}(raw:CmpRaw P g)(eg: ∀args w,(callFunc g args).run P w= .ok (.enter g args) w)(call:eB P (ρ.f 6)){G:Glob}{e:TypeId}{x:List (List Int)}{gs:Nat}{r:List (List Int)}(h:m_sortL x=some r):
  VCC P G (ρ.f 6) [ar e gs 1 (rL rI) x] [ms 0 gs 1 (rL rI) x,.fn g []] (.tup []) [ar e gs 1 (rL rI) r]:=by
 unfold m_sortL at h;split at h
 ·rename_i hn;cases h;exact aNx L raw eg call x hn.1 hn.2
 cases h
end sort
end Go.Lift

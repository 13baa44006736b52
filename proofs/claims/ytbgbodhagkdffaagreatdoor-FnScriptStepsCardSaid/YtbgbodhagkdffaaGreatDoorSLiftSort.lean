/- Tools. -/
import Derived.Test.YtbgbodhagkdffaaGreatDoorSLiftIns
import Derived.Test.YtbgbodhagkdffaaGreatDoorSLiftSq
import Derived.Shelf.SlSortCmp.NoneTotal
set_option linter.unusedVariables false
namespace Go.Lift
open Go Go.Proofs
open Go renaming World -> bY, Value -> bm
open List renaming length -> U
theorem Sq: ∀a,cmpL a a=0
 | []=>rfl
 |x::a=>by unfold cmpL;rw[bh O,bh O];exact Sq a
theorem KS: ∀c d,cmpL c d<0↔0<cmpL d c
 | [],[]=>by simp[cmpL]
 | [],_::_=>by simp[cmpL]
 |_::_,[]=>by simp[cmpL]
 |x::c,y::d=>by
  unfold cmpL;by_cases a:x<y
  ·rw[bk a,bh O,bk a];omega
  by_cases e:y<x
  ·rw[bh a,bk e,bk e];omega
  rw[bh a,bh e,bh e,bh a];exact KS c d
theorem Ka: ∀{a c},cmpL a c=0->a=c
 | [],[],_=>rfl
 | [],_::_,h=>by simp[cmpL] at h
 |_::_,[],h=>by simp[cmpL] at h
 |x::a,y::c,h=>by
  unfold cmpL at h;by_cases d:x<y
  ·rw[bk d] at h;omega
  by_cases e:y<x
  ·rw[bh d,bk e] at h;omega
  rw[bh d,bh e] at h;rw[Ka h,show x=y by omega]
theorem JV: ∀i k l,cmpL i k<0->cmpL k l<0->cmpL i l<0
 | [],[],_,h,_=>by simp[cmpL] at h
 | [],_::_,[],_,h=>by simp[cmpL] at h
 | [],_::_,_::_,_,_=>by simp[cmpL]
 |_::_,[],_,h,_=>by simp[cmpL] at h
 |_::_,_::_,[],_,h=>by simp[cmpL] at h
 |x::i,y::k,z::l,m,e=>by
  unfold cmpL at m e⊢;by_cases a:x<y
  ·by_cases b:y<z
   ·rw[bk O];omega
   by_cases c:z<y
   ·rw[bh b,bk c] at e;omega
   rw[bk O];omega
  by_cases b:y<x
  ·rw[bh a,bk b] at m;omega
  by_cases c:y<z
  ·rw[bk O];omega
  by_cases d:z<y
  ·rw[bh c,bk d] at e;omega
  rw[bh O,bh O];rw[bh a,bh b] at m;rw[bh c,bh d] at e;exact JV i k l m e
structure DC (P:Program) (g:FuncId):Prop where
 both: ∀(dQ jP n c dG lF m d:Nat) (xs ys:List Int) (w:bY),U xs=n->U ys=m->n<=9223372036854775807->m<=9223372036854775807->(∀j,j<U xs->w.cell? ⟨dQ,jP+j,none⟩=some (.int .i64 (xs.getD j 0)))->
  (∀j,j<U ys->w.cell? ⟨dG,lF+j,none⟩=some (.int .i64 (ys.getD j 0)))->
  Calls P g #[.slice (some ⟨dQ,jP,none⟩) n c,.slice (some ⟨dG,lF,none⟩) m d] w λe bZ=>e= .returned (.int .i64 (cmpL xs ys))/\bZ=w
 rX: ∀(aW a2:Option Addr) (c m d:Nat) (w:bY),m<=9223372036854775807->Calls P g #[.slice aW 0 c,.slice a2 m d] w λe bZ=>e= .returned (.int .i64 (if 0<m then-1 else 0))/\bZ=w
 W8: ∀(dQ jP n c d:Nat) (a2:Option Addr) (x:Int) (w:bY),0<n->n<=9223372036854775807->w.cell? ⟨dQ,jP,none⟩=some (.int .i64 x)->Calls P g #[.slice (some ⟨dQ,jP,none⟩) n c,.slice a2 0 d] w λe bZ=>e= .returned (.int .i64 1)/\bZ=w
variable {w:bY}{X:Nat->Prop}{d:List Int}{v:bm}{b:Nat}
theorem AN(h:ei w X (.bX (d.map nF)) v):
  (d=[]/\ ∃a c,v= .slice a 0 c)\/ ∃(b o c:Nat),0<U d/\v= .slice (some ⟨b,o,none⟩) (U d) c/\ ∀j,j<U d->w.cell? ⟨b,o+j,none⟩=some (.int .i64 (d.getD j 0)):=by
 generalize A:d.map nF=B at h;cases h with
 |iq a i=>exact .inl ⟨by simpa using A,a,i,rfl⟩
 |bX _ b l m i f K L C q H r=>
  subst A;cases d with
  |nil=>exact .inl ⟨rfl,_,_,rfl⟩
  |cons x d=>
   have y:m=1:=by have:=q (nF x) aZ;simpa using this.symm
   subst y;refine .inr ⟨b,l,i,aZ,aZ,λj z=>?_⟩;have F:=H j 0 (by simpa using z) O;have e:(x::d).getD j 0=(x::d)[j]:=by rw[fZ,bO z];rfl
   have G:=r j 0 (nF (x::d)[j]) (.int .i64 (x::d)[j]) (by rw[fG,bO z];rfl) rfl;rw[show l+j*1+0=l+j by omega] at F;rw[F,e];generalize f j 0=u at G;cases G with
   |int k n=>rfl
theorem aiI{P:Program}{g:FuncId}(h:DC P g){l:List Int}{u:bm}(B:ei w X (.bX (d.map nF)) v)(C:ei w X (.bX (l.map nF)) u)(G:U d<=1000000000)(H:U l<=1000000000):
  Calls P g #[v,u] w λe k=>e= .returned (.int .i64 (cmpL d l))/\k=w:=by
 rcases AN B with ⟨rfl,a,c,rfl⟩|⟨b,o,c,m,rfl,n⟩<;>rcases AN C with ⟨rfl,q,i,rfl⟩|⟨r,z,i,A,rfl,F⟩
 ·exact(h.rX a q c 0 i w O).mono (by rintro e k ⟨rfl,rfl⟩;exact⟨rfl,rfl⟩)
 ·refine(h.rX a (some ⟨r,z,none⟩) c (U l) i w O).mono ?_;rintro e k ⟨rfl,rfl⟩;cases l with
  |nil=>simp at A
  |cons y l=>exact⟨by rw[bk A];rfl,rfl⟩
 ·refine(h.W8 b o (U d) c i q (d.getD 0 0) w m O (n 0 m)).mono ?_;rintro e k ⟨rfl,rfl⟩;cases d with
  |nil=>simp at m
  |cons x d=>exact⟨rfl,rfl⟩
 exact h.both b o (U d) c r z (U l) i d l w rfl rfl O O n F
section sort
open Go.Shelf Go.RowKit Go.Lib Go.Sort
variable {P:Program}{ρ:Ren}
theorem H3:SWO (ltOf cmpL) where
 irrefl x:=by unfold ltOf;rw[Sq];rfl
 trans x y z d c:=by
  unfold ltOf at*;simp only[decide_eq_true_eq] at*;exact JV x y z d c
 ntrans x y z d c:=by
  unfold ltOf at*;simp only[decide_eq_false_iff_not] at*;intro h;by_cases a:cmpL y x<0
  ·exact c (JV y x z a h)
  have e:cmpL x y=0:=by
   have:=KS y x;omega
  have:=Ka e;subst this;exact c h
theorem af7: ∀x y,ltOf cmpL x y=false->ltOf cmpL y x=false->x=y:=λx y a c=>by
 unfold ltOf at*;simp only[decide_eq_false_iff_not] at*
 have:=KS y x;exact Ka O
def fY(w:bY)(X:Nat->Prop):Type:={q:bm×List Int // ei w X (.bX (q.2.map nF)) q.1/\(U q.2)<=1000000000}
instance (w:bY) (X:Nat->Prop):Inhabited (fY w X):=⟨⟨(.slice none 0 0,[]),.iq none 0,aZ⟩⟩
def fY.enc{w:bY}{X:Nat->Prop}(x:fY w X):bm:=x.1.1
def fY.cD{w:bY}{X:Nat->Prop}(x:fY w X):List Int:=x.1.2
def Gg{w:bY}{X:Nat->Prop}(x y:fY w X):Int:=cmpL x.cD y.cD
theorem fY.one:OneCell (fY.enc (w:=w) (X:=X)):=λx=>x.2.1.lf
theorem Ys:SWO (ltOf (Gg (w:=w) (X:=X))) where
 irrefl x:=H3.irrefl x.cD
 trans x y z:=H3.trans x.cD y.cD z.cD
 ntrans x y z:=H3.ntrans x.cD y.cD z.cD
theorem abc{a:Array bm}{T:TypeId}(d:w.heap[b]? =some (.cells a T (0,0)))(f:Array bm->Array bm):mapBlock w b f=w.setRow b (f a):=by rw[mapBlock_congr w b f (λ_=>f a) λc e MR h=>by rw[d] at h;cases h;rfl];rfl
theorem U2{m:Nat}{dk:Array (fY w X)}{os:Array Obj}(a:X b):Ext X w (sortWorld fY.enc w b 0 m dk os):=by
 refine⟨rfl,rfl,rfl,?_,λk d c=>?_⟩
 ·show w.heap.size<=((putRow fY.enc (Sort.ahead w m) b 0 dk).heap++os).size;rw[Array.size_append,Go.Sort.size_putRow];exact Nat.le_add_right _ _
 show((putRow fY.enc (Sort.ahead w m) b 0 dk).heap++os)[k]? =_;have h:(putRow fY.enc (Sort.ahead w m) b 0 dk).heap.size=w.heap.size:=by rw[Go.Sort.size_putRow];rfl
 rw[Array.getElem?_append_left O];show((Sort.ahead w m).heap.modify b _)[k]? =_;rw[Array.getElem?_modify,bh λe:b=k=>c (e▸a)];rfl
theorem aey{d a:Array (fY w X)}(c:PermIn 0 d.size d a)(l:SortedIn (ltOf Gg) 0 d.size a):(a.map fY.cD).toList=j7 (d.map fY.cD).toList:=by
 refine sorted_unique_holds H3 af7 (d.map fY.cD) (a.map fY.cD) ⟨by simpa using c.1,λi m=>?_,?_⟩ λi j e n o=>?_
 ·have x:d.size<=i:=by
   rcases m with h|h
   ·omega
   simpa using h
  have e:=c.1;rw[getElem!_neg _ _ bV,getElem!_neg _ _ bV]
 ·have e:=c.2.2;have q:(a.map fY.cD).extract 0 (d.map fY.cD).size=(a.extract 0 d.size).map fY.cD:=aZ
  have r:(d.map fY.cD).extract 0 (d.map fY.cD).size=(d.extract 0 d.size).map fY.cD:=aZ
  rw[q,r,zC,zC];exact e.map _
 have jc:=c.1;have k:j<d.size:=by simpa using o
 have:=l i j e n k;rw[getElem!_pos a j O,getElem!_pos a i O] at this;rw[getElem!_pos _ j bV,getElem!_pos _ i bV,Array.getElem_map,Array.getElem_map];exact this
end sort
end Go.Lift

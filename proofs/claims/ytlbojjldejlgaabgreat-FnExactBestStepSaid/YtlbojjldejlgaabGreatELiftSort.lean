/- Tools. -/
import Derived.Test.YtlbojjldejlgaabGreatELiftIns
import Derived.Test.YtlbojjldejlgaabGreatELiftSq
import Derived.Shelf.SlSortCmp.NoneTotal
set_option linter.unusedVariables false
namespace Go.Lift
open Go Go.Proofs
theorem MD: ∀a,cmpL a a=0
 | []=>rfl
 |x::a=>by unfold cmpL;rw[aT O,aT O];exact MD a
theorem FV: ∀b c,cmpL b c<0↔0<cmpL c b
 | [],[]=>by simp[cmpL]
 | [],_::_=>by simp[cmpL]
 |_::_,[]=>by simp[cmpL]
 |x::b,y::c=>by
  unfold cmpL;by_cases a:x<y
  ·rw[aW a,aT O,aW a];omega
  by_cases d:y<x
  ·rw[aT a,aW d,aW d];omega
  rw[aT a,aT d,aT d,aT a];exact FV b c
theorem Fu: ∀{a b},cmpL a b=0->a=b
 | [],[],_=>rfl
 | [],_::_,h=>by simp[cmpL] at h
 |_::_,[],h=>by simp[cmpL] at h
 |x::a,y::b,h=>by
  unfold cmpL at h;by_cases c:x<y
  ·rw[aW c] at h;omega
  by_cases d:y<x
  ·rw[aT c,aW d] at h;omega
  rw[aT c,aT d] at h;rw[Fu h,show x=y by omega]
theorem EF: ∀i k l,cmpL i k<0->cmpL k l<0->cmpL i l<0
 | [],[],_,h,_=>by simp[cmpL] at h
 | [],_::_,[],_,h=>by simp[cmpL] at h
 | [],_::_,_::_,_,_=>by simp[cmpL]
 |_::_,[],_,h,_=>by simp[cmpL] at h
 |_::_,_::_,[],_,h=>by simp[cmpL] at h
 |x::i,y::k,z::l,m,e=>by
  unfold cmpL at m e⊢;by_cases a:x<y
  ·by_cases b:y<z
   ·rw[aW O];omega
   by_cases c:z<y
   ·rw[aT b,aW c] at e;omega
   rw[aW O];omega
  by_cases b:y<x
  ·rw[aT a,aW b] at m;omega
  by_cases c:y<z
  ·rw[aW O];omega
  by_cases d:z<y
  ·rw[aT c,aW d] at e;omega
  rw[aT O,aT O];rw[aT a,aT b] at m;rw[aT c,aT d] at e;exact EF i k l m e
structure sZ (P:Program) (g:FuncId):Prop where
 both: ∀(cS gU n c cd gG m d:Nat) (xs ys:List Int) (w:World),xs.length=n->ys.length=m->n<=9223372036854775807->m<=9223372036854775807->(∀j,j<xs.length->w.cell? ⟨cS,gU+j,none⟩=some (.int .i64 (xs.getD j 0)))->
  (∀j,j<ys.length->w.cell? ⟨cd,gG+j,none⟩=some (.int .i64 (ys.getD j 0)))->
  Calls P g #[.slice (some ⟨cS,gU,none⟩) n c,.slice (some ⟨cd,gG,none⟩) m d] w λe w'=>e= .returned (.int .i64 (cmpL xs ys))/\w'=w
 o1: ∀(aH a2:Option Addr) (c m d:Nat) (w:World),m<=9223372036854775807->Calls P g #[.slice aH 0 c,.slice a2 m d] w λe w'=>e= .returned (.int .i64 (if 0<m then-1 else 0))/\w'=w
 QV: ∀(cS gU n c d:Nat) (a2:Option Addr) (x:Int) (w:World),0<n->n<=9223372036854775807->w.cell? ⟨cS,gU,none⟩=some (.int .i64 x)->Calls P g #[.slice (some ⟨cS,gU,none⟩) n c,.slice a2 0 d] w λe w'=>e= .returned (.int .i64 1)/\w'=w
variable {w:World}{X:Nat->Prop}{d:List Int}{v:Value}{g:FuncId}{b:Nat}{G:eS}{e:TypeId}
theorem wz(h:cL w X (.ay (d.map hP)) v):
  (d=[]/\ ∃a c,v= .slice a 0 c)\/ ∃(b o c:Nat),0<d.length/\v= .slice (some ⟨b,o,none⟩) d.length c/\ ∀j,j<d.length->w.cell? ⟨b,o+j,none⟩=some (.int .i64 (d.getD j 0)):=by
 generalize y:d.map hP=z at h;cases h with
 |fB a i=>exact .inl ⟨by simpa using y,a,i,rfl⟩
 |ay _ b l m i f F G A p D q=>
  subst y;cases d with
  |nil=>exact .inl ⟨rfl,_,_,rfl⟩
  |cons x d=>
   have r:m=1:=by have:=p (hP x) a1;simpa using this.symm
   subst r;refine .inr ⟨b,l,i,a1,a1,λj s=>?_⟩;have B:=D j 0 (by simpa using s) O;have e:(x::d).getD j 0=(x::d)[j]:=by rw[ek,bg s];rfl
   have C:=q j 0 (hP (x::d)[j]) (.int .i64 (x::d)[j]) (by rw[er,bg s];rfl) rfl;rw[show l+j*1+0=l+j by omega] at B;rw[B,e];generalize f j 0=u at C;cases C with
   |int k n=>rfl
theorem OT{P:Program}(h:sZ P g){l:List Int}{u:Value}(z:cL w X (.ay (d.map hP)) v)(A:cL w X (.ay (l.map hP)) u)(C:d.length<=1000000000)(D:l.length<=1000000000):
  Calls P g #[v,u] w λe k=>e= .returned (.int .i64 (cmpL d l))/\k=w:=by
 rcases wz z with ⟨rfl,a,c,rfl⟩|⟨b,o,c,m,rfl,n⟩<;>rcases wz A with ⟨rfl,p,i,rfl⟩|⟨q,r,i,s,rfl,B⟩
 ·exact(h.o1 a p c 0 i w O).mono (by rintro e k ⟨rfl,rfl⟩;exact⟨rfl,rfl⟩)
 ·refine(h.o1 a (some ⟨q,r,none⟩) c l.length i w O).mono ?_;rintro e k ⟨rfl,rfl⟩;cases l with
  |nil=>simp at s
  |cons y l=>exact⟨by rw[aW s];rfl,rfl⟩
 ·refine(h.QV b o d.length c i p (d.getD 0 0) w m O (n 0 m)).mono ?_;rintro e k ⟨rfl,rfl⟩;cases d with
  |nil=>simp at m
  |cons x d=>exact⟨rfl,rfl⟩
 exact h.both b o d.length c q r l.length i d l w rfl rfl O O n B
section sort
open Go.Shelf Go.RowKit Go.Lib Go.Sort
variable {P:Program}{ρ:Ren}
theorem CX:SWO (ltOf cmpL) where
 irrefl x:=by unfold ltOf;rw[MD];rfl
 trans x y z c b:=by
  unfold ltOf at*;simp only[decide_eq_true_eq] at*;exact EF x y z c b
 ntrans x y z c b:=by
  unfold ltOf at*;simp only[decide_eq_false_iff_not] at*;intro h;by_cases a:cmpL y x<0
  ·exact b (EF y x z a h)
  have e:cmpL x y=0:=by
   have:=FV y x;omega
  have:=Fu e;subst this;exact b h
theorem aab: ∀x y,ltOf cmpL x y=false->ltOf cmpL y x=false->x=y:=λx y a b=>by
 unfold ltOf at*;simp only[decide_eq_false_iff_not] at*
 have:=FV y x;exact Fu O
def dF(w:World)(X:Nat->Prop):Type:={q:Value×List Int // cL w X (.ay (q.2.map hP)) q.1/\q.2.length<=1000000000}
instance (w:World) (X:Nat->Prop):Inhabited (dF w X):=⟨⟨(.slice none 0 0,[]),.fB none 0,a1⟩⟩
def dF.enc{w:World}{X:Nat->Prop}(x:dF w X):Value:=x.1.1
def dF.b2{w:World}{X:Nat->Prop}(x:dF w X):List Int:=x.1.2
def tI{w:World}{X:Nat->Prop}(x y:dF w X):Int:=cmpL x.b2 y.b2
theorem dF.one:OneCell (dF.enc (w:=w) (X:=X)):=λx=>x.2.1.im
theorem O8:SWO (ltOf (tI (w:=w) (X:=X))) where
 irrefl x:=CX.irrefl x.b2
 trans x y z:=CX.trans x.b2 y.b2 z.b2
 ntrans x y z:=CX.ntrans x.b2 y.b2 z.b2
theorem Kr{a:Array Value}{t:TypeId}(d:w.heap[b]? =some (.cells a t (0,0)))(f:Array Value->Array Value):mapBlock w b f=w.setRow b (f a):=by rw[mapBlock_congr w b f (λ_=>f a) λc e HX h=>by rw[d] at h;cases h;rfl];rfl
theorem GB{m:Nat}{dk:Array (dF w X)}{os:Array Obj}(a:X b):Ext X w (sortWorld dF.enc w b 0 m dk os):=by
 refine⟨rfl,rfl,rfl,?_,λk d c=>?_⟩
 ·show w.heap.size<=((putRow dF.enc (Sort.ahead w m) b 0 dk).heap++os).size;rw[Array.size_append,Go.Sort.size_putRow];exact Nat.le_add_right _ _
 show((putRow dF.enc (Sort.ahead w m) b 0 dk).heap++os)[k]? =_;have h:(putRow dF.enc (Sort.ahead w m) b 0 dk).heap.size=w.heap.size:=by rw[Go.Sort.size_putRow];rfl
 rw[Array.getElem?_append_left O];show((Sort.ahead w m).heap.modify b _)[k]? =_;rw[Array.getElem?_modify,aT λe:b=k=>c (e▸a)];rfl
theorem L1{d a:Array (dF w X)}(b:PermIn 0 d.size d a)(k:SortedIn (ltOf tI) 0 d.size a):(a.map dF.b2).toList=e4 (d.map dF.b2).toList:=by
 refine sorted_unique_holds CX aab (d.map dF.b2) (a.map dF.b2) ⟨by simpa using b.1,λi l=>?_,?_⟩ λi j c m n=>?_
 ·have q:d.size<=i:=by
   rcases l with h|h
   ·omega
   simpa using h
  have c:=b.1;rw[getElem!_neg _ _ bX,getElem!_neg _ _ bX]
 ·have c:=b.2.2;have o:(a.map dF.b2).extract 0 (d.map dF.b2).size=(a.extract 0 d.size).map dF.b2:=a1
  have p:(d.map dF.b2).extract 0 (d.map dF.b2).size=(d.extract 0 d.size).map dF.b2:=a1
  rw[o,p,vr,vr];exact c.map _
 have kH:=b.1;have e:j<d.size:=by simpa using n
 have:=k i j c m e;rw[getElem!_pos a j O,getElem!_pos a i O] at this;rw[getElem!_pos _ j bX,getElem!_pos _ i bX,Array.getElem_map,Array.getElem_map];exact this
theorem ab'(L:SlLaysF.n6 P ρ)(raw:sZ P g)(HM: ∀args w,(callFunc g args).run P w= .ok (.enter g args) w)(M:d7 P (ρ.f 6)){q:Nat}(rows:List (List Int))(cu:rows.length<=1000000000)(b9: ∀l∈rows,l.length<=1000000000):
  iA P G (ρ.f 6) [aE e q 1 (aS ab) rows] [ms 0 q 1 (aS ab) rows,.fn g []] (.bJ []) [aE e q 1 (aS ab) (e4 rows)]:=by
 refine⟨M,?_⟩;intro w X p N jD gb kb fP;have rW:N.length=2:=fP.length;obtain⟨hz,gK,rfl⟩: ∃a b,N=[a,b]:=by
  match N,rW with
  | [a,b],_=>exact⟨a,b,rfl⟩
 have W:=Rel.lA (P:=P) (nt:=2) jD gb kb fP (cD _);obtain⟨S,r7,_⟩:=fP;obtain rfl:gK= .func (.func g) #[] #[]:=by
  cases r7 with
  |fn _ _ N T _=>
   have:N= #[]:=Jy T;rw[this]
 generalize Ia:({tmps:=[hz,Value.func (.func g) #[] #[]].toArray++Array.replicate (2-[hz,Value.func (.func g) #[] #[]].toArray.size) undef,defers:=[]}:Act)=U at W;generalize j8:Ctx.dy P G w X [aE e q 1 (aS ab) rows].length p 2=K at W;have rT:K.X=X:=by rw[<-j8];rfl
 generalize kD:Lift.lA [aE e q 1 (aS ab) rows] [ms 0 q 1 (aS ab) rows,.fn g []]=r at W;have z:r.H 0=some (aE e q 1 (aS ab) rows):=by rw[<-kD];rfl
 have V:r.H=eJ [aE e q 1 (aS ab) rows] 0:=by rw[<-kD];rfl
 have Y:own K p r.H=lu X p (eJ [aE e q 1 (aS ab) rows] 0):=by funext b;rw[V];show(K.X b\/_)=_;rw[rT];rfl
 rw[<-Y] at S;have rS:aQ r.H 0 (some (aE e q 1 (aS ab) (e4 rows)))=eJ [aE e q 1 (aS ab) (e4 rows)] 0:=by
  rw[V];funext j
  match j with
  |0=>rfl
  |j+1=>rfl
 have fin: ∀(w':World),Rel K p {r with H:=aQ r.H 0 (some (aE e q 1 (aS ab) (e4 rows)))} U w'->
   ∃u,∃_i:Unit,∃β,Ending.returned (.tuple #[])= .returned u/\True/\Left p β [aE e q 1 (aS ab) rows] [aE e q 1 (aS ab) (e4 rows)] w w' X (.bJ []) u:=by
  intro w' bO;subst j8;obtain⟨β,r9⟩:=De (out:=[aE e q 1 (aS ab) (e4 rows)]) bO (cD _) (.bJ [] #[] rfl λi c u bB _=>by simp at bB) rfl (by
   intro id e0 t;refine⟨⟨e0,?_,iU.refl _⟩,?_⟩
   ·show aQ r.H 0 _ id=_;rw[rS];exact t
   match id with
   |0=>cases t;exact⟨rfl,rfl⟩
   |k+1=>cases t)
  exact⟨_,(),β,rfl,trivial,r9⟩
 have ig:=(W.heap 0 _ z).2.1;have oA:=Gd (W.heap 0 _ z).2 S;have D:r.H 0≠none:=by rw[z];simp
 rcases oA with ⟨rfl,h1,hq⟩|⟨b,cap,o,rfl,hq,A,kE,oP,BJ,bO⟩
 ·have oR:rows=[]:=by simpa using h1
  subst oR;refine(AnyF.slices_SortFunc_none (P:=P) (ρ:=ρ) {L with} none 0 _ w).mono ?_;rintro e1 fg ⟨rfl,rfl⟩;refine fin _ ?_
  have:=W.ym 0 _ z;rw[show e4 []=[] by simp[e4]];exact this
 have ur:own K p r.H b:= .inr ⟨0,D,.inl ⟨_,hq⟩⟩;have hlen:rows.length<=o.size:=by
  rw[kE];simpa using oP
 have ll: ∀(j:Nat) (v:j<rows.length),cL w (own K p r.H) (.ay (rows[j].map hP)) (o[j]' O):=λj v=>
  bO j 0 (aS ab rows[j]) (.ay (rows[j].map hP)) _ (by rw[er,bg v];rfl) rfl (by
   rw[fL,aW bX];rw[show j*1+0=j by omega,pg,gY O])
 obtain⟨F,rQ,rR⟩: ∃F:Fin rows.length->dF w (own K p r.H),(∀j,(F j).enc=o[j.1]'(by have:=j.2;omega))/\ ∀j,(F j).b2=rows[j.1]:=
  ⟨λj=>⟨(o[j.1]'(by have:=j.2;omega),rows[j.1]),ll j.1 j.2,b9 _ (ft j.2)⟩,λ_=>rfl,λ_=>rfl⟩
 obtain⟨d,cn⟩: ∃d:Array (dF w (own K p r.H)),d=Array.ofFn F:=⟨_,rfl⟩
 have B:d.size=rows.length:=by rw[cn];exact Array.size_ofFn
 have Qg: ∀(j:Nat) (v:j<d.size),d[j].enc=o[j]' O/\d[j].b2=rows[j]' O:=λj v=>by
  subst cn;rw[Array.getElem_ofFn];exact⟨rQ _,rR _⟩
 have mQ:(d.map dF.b2).toList=rows:=by
  refine List.ext_getElem (by simp[B]) λj h1 h2=>?_;rw[Array.getElem_toList,Array.getElem_map];exact(Qg j O).2
 have hH:Holds dF.enc w b 0 d:=λj v=>by
  rw[dn,getElem!_pos d j v,(Qg j v).1];refine⟨?_,by simp[World.frozen?,A]⟩
  have:j<o.size:=O
  simp[World.cell?,A,this]
 have rU:CmpLays1 P g #[] dF.enc tI b 0 d.size w:=CmpReads.lays (λm os dk T x y=>by
  have hE:=GB (w:=w) (X:=own K p r.H) (b:=b) (m:=m) (dk:=dk) (os:=os) ur;exact(OT raw (x.2.1.mono hE λ_ _ h=>h) (y.2.1.mono hE λ_ _ h=>h) x.2.2 y.2.2).mono (by
   rintro e1 fg ⟨rfl,rfl⟩;exact⟨rfl,0,rfl⟩))
 have run:=Any.slices_SortFunc L dF.enc dF.one tI O8 g #[] b 0 cap d w HM rU hH (iP.1 A).1 O;rw[B] at run;rw[dj];refine run.mono ?_;rintro e1 fg ⟨rfl,Q,n,os,hp,T,kI⟩;rw[<-B] at hp T;refine fin _ ?_;have E:=L1 hp T;rw[mQ] at E;have aid:Q.size=rows.length:=by rw[hp.1,B]
 have I:(Sort.ahead w n).heap[b]? =some (.cells o e (0,0)):=A;have s:sortWorld dF.enc w b 0 n Q os=grow ((Sort.ahead w n).setRow b (putCells dF.enc 0 Q o)) os:=by
  show grow (putRow dF.enc (Sort.ahead w n) b 0 Q) os=_;congr 1;exact Kr I _
 have hCs:(putCells dF.enc 0 Q o).size=o.size:=by simp[putCells]
 have lh:Rel K p r U (Sort.ahead w n):=W.grow ⟨rfl,rfl,rfl,cD _,λ_ _ _=>rfl⟩;have di:=lh.setRow 0 b (.inl ⟨_,hq⟩) o e I (putCells dF.enc 0 Q o) hCs (aE e q 1 (aS ab) (e4 rows)) D
  ⟨ig,Or.inr ⟨b,_,hq,setRow_heap _ _ _ _ _ _ I,by
   rw[hCs,dj,<-E,ni,Array.size_map];omega,λrow s=>by
    obtain⟨l,_,rfl⟩:=et.1 s;rfl,λi j row x u aH a2 a3=>by
   rw[er] at aH;cases R:(e4 rows)[i]? with
   |none=>rw[R] at aH;cases aH
   |some l=>
    rw[R] at aH;simp only[Option.map_some,Option.some.injEq] at aH;subst aH
    match j,a2 with
    |0,a2=>
     simp only[List.getElem?_cons_zero,Option.some.injEq] at a2;subst a2;rw[<-E,pg,Array.getElem?_map] at R;cases C:Q[i]? with
     |none=>rw[C] at R;cases R
     |some y=>
      rw[C] at R;simp only[Option.map_some,Option.some.injEq] at R;subst R;have BH:=(iP.1 C).1;have afu:=(iP.1 C).2;have hu:u=y.enc:=by
       rw[show i*1+0=i by omega] at a3;unfold putCells at a3;rw[Array.getElem?_mapIdx,gY O] at a3;simp only[Option.map_some,Option.some.injEq] at a3;rw[aW O] at a3;rw[<-a3,Nat.sub_zero,getElem!_pos Q i BH,afu]
      subst hu;refine(y.2.1.mono (w':=Sort.ahead w n) ⟨rfl,rfl,rfl,cD _,λ_ _ _=>rfl⟩ λ_ _ h=>h).mono ⟨rfl,rfl,rfl,a1,λkk _ hx=>setRow_other _ _ _ _ λe0=>hx ?_⟩ λ_ _ h=>h;subst e0;exact ur⟩⟩
 rw[kI,s];refine di.grow ⟨rfl,rfl,rfl,?_,λk hk _=>?_⟩
 ·show _<=(_++os).size;rw[Array.size_append];exact Nat.le_add_right _ _
 show(_++os)[k]? =_;rw[Array.getElem?_append_left hk]
theorem WN(L:SlLaysF.n6 P ρ)(b:sZ P g)(d: ∀args w,(callFunc g args).run P w= .ok (.enter g args) w)(a:d7 P (ρ.f 6)){x:List (List Int)}{n:Nat}{r:List (List Int)}(h:l6 x=some r):
  iA P G (ρ.f 6) [aE e n 1 (aS ab) x] [ms 0 n 1 (aS ab) x,.fn g []] (.bJ []) [aE e n 1 (aS ab) r]:=by
 unfold l6 at h;split at h
 ·rename_i c;cases h;exact ab' L b d a x c.1 c.2
 cases h
end sort
end Go.Lift

/- Tools. -/
import Derived.Test.YtcihigfifglboabGreatHLiftIns
import Derived.Test.YtcihigfifglboabGreatHLiftSq
import Derived.Shelf.SlSortCmp.NoneTotal
set_option linter.unusedVariables false
namespace Go.Lift
open Go Go.Proofs
theorem LP: ∀a,cmpL a a=0
 | []=>rfl
 |x::a=>by unfold cmpL;rw[a6 O,a6 O];exact LP a
theorem FD: ∀c d,cmpL c d<0↔0<cmpL d c
 | [],[]=>by simp[cmpL]
 | [],_::_=>by simp[cmpL]
 |_::_,[]=>by simp[cmpL]
 |x::c,y::d=>by
  unfold cmpL;by_cases a:x<y
  ·rw[a1 a,a6 O,a1 a];omega
  by_cases e:y<x
  ·rw[a6 a,a1 e,a1 e];omega
  rw[a6 a,a6 e,a6 e,a6 a];exact FD c d
theorem EI: ∀{a c},cmpL a c=0->a=c
 | [],[],_=>rfl
 | [],_::_,h=>by simp[cmpL] at h
 |_::_,[],h=>by simp[cmpL] at h
 |x::a,y::c,h=>by
  unfold cmpL at h;by_cases d:x<y
  ·rw[a1 d] at h;omega
  by_cases e:y<x
  ·rw[a6 d,a1 e] at h;omega
  rw[a6 d,a6 e] at h;rw[EI h,show x=y by omega]
theorem Eu: ∀i k l,cmpL i k<0->cmpL k l<0->cmpL i l<0
 | [],[],_,h,_=>by simp[cmpL] at h
 | [],_::_,[],_,h=>by simp[cmpL] at h
 | [],_::_,_::_,_,_=>by simp[cmpL]
 |_::_,[],_,h,_=>by simp[cmpL] at h
 |_::_,_::_,[],_,h=>by simp[cmpL] at h
 |x::i,y::k,z::l,m,e=>by
  unfold cmpL at m e⊢;by_cases a:x<y
  ·by_cases b:y<z
   ·rw[a1 O];omega
   by_cases c:z<y
   ·rw[a6 b,a1 c] at e;omega
   rw[a1 O];omega
  by_cases b:y<x
  ·rw[a6 a,a1 b] at m;omega
  by_cases c:y<z
  ·rw[a1 O];omega
  by_cases d:z<y
  ·rw[a6 c,a1 d] at e;omega
  rw[a6 O,a6 O];rw[a6 a,a6 b] at m;rw[a6 c,a6 d] at e;exact Eu i k l m e
structure tm (P:Program) (g:FuncId):Prop where
 both: ∀(cU hl n c cu kC m d:Nat) (xs ys:List Int) (w:World),xs.length=n->ys.length=m->n<=9223372036854775807->m<=9223372036854775807->(∀j,j<xs.length->w.cell? ⟨cU,hl+j,none⟩=some (.int .i64 (xs.getD j 0)))->
  (∀j,j<ys.length->w.cell? ⟨cu,kC+j,none⟩=some (.int .i64 (ys.getD j 0)))->
  Calls P g #[.slice (some ⟨cU,hl,none⟩) n c,.slice (some ⟨cu,kC,none⟩) m d] w λe w'=>e= .returned (.int .i64 (cmpL xs ys))/\w'=w
 pg: ∀(aK a2:Option Addr) (c m d:Nat) (w:World),m<=9223372036854775807->Calls P g #[.slice aK 0 c,.slice a2 m d] w λe w'=>e= .returned (.int .i64 (if 0<m then-1 else 0))/\w'=w
 Qb: ∀(cU hl n c d:Nat) (a2:Option Addr) (x:Int) (w:World),0<n->n<=9223372036854775807->w.cell? ⟨cU,hl,none⟩=some (.int .i64 x)->Calls P g #[.slice (some ⟨cU,hl,none⟩) n c,.slice a2 0 d] w λe w'=>e= .returned (.int .i64 1)/\w'=w
variable {w:World}{X:Nat->Prop}{d:List Int}{v:Value}{g:FuncId}{b:Nat}{G:fc}{e:TypeId}
theorem wv(h:cX w X (.aE (d.map j3)) v):
  (d=[]/\ ∃a c,v= .slice a 0 c)\/ ∃(b o c:Nat),0<d.length/\v= .slice (some ⟨b,o,none⟩) d.length c/\ ∀j,j<d.length->w.cell? ⟨b,o+j,none⟩=some (.int .i64 (d.getD j 0)):=by
 generalize y:d.map j3=z at h;cases h with
 |fS a i=>exact .inl ⟨by simpa using y,a,i,rfl⟩
 |aE _ b l m i f F G A p D q=>
  subst y;cases d with
  |nil=>exact .inl ⟨rfl,_,_,rfl⟩
  |cons x d=>
   have r:m=1:=by have:=p (j3 x) aW;simpa using this.symm
   subst r;refine .inr ⟨b,l,i,aW,aW,λj s=>?_⟩;have B:=D j 0 (by simpa using s) O;have e:(x::d).getD j 0=(x::d)[j]:=by rw[ew,bs s];rfl
   have C:=q j 0 (j3 (x::d)[j]) (.int .i64 (x::d)[j]) (by rw[ev,bs s];rfl) rfl;rw[show l+j*1+0=l+j by omega] at B;rw[B,e];generalize f j 0=u at C;cases C with
   |int k n=>rfl
theorem N9{P:Program}(h:tm P g){l:List Int}{u:Value}(z:cX w X (.aE (d.map j3)) v)(A:cX w X (.aE (l.map j3)) u)(C:d.length<=1000000000)(D:l.length<=1000000000):
  Calls P g #[v,u] w λe k=>e= .returned (.int .i64 (cmpL d l))/\k=w:=by
 rcases wv z with ⟨rfl,a,c,rfl⟩|⟨b,o,c,m,rfl,n⟩<;>rcases wv A with ⟨rfl,p,i,rfl⟩|⟨q,r,i,s,rfl,B⟩
 ·exact(h.pg a p c 0 i w O).mono (by rintro e k ⟨rfl,rfl⟩;exact⟨rfl,rfl⟩)
 ·refine(h.pg a (some ⟨q,r,none⟩) c l.length i w O).mono ?_;rintro e k ⟨rfl,rfl⟩;cases l with
  |nil=>simp at s
  |cons y l=>exact⟨by rw[a1 s];rfl,rfl⟩
 ·refine(h.Qb b o d.length c i p (d.getD 0 0) w m O (n 0 m)).mono ?_;rintro e k ⟨rfl,rfl⟩;cases d with
  |nil=>simp at m
  |cons x d=>exact⟨rfl,rfl⟩
 exact h.both b o d.length c q r l.length i d l w rfl rfl O O n B
section sort
open Go.Shelf Go.RowKit Go.Lib Go.Sort
variable {P:Program} {ρ:Ren}
theorem CY:SWO (ltOf cmpL) where
 irrefl x:=by unfold ltOf;rw[LP];rfl
 trans x y z d c:=by
  unfold ltOf at*;simp only[decide_eq_true_eq] at*;exact Eu x y z d c
 ntrans x y z d c:=by
  unfold ltOf at*;simp only[decide_eq_false_iff_not] at*;intro h;by_cases a:cmpL y x<0
  ·exact c (Eu y x z a h)
  have e:cmpL x y=0:=by
   have:=FD y x;omega
  have:=EI e;subst this;exact c h
theorem Yf: ∀x y,ltOf cmpL x y=false->ltOf cmpL y x=false->x=y:=λx y a c=>by
 unfold ltOf at*;simp only[decide_eq_false_iff_not] at*
 have:=FD y x;exact EI O
def dN(w:World)(X:Nat->Prop):Type:={q:Value×List Int // cX w X (.aE (q.2.map j3)) q.1/\q.2.length<=1000000000}
instance (w:World) (X:Nat->Prop):Inhabited (dN w X):=⟨⟨(.slice none 0 0,[]),.fS none 0,aW⟩⟩
def dN.enc{w:World}{X:Nat->Prop}(x:dN w X):Value:=x.1.1
def dN.bY{w:World}{X:Nat->Prop}(x:dN w X):List Int:=x.1.2
def tQ{w:World}{X:Nat->Prop}(x y:dN w X):Int:=cmpL x.bY y.bY
theorem dN.one:OneCell (dN.enc (w:=w) (X:=X)):=λx=>x.2.1.iK
theorem Ol:SWO (ltOf (tQ (w:=w) (X:=X))) where
 irrefl x:=CY.irrefl x.bY
 trans x y z:=CY.trans x.bY y.bY z.bY
 ntrans x y z:=CY.ntrans x.bY y.bY z.bY
theorem JW{a:Array Value}{t:TypeId}(d:w.heap[b]? =some (.cells a t (0,0)))(f:Array Value->Array Value):mapBlock w b f=w.setRow b (f a):=by rw[mapBlock_congr w b f (λ_=>f a) λc e G7 h=>by rw[d] at h;cases h;rfl];rfl
theorem F4{m:Nat}{dk:Array (dN w X)}{os:Array Obj}(a:X b):Ext X w (sortWorld dN.enc w b 0 m dk os):=by
 refine⟨rfl,rfl,rfl,?_,λk d c=>?_⟩
 ·show w.heap.size<=((putRow dN.enc (Sort.ahead w m) b 0 dk).heap++os).size;rw[Array.size_append,Go.Sort.size_putRow];exact Nat.le_add_right _ _
 show((putRow dN.enc (Sort.ahead w m) b 0 dk).heap++os)[k]? =_;have h:(putRow dN.enc (Sort.ahead w m) b 0 dk).heap.size=w.heap.size:=by rw[Go.Sort.size_putRow];rfl
 rw[Array.getElem?_append_left O];show((Sort.ahead w m).heap.modify b _)[k]? =_;rw[Array.getElem?_modify,a6 λe:b=k=>c (e▸a)];rfl
theorem L3{d a:Array (dN w X)}(c:PermIn 0 d.size d a)(l:SortedIn (ltOf tQ) 0 d.size a):(a.map dN.bY).toList=fj (d.map dN.bY).toList:=by
 refine sorted_unique_holds CY Yf (d.map dN.bY) (a.map dN.bY) ⟨by simpa using c.1,λi m=>?_,?_⟩ λi j e n o=>?_
 ·have r:d.size<=i:=by
   rcases m with h|h
   ·omega
   simpa using h
  have e:=c.1;rw[getElem!_neg _ _ bQ,getElem!_neg _ _ bQ]
 ·have e:=c.2.2;have p:(a.map dN.bY).extract 0 (d.map dN.bY).size=(a.extract 0 d.size).map dN.bY:=aW
  have q:(d.map dN.bY).extract 0 (d.map dN.bY).size=(d.extract 0 d.size).map dN.bY:=aW
  rw[p,q,vw,vw];exact e.map _
 have k0:=c.1;have k:j<d.size:=by simpa using o
 have:=l i j e n k;rw[getElem!_pos a j O,getElem!_pos a i O] at this;rw[getElem!_pos _ j bQ,getElem!_pos _ i bQ,Array.getElem_map,Array.getElem_map];exact this
theorem ZT(L:SlLaysF.n6 P ρ)(raw:tm P g)(G2: ∀args w,(callFunc g args).run P w= .ok (.enter g args) w)(v:i' P (ρ.f 6)){q:Nat}(rows:List (List Int))(cH:rows.length<=1000000000)(cD: ∀l∈rows,l.length<=1000000000):
  iT P G (ρ.f 6) [aG e q 1 (aZ ae) rows] [ms 0 q 1 (aZ ae) rows,.fn g []] (.bL []) [aG e q 1 (aZ ae) (fj rows)]:=by
 refine⟨v,?_⟩;intro w X p E kV hd kx fO;have sf:E.length=2:=fO.length;obtain⟨hQ,gb,rfl⟩: ∃a b,E=[a,b]:=by
  match E,sf with
  | [a,b],_=>exact⟨a,b,rfl⟩
 have R:=Rel.lR (P:=P) (nt:=2) kV hd kx fO (cO _);obtain⟨M,sq,_⟩:=fO;obtain rfl:gb= .func (.func g) #[] #[]:=by
  cases sq with
  |fn _ _ E N _=>
   have:E= #[]:=IV N;rw[this]
 generalize Hj:({tmps:=[hQ,Value.func (.func g) #[] #[]].toArray++Array.replicate (2-[hQ,Value.func (.func g) #[] #[]].toArray.size) undef,defers:=[]}:Act)=S at R;generalize mg:Ctx.dI P G w X [aG e q 1 (aZ ae) rows].length p 2=K at R;have sc:K.X=X:=by rw[<-mg];rfl
 generalize kW:Lift.lR [aG e q 1 (aZ ae) rows] [ms 0 q 1 (aZ ae) rows,.fn g []]=r at R;have z:r.H 0=some (aG e q 1 (aZ ae) rows):=by rw[<-kW];rfl
 have T:r.H=eT [aG e q 1 (aZ ae) rows] 0:=by rw[<-kW];rfl
 have V:own K p r.H=lP X p (eT [aG e q 1 (aZ ae) rows] 0):=by funext b;rw[T];show(K.X b\/_)=_;rw[sc];rfl
 rw[<-V] at M;have sb:aU r.H 0 (some (aG e q 1 (aZ ae) (fj rows)))=eT [aG e q 1 (aZ ae) (fj rows)] 0:=by
  rw[T];funext j
  match j with
  |0=>rfl
  |j+1=>rfl
 have fin: ∀(w':World),Rel K p {r with H:=aU r.H 0 (some (aG e q 1 (aZ ae) (fj rows)))} S w'->
   ∃u,∃_i:Unit,∃β,Ending.returned (.tuple #[])= .returned u/\True/\Left p β [aG e q 1 (aZ ae) rows] [aG e q 1 (aZ ae) (fj rows)] w w' X (.bL []) u:=by
  intro w' b7;subst mg;obtain⟨β,ss⟩:=Di (out:=[aG e q 1 (aZ ae) (fj rows)]) b7 (cO _) (.bL [] #[] rfl λi c u bP _=>by simp at bP) rfl (by
   intro id e0 U;refine⟨⟨e0,?_,jm.refl _⟩,?_⟩
   ·show aU r.H 0 _ id=_;rw[sb];exact U
   match id with
   |0=>cases U;exact⟨rfl,rfl⟩
   |k+1=>cases U)
  exact⟨_,(),β,rfl,trivial,ss⟩
 have iC:=(R.heap 0 _ z).2.1;have oO:=F3 (R.heap 0 _ z).2 M;have D:r.H 0≠none:=by rw[z];simp
 rcases oO with ⟨rfl,h1,di⟩|⟨b,cap,o,rfl,di,A,kX,o2,BO,b7⟩
 ·have o5:rows=[]:=by simpa using h1
  subst o5;refine(AnyF.slices_SortFunc_none (P:=P) (ρ:=ρ) {L with} none 0 _ w).mono ?_;rintro e1 gy ⟨rfl,rfl⟩;refine fin _ ?_
  have:=R.yk 0 _ z;rw[show fj []=[] by simp[fj]];exact this
 have uu:own K p r.H b:= .inr ⟨0,D,.inl ⟨_,di⟩⟩;have hlen:rows.length<=o.size:=by
  rw[kX];simpa using o2
 have lI: ∀(j:Nat) (W:j<rows.length),cX w (own K p r.H) (.aE (rows[j].map j3)) (o[j]' O):=λj W=>
  b7 j 0 (aZ ae rows[j]) (.aE (rows[j].map j3)) _ (by rw[ev,bs W];rfl) rfl (by
   rw[fA,a1 bQ];rw[show j*1+0=j by omega,pI,ht O])
 obtain⟨F,r',sa⟩: ∃F:Fin rows.length->dN w (own K p r.H),(∀j,(F j).enc=o[j.1]'(by have:=j.2;omega))/\ ∀j,(F j).bY=rows[j.1]:=
  ⟨λj=>⟨(o[j.1]'(by have:=j.2;omega),rows[j.1]),lI j.1 j.2,cD _ (fz j.2)⟩,λ_=>rfl,λ_=>rfl⟩
 obtain⟨d,cv⟩: ∃d:Array (dN w (own K p r.H)),d=Array.ofFn F:=⟨_,rfl⟩
 have B:d.size=rows.length:=by rw[cv];exact Array.size_ofFn
 have Py: ∀(j:Nat) (W:j<d.size),d[j].enc=o[j]' O/\d[j].bY=rows[j]' O:=λj W=>by
  subst cv;rw[Array.getElem_ofFn];exact⟨r' _,sa _⟩
 have nj:(d.map dN.bY).toList=rows:=by
  refine List.ext_getElem (by simp[B]) λj h1 h2=>?_;rw[Array.getElem_toList,Array.getElem_map];exact(Py j O).2
 have hH:Holds dN.enc w b 0 d:=λj W=>by
  rw[dr,getElem!_pos d j W,(Py j W).1];refine⟨?_,by simp[World.frozen?,A]⟩
  have:j<o.size:=O
  simp[World.cell?,A,this]
 have se:CmpLays1 P g #[] dN.enc tQ b 0 d.size w:=CmpReads.lays (λm os dk N x y=>by
  have jw:=F4 (w:=w) (X:=own K p r.H) (b:=b) (m:=m) (dk:=dk) (os:=os) uu;exact(N9 raw (x.2.1.mono jw λ_ _ h=>h) (y.2.1.mono jw λ_ _ h=>h) x.2.2 y.2.2).mono (by
   rintro e1 gy ⟨rfl,rfl⟩;exact⟨rfl,0,rfl⟩))
 have run:=Any.slices_SortFunc L dN.enc dN.one tQ Ol g #[] b 0 cap d w G2 se hH (jh.1 A).1 O;rw[B] at run;rw[c5];refine run.mono ?_;rintro e1 gy ⟨rfl,I,n,os,hp,N,k1⟩;rw[<-B] at hp N;refine fin _ ?_;have Y:=L3 hp N;rw[nj] at Y;have af9:I.size=rows.length:=by rw[hp.1,B]
 have t:(Sort.ahead w n).heap[b]? =some (.cells o e (0,0)):=A;have s:sortWorld dN.enc w b 0 n I os=grow ((Sort.ahead w n).setRow b (putCells dN.enc 0 I o)) os:=by
  show grow (putRow dN.enc (Sort.ahead w n) b 0 I) os=_;congr 1;exact JW t _
 have hCs:(putCells dN.enc 0 I o).size=o.size:=by simp[putCells]
 have qn:Rel K p r S (Sort.ahead w n):=R.grow ⟨rfl,rfl,rfl,cO _,λ_ _ _=>rfl⟩;have fF:=qn.setRow 0 b (.inl ⟨_,di⟩) o e t (putCells dN.enc 0 I o) hCs (aG e q 1 (aZ ae) (fj rows)) D
  ⟨iC,Or.inr ⟨b,_,di,setRow_heap _ _ _ _ _ _ t,by
   rw[hCs,c5,<-Y,lU,Array.size_map];omega,λrow s=>by
    obtain⟨l,_,rfl⟩:=eM.1 s;rfl,λi j row x u aK a2 a3=>by
   rw[ev] at aK;cases Q:(fj rows)[i]? with
   |none=>rw[Q] at aK;cases aK
   |some l=>
    rw[Q] at aK;simp only[Option.map_some,Option.some.injEq] at aK;subst aK
    match j,a2 with
    |0,a2=>
     simp only[List.getElem?_cons_zero,Option.some.injEq] at a2;subst a2;rw[<-Y,pI,Array.getElem?_map] at Q;cases C:I[i]? with
     |none=>rw[C] at Q;cases Q
     |some y=>
      rw[C] at Q;simp only[Option.map_some,Option.some.injEq] at Q;subst Q;have BM:=(jh.1 C).1;have ac0:=(jh.1 C).2;have hu:u=y.enc:=by
       rw[show i*1+0=i by omega] at a3;unfold putCells at a3;rw[Array.getElem?_mapIdx,ht O] at a3;simp only[Option.map_some,Option.some.injEq] at a3;rw[a1 O] at a3;rw[<-a3,Nat.sub_zero,getElem!_pos I i BM,ac0]
      subst hu;refine(y.2.1.mono (w':=Sort.ahead w n) ⟨rfl,rfl,rfl,cO _,λ_ _ _=>rfl⟩ λ_ _ h=>h).mono ⟨rfl,rfl,rfl,aW,λkk _ hx=>setRow_other _ _ _ _ λe0=>hx ?_⟩ λ_ _ h=>h;subst e0;exact uu⟩⟩
 rw[k1,s];refine fF.grow ⟨rfl,rfl,rfl,?_,λk hk _=>?_⟩
 ·show _<=(_++os).size;rw[Array.size_append];exact Nat.le_add_right _ _
 show(_++os)[k]? =_;rw[Array.getElem?_append_left hk]
theorem UY(L:SlLaysF.n6 P ρ)(c:tm P g)(k: ∀args w,(callFunc g args).run P w= .ok (.enter g args) w)(a:i' P (ρ.f 6)){x:List (List Int)}{i:Nat}{r:List (List Int)}(h:mr x=some r):
  iT P G (ρ.f 6) [aG e i 1 (aZ ae) x] [ms 0 i 1 (aZ ae) x,.fn g []] (.bL []) [aG e i 1 (aZ ae) r]:=by
 unfold mr at h;split at h
 ·rename_i d;cases h;exact ZT L c k a x d.1 d.2
 cases h
end sort
end Go.Lift

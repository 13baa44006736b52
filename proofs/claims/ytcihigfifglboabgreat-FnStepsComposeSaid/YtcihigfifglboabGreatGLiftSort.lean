/- Tools. -/
import Derived.Test.YtcihigfifglboabGreatGLiftIns
import Derived.Test.YtcihigfifglboabGreatGLiftSq
import Derived.Shelf.SlSortCmp.NoneTotal
set_option linter.unusedVariables false
namespace Go.Lift
open Go Go.Proofs
theorem LM: ∀a,cmpL a a=0
 | []=>rfl
 |x::a=>by unfold cmpL;rw[a6 O,a6 O];exact LM a
theorem FD: ∀c d,cmpL c d<0↔0<cmpL d c
 | [],[]=>by simp[cmpL]
 | [],_::_=>by simp[cmpL]
 |_::_,[]=>by simp[cmpL]
 |x::c,y::d=>by
  unfold cmpL;by_cases a:x<y
  ·rw[a1 a,a6 O,a1 a];omega
  by_cases e:y<x
  ·rw[a6 a,a1 e,a1 e];omega
  rw[a6 a,a6 e,a6 e,a6 a];exact FD c d
theorem EJ: ∀{a c},cmpL a c=0->a=c
 | [],[],_=>rfl
 | [],_::_,h=>by simp[cmpL] at h
 |_::_,[],h=>by simp[cmpL] at h
 |x::a,y::c,h=>by
  unfold cmpL at h;by_cases d:x<y
  ·rw[a1 d] at h;omega
  by_cases e:y<x
  ·rw[a6 d,a1 e] at h;omega
  rw[a6 d,a6 e] at h;rw[EJ h,show x=y by omega]
theorem Es: ∀i k l,cmpL i k<0->cmpL k l<0->cmpL i l<0
 | [],[],_,h,_=>by simp[cmpL] at h
 | [],_::_,[],_,h=>by simp[cmpL] at h
 | [],_::_,_::_,_,_=>by simp[cmpL]
 |_::_,[],_,h,_=>by simp[cmpL] at h
 |_::_,_::_,[],_,h=>by simp[cmpL] at h
 |x::i,y::k,z::l,m,e=>by
  unfold cmpL at m e⊢;by_cases a:x<y
  ·by_cases b:y<z
   ·rw[a1 O];omega
   by_cases c:z<y
   ·rw[a6 b,a1 c] at e;omega
   rw[a1 O];omega
  by_cases b:y<x
  ·rw[a6 a,a1 b] at m;omega
  by_cases c:y<z
  ·rw[a1 O];omega
  by_cases d:z<y
  ·rw[a6 c,a1 d] at e;omega
  rw[a6 O,a6 O];rw[a6 a,a6 b] at m;rw[a6 c,a6 d] at e;exact Es i k l m e
structure tg (P:Program) (g:FuncId):Prop where
 both: ∀(cT hg n c cu ky m d:Nat) (xs ys:List Int) (w:World),xs.length=n->ys.length=m->n<=9223372036854775807->m<=9223372036854775807->(∀j,j<xs.length->w.cell? ⟨cT,hg+j,none⟩=some (.int .i64 (xs.getD j 0)))->
  (∀j,j<ys.length->w.cell? ⟨cu,ky+j,none⟩=some (.int .i64 (ys.getD j 0)))->
  Calls P g #[.slice (some ⟨cT,hg,none⟩) n c,.slice (some ⟨cu,ky,none⟩) m d] w λe w'=>e= .returned (.int .i64 (cmpL xs ys))/\w'=w
 pd: ∀(aJ a2:Option Addr) (c m d:Nat) (w:World),m<=9223372036854775807->Calls P g #[.slice aJ 0 c,.slice a2 m d] w λe w'=>e= .returned (.int .i64 (if 0<m then-1 else 0))/\w'=w
 P7: ∀(cT hg n c d:Nat) (a2:Option Addr) (x:Int) (w:World),0<n->n<=9223372036854775807->w.cell? ⟨cT,hg,none⟩=some (.int .i64 x)->Calls P g #[.slice (some ⟨cT,hg,none⟩) n c,.slice a2 0 d] w λe w'=>e= .returned (.int .i64 1)/\w'=w
variable {w:World}{X:Nat->Prop}{d:List Int}{v:Value}{g:FuncId}{b:Nat}{G:fa}{e:TypeId}
theorem wx(h:cW w X (.aD (d.map j1)) v):
  (d=[]/\ ∃a c,v= .slice a 0 c)\/ ∃(b o c:Nat),0<d.length/\v= .slice (some ⟨b,o,none⟩) d.length c/\ ∀j,j<d.length->w.cell? ⟨b,o+j,none⟩=some (.int .i64 (d.getD j 0)):=by
 generalize y:d.map j1=z at h;cases h with
 |fO a i=>exact .inl ⟨by simpa using y,a,i,rfl⟩
 |aD _ b l m i f F G A p D q=>
  subst y;cases d with
  |nil=>exact .inl ⟨rfl,_,_,rfl⟩
  |cons x d=>
   have r:m=1:=by have:=p (j1 x) aX;simpa using this.symm
   subst r;refine .inr ⟨b,l,i,aX,aX,λj s=>?_⟩;have B:=D j 0 (by simpa using s) O;have e:(x::d).getD j 0=(x::d)[j]:=by rw[eu,bs s];rfl
   have C:=q j 0 (j1 (x::d)[j]) (.int .i64 (x::d)[j]) (by rw[et,bs s];rfl) rfl;rw[show l+j*1+0=l+j by omega] at B;rw[B,e];generalize f j 0=u at C;cases C with
   |int k n=>rfl
theorem Od{P:Program}(h:tg P g){l:List Int}{u:Value}(z:cW w X (.aD (d.map j1)) v)(A:cW w X (.aD (l.map j1)) u)(C:d.length<=1000000000)(D:l.length<=1000000000):
  Calls P g #[v,u] w λe k=>e= .returned (.int .i64 (cmpL d l))/\k=w:=by
 rcases wx z with ⟨rfl,a,c,rfl⟩|⟨b,o,c,m,rfl,n⟩<;>rcases wx A with ⟨rfl,p,i,rfl⟩|⟨q,r,i,s,rfl,B⟩
 ·exact(h.pd a p c 0 i w O).mono (by rintro e k ⟨rfl,rfl⟩;exact⟨rfl,rfl⟩)
 ·refine(h.pd a (some ⟨q,r,none⟩) c l.length i w O).mono ?_;rintro e k ⟨rfl,rfl⟩;cases l with
  |nil=>simp at s
  |cons y l=>exact⟨by rw[a1 s];rfl,rfl⟩
 ·refine(h.P7 b o d.length c i p (d.getD 0 0) w m O (n 0 m)).mono ?_;rintro e k ⟨rfl,rfl⟩;cases d with
  |nil=>simp at m
  |cons x d=>exact⟨rfl,rfl⟩
 exact h.both b o d.length c q r l.length i d l w rfl rfl O O n B
section sort
open Go.Shelf Go.RowKit Go.Lib Go.Sort
variable {P:Program} {ρ:Ren}
theorem CT:SWO (ltOf cmpL) where
 irrefl x:=by unfold ltOf;rw[LM];rfl
 trans x y z d c:=by
  unfold ltOf at*;simp only[decide_eq_true_eq] at*;exact Es x y z d c
 ntrans x y z d c:=by
  unfold ltOf at*;simp only[decide_eq_false_iff_not] at*;intro h;by_cases a:cmpL y x<0
  ·exact c (Es y x z a h)
  have e:cmpL x y=0:=by
   have:=FD y x;omega
  have:=EJ e;subst this;exact c h
theorem XB: ∀x y,ltOf cmpL x y=false->ltOf cmpL y x=false->x=y:=λx y a c=>by
 unfold ltOf at*;simp only[decide_eq_false_iff_not] at*
 have:=FD y x;exact EJ O
def dL(w:World)(X:Nat->Prop):Type:={q:Value×List Int // cW w X (.aD (q.2.map j1)) q.1/\q.2.length<=1000000000}
instance (w:World) (X:Nat->Prop):Inhabited (dL w X):=⟨⟨(.slice none 0 0,[]),.fO none 0,aX⟩⟩
def dL.enc{w:World}{X:Nat->Prop}(x:dL w X):Value:=x.1.1
def dL.bZ{w:World}{X:Nat->Prop}(x:dL w X):List Int:=x.1.2
def tF{w:World}{X:Nat->Prop}(x y:dL w X):Int:=cmpL x.bZ y.bZ
theorem dL.one:OneCell (dL.enc (w:=w) (X:=X)):=λx=>x.2.1.iJ
theorem Oi:SWO (ltOf (tF (w:=w) (X:=X))) where
 irrefl x:=CT.irrefl x.bZ
 trans x y z:=CT.trans x.bZ y.bZ z.bZ
 ntrans x y z:=CT.ntrans x.bZ y.bZ z.bZ
theorem JU{a:Array Value}{t:TypeId}(d:w.heap[b]? =some (.cells a t (0,0)))(f:Array Value->Array Value):mapBlock w b f=w.setRow b (f a):=by rw[mapBlock_congr w b f (λ_=>f a) λc e G9 h=>by rw[d] at h;cases h;rfl];rfl
theorem F6{m:Nat}{dk:Array (dL w X)}{os:Array Obj}(a:X b):Ext X w (sortWorld dL.enc w b 0 m dk os):=by
 refine⟨rfl,rfl,rfl,?_,λk d c=>?_⟩
 ·show w.heap.size<=((putRow dL.enc (Sort.ahead w m) b 0 dk).heap++os).size;rw[Array.size_append,Go.Sort.size_putRow];exact Nat.le_add_right _ _
 show((putRow dL.enc (Sort.ahead w m) b 0 dk).heap++os)[k]? =_;have h:(putRow dL.enc (Sort.ahead w m) b 0 dk).heap.size=w.heap.size:=by rw[Go.Sort.size_putRow];rfl
 rw[Array.getElem?_append_left O];show((Sort.ahead w m).heap.modify b _)[k]? =_;rw[Array.getElem?_modify,a6 λe:b=k=>c (e▸a)];rfl
theorem L1{d a:Array (dL w X)}(c:PermIn 0 d.size d a)(l:SortedIn (ltOf tF) 0 d.size a):(a.map dL.bZ).toList=fh (d.map dL.bZ).toList:=by
 refine sorted_unique_holds CT XB (d.map dL.bZ) (a.map dL.bZ) ⟨by simpa using c.1,λi m=>?_,?_⟩ λi j e n o=>?_
 ·have r:d.size<=i:=by
   rcases m with h|h
   ·omega
   simpa using h
  have e:=c.1;rw[getElem!_neg _ _ bQ,getElem!_neg _ _ bQ]
 ·have e:=c.2.2;have p:(a.map dL.bZ).extract 0 (d.map dL.bZ).size=(a.extract 0 d.size).map dL.bZ:=aX
  have q:(d.map dL.bZ).extract 0 (d.map dL.bZ).size=(d.extract 0 d.size).map dL.bZ:=aX
  rw[p,q,vw,vw];exact e.map _
 have kW:=c.1;have k:j<d.size:=by simpa using o
 have:=l i j e n k;rw[getElem!_pos a j O,getElem!_pos a i O] at this;rw[getElem!_pos _ j bQ,getElem!_pos _ i bQ,Array.getElem_map,Array.getElem_map];exact this
theorem ZP(L:SlLaysF.n6 P ρ)(raw:tg P g)(G3: ∀args w,(callFunc g args).run P w= .ok (.enter g args) w)(v:iV P (ρ.f 6)){q:Nat}(rows:List (List Int))(cG:rows.length<=1000000000)(cD: ∀l∈rows,l.length<=1000000000):
  iQ P G (ρ.f 6) [aE e q 1 (aZ ae) rows] [ms 0 q 1 (aZ ae) rows,.fn g []] (.bL []) [aE e q 1 (aZ ae) (fh rows)]:=by
 refine⟨v,?_⟩;intro w X p E jV ha ks fM;have sa:E.length=2:=fM.length;obtain⟨hM,fZ,rfl⟩: ∃a b,E=[a,b]:=by
  match E,sa with
  | [a,b],_=>exact⟨a,b,rfl⟩
 have R:=Rel.lQ (P:=P) (nt:=2) jV ha ks fM (cN _);obtain⟨M,sk,_⟩:=fM;obtain rfl:fZ= .func (.func g) #[] #[]:=by
  cases sk with
  |fn _ _ E N _=>
   have:E= #[]:=IX N;rw[this]
 generalize Hl:({tmps:=[hM,Value.func (.func g) #[] #[]].toArray++Array.replicate (2-[hM,Value.func (.func g) #[] #[]].toArray.size) undef,defers:=[]}:Act)=S at R;generalize me:Ctx.dG P G w X [aE e q 1 (aZ ae) rows].length p 2=K at R;have r8:K.X=X:=by rw[<-me];rfl
 generalize kS:Lift.lQ [aE e q 1 (aZ ae) rows] [ms 0 q 1 (aZ ae) rows,.fn g []]=r at R;have z:r.H 0=some (aE e q 1 (aZ ae) rows):=by rw[<-kS];rfl
 have T:r.H=eQ [aE e q 1 (aZ ae) rows] 0:=by rw[<-kS];rfl
 have V:own K p r.H=lN X p (eQ [aE e q 1 (aZ ae) rows] 0):=by funext b;rw[T];show(K.X b\/_)=_;rw[r8];rfl
 rw[<-V] at M;have r7:aU r.H 0 (some (aE e q 1 (aZ ae) (fh rows)))=eQ [aE e q 1 (aZ ae) (fh rows)] 0:=by
  rw[T];funext j
  match j with
  |0=>rfl
  |j+1=>rfl
 have fin: ∀(w':World),Rel K p {r with H:=aU r.H 0 (some (aE e q 1 (aZ ae) (fh rows)))} S w'->
   ∃u,∃_i:Unit,∃β,Ending.returned (.tuple #[])= .returned u/\True/\Left p β [aE e q 1 (aZ ae) rows] [aE e q 1 (aZ ae) (fh rows)] w w' X (.bL []) u:=by
  intro w' b7;subst me;obtain⟨β,sn⟩:=Dg (out:=[aE e q 1 (aZ ae) (fh rows)]) b7 (cN _) (.bL [] #[] rfl λi c u bP _=>by simp at bP) rfl (by
   intro id e0 U;refine⟨⟨e0,?_,jh.refl _⟩,?_⟩
   ·show aU r.H 0 _ id=_;rw[r7];exact U
   match id with
   |0=>cases U;exact⟨rfl,rfl⟩
   |k+1=>cases U)
  exact⟨_,(),β,rfl,trivial,sn⟩
 have iB:=(R.heap 0 _ z).2.1;have oM:=F3 (R.heap 0 _ z).2 M;have D:r.H 0≠none:=by rw[z];simp
 rcases oM with ⟨rfl,h1,df⟩|⟨b,cap,o,rfl,df,A,kT,oZ,BJ,b7⟩
 ·have o2:rows=[]:=by simpa using h1
  subst o2;refine(AnyF.slices_SortFunc_none (P:=P) (ρ:=ρ) {L with} none 0 _ w).mono ?_;rintro e1 gv ⟨rfl,rfl⟩;refine fin _ ?_
  have:=R.yi 0 _ z;rw[show fh []=[] by simp[fh]];exact this
 have uq:own K p r.H b:= .inr ⟨0,D,.inl ⟨_,df⟩⟩;have hlen:rows.length<=o.size:=by
  rw[kT];simpa using oZ
 have lG: ∀(j:Nat) (W:j<rows.length),cW w (own K p r.H) (.aD (rows[j].map j1)) (o[j]' O):=λj W=>
  b7 j 0 (aZ ae rows[j]) (.aD (rows[j].map j1)) _ (by rw[et,bs W];rfl) rfl (by
   rw[fy,a1 bQ];rw[show j*1+0=j by omega,pF,hr O])
 obtain⟨F,r5,r6⟩: ∃F:Fin rows.length->dL w (own K p r.H),(∀j,(F j).enc=o[j.1]'(by have:=j.2;omega))/\ ∀j,(F j).bZ=rows[j.1]:=
  ⟨λj=>⟨(o[j.1]'(by have:=j.2;omega),rows[j.1]),lG j.1 j.2,cD _ (fx j.2)⟩,λ_=>rfl,λ_=>rfl⟩
 obtain⟨d,cv⟩: ∃d:Array (dL w (own K p r.H)),d=Array.ofFn F:=⟨_,rfl⟩
 have B:d.size=rows.length:=by rw[cv];exact Array.size_ofFn
 have Pt: ∀(j:Nat) (W:j<d.size),d[j].enc=o[j]' O/\d[j].bZ=rows[j]' O:=λj W=>by
  subst cv;rw[Array.getElem_ofFn];exact⟨r5 _,r6 _⟩
 have nh:(d.map dL.bZ).toList=rows:=by
  refine List.ext_getElem (by simp[B]) λj h1 h2=>?_;rw[Array.getElem_toList,Array.getElem_map];exact(Pt j O).2
 have hH:Holds dL.enc w b 0 d:=λj W=>by
  rw[dp,getElem!_pos d j W,(Pt j W).1];refine⟨?_,by simp[World.frozen?,A]⟩
  have:j<o.size:=O
  simp[World.cell?,A,this]
 have r':CmpLays1 P g #[] dL.enc tF b 0 d.size w:=CmpReads.lays (λm os dk N x y=>by
  have jt:=F6 (w:=w) (X:=own K p r.H) (b:=b) (m:=m) (dk:=dk) (os:=os) uq;exact(Od raw (x.2.1.mono jt λ_ _ h=>h) (y.2.1.mono jt λ_ _ h=>h) x.2.2 y.2.2).mono (by
   rintro e1 gv ⟨rfl,rfl⟩;exact⟨rfl,0,rfl⟩))
 have run:=Any.slices_SortFunc L dL.enc dL.one tF Oi g #[] b 0 cap d w G3 r' hH (jc.1 A).1 O;rw[B] at run;rw[c6];refine run.mono ?_;rintro e1 gv ⟨rfl,I,n,os,hp,N,kX⟩;rw[<-B] at hp N;refine fin _ ?_;have Y:=L1 hp N;rw[nh] at Y;have af9:I.size=rows.length:=by rw[hp.1,B]
 have t:(Sort.ahead w n).heap[b]? =some (.cells o e (0,0)):=A;have s:sortWorld dL.enc w b 0 n I os=grow ((Sort.ahead w n).setRow b (putCells dL.enc 0 I o)) os:=by
  show grow (putRow dL.enc (Sort.ahead w n) b 0 I) os=_;congr 1;exact JU t _
 have hCs:(putCells dL.enc 0 I o).size=o.size:=by simp[putCells]
 have qi:Rel K p r S (Sort.ahead w n):=R.grow ⟨rfl,rfl,rfl,cN _,λ_ _ _=>rfl⟩;have fD:=qi.setRow 0 b (.inl ⟨_,df⟩) o e t (putCells dL.enc 0 I o) hCs (aE e q 1 (aZ ae) (fh rows)) D
  ⟨iB,Or.inr ⟨b,_,df,setRow_heap _ _ _ _ _ _ t,by
   rw[hCs,c6,<-Y,lT,Array.size_map];omega,λrow s=>by
    obtain⟨l,_,rfl⟩:=eK.1 s;rfl,λi j row x u aJ a2 a3=>by
   rw[et] at aJ;cases Q:(fh rows)[i]? with
   |none=>rw[Q] at aJ;cases aJ
   |some l=>
    rw[Q] at aJ;simp only[Option.map_some,Option.some.injEq] at aJ;subst aJ
    match j,a2 with
    |0,a2=>
     simp only[List.getElem?_cons_zero,Option.some.injEq] at a2;subst a2;rw[<-Y,pF,Array.getElem?_map] at Q;cases C:I[i]? with
     |none=>rw[C] at Q;cases Q
     |some y=>
      rw[C] at Q;simp only[Option.map_some,Option.some.injEq] at Q;subst Q;have BH:=(jc.1 C).1;have acV:=(jc.1 C).2;have hu:u=y.enc:=by
       rw[show i*1+0=i by omega] at a3;unfold putCells at a3;rw[Array.getElem?_mapIdx,hr O] at a3;simp only[Option.map_some,Option.some.injEq] at a3;rw[a1 O] at a3;rw[<-a3,Nat.sub_zero,getElem!_pos I i BH,acV]
      subst hu;refine(y.2.1.mono (w':=Sort.ahead w n) ⟨rfl,rfl,rfl,cN _,λ_ _ _=>rfl⟩ λ_ _ h=>h).mono ⟨rfl,rfl,rfl,aX,λkk _ hx=>setRow_other _ _ _ _ λe0=>hx ?_⟩ λ_ _ h=>h;subst e0;exact uq⟩⟩
 rw[kX,s];refine fD.grow ⟨rfl,rfl,rfl,?_,λk hk _=>?_⟩
 ·show _<=(_++os).size;rw[Array.size_append];exact Nat.le_add_right _ _
 show(_++os)[k]? =_;rw[Array.getElem?_append_left hk]
theorem UR(L:SlLaysF.n6 P ρ)(c:tg P g)(k: ∀args w,(callFunc g args).run P w= .ok (.enter g args) w)(a:iV P (ρ.f 6)){x:List (List Int)}{i:Nat}{r:List (List Int)}(h:mo x=some r):
  iQ P G (ρ.f 6) [aE e i 1 (aZ ae) x] [ms 0 i 1 (aZ ae) x,.fn g []] (.bL []) [aE e i 1 (aZ ae) r]:=by
 unfold mo at h;split at h
 ·rename_i d;cases h;exact ZP L c k a x d.1 d.2
 cases h
end sort
end Go.Lift

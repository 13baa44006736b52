/- Tools. -/
import Derived.Test.YtlbojjldejlgaaaGreatVLiftIns
import Derived.Test.YtlbojjldejlgaaaGreatVLiftSq
import Derived.Shelf.SlSortCmp.NoneTotal
set_option linter.unusedVariables false
namespace Go.Lift
open Go Go.Proofs
theorem D4: ∀a,cmpL a a=0
 | []=>rfl
 |x::a=>by unfold cmpL;rw[br O,br O];exact D4 a
theorem y5: ∀b c,cmpL b c<0↔0<cmpL c b
 | [],[]=>by simp[cmpL]
 | [],_::_=>by simp[cmpL]
 |_::_,[]=>by simp[cmpL]
 |x::b,y::c=>by
  unfold cmpL;by_cases a:x<y
  ·rw[bn a,br O,bn a];omega
  by_cases d:y<x
  ·rw[br a,bn d,bn d];omega
  rw[br a,br d,br d,br a];exact y5 b c
theorem yB: ∀{a b},cmpL a b=0->a=b
 | [],[],_=>rfl
 | [],_::_,h=>by simp[cmpL] at h
 |_::_,[],h=>by simp[cmpL] at h
 |x::a,y::b,h=>by
  unfold cmpL at h;by_cases c:x<y
  ·rw[bn c] at h;omega
  by_cases d:y<x
  ·rw[br c,bn d] at h;omega
  rw[br c,br d] at h;rw[yB h,show x=y by omega]
theorem CH: ∀i k l,cmpL i k<0->cmpL k l<0->cmpL i l<0
 | [],[],_,h,_=>by simp[cmpL] at h
 | [],_::_,[],_,h=>by simp[cmpL] at h
 | [],_::_,_::_,_,_=>by simp[cmpL]
 |_::_,[],_,h,_=>by simp[cmpL] at h
 |_::_,_::_,[],_,h=>by simp[cmpL] at h
 |x::i,y::k,z::l,m,e=>by
  unfold cmpL at m e⊢;by_cases a:x<y
  ·by_cases b:y<z
   ·rw[bn O];omega
   by_cases c:z<y
   ·rw[br b,bn c] at e;omega
   rw[bn O];omega
  by_cases b:y<x
  ·rw[br a,bn b] at m;omega
  by_cases c:y<z
  ·rw[bn O];omega
  by_cases d:z<y
  ·rw[br c,bn d] at e;omega
  rw[br O,br O];rw[br a,br b] at m;rw[br c,br d] at e;exact CH i k l m e
structure ps (P:Program) (g:FuncId):Prop where
 both: ∀(cF fG n c b2 iq m d:Nat) (xs ys:List Int) (w:World),xs.length=n->ys.length=m->n<=9223372036854775807->m<=9223372036854775807->(∀j,j<xs.length->w.cell? ⟨cF,fG+j,none⟩=some (.int .i64 (xs.getD j 0)))->
  (∀j,j<ys.length->w.cell? ⟨b2,iq+j,none⟩=some (.int .i64 (ys.getD j 0)))->
  Calls P g #[.slice (some ⟨cF,fG,none⟩) n c,.slice (some ⟨b2,iq,none⟩) m d] w λe w'=>e= .returned (.int .i64 (cmpL xs ys))/\w'=w
 mb: ∀(ay a2:Option Addr) (c m d:Nat) (w:World),m<=9223372036854775807->Calls P g #[.slice ay 0 c,.slice a2 m d] w λe w'=>e= .returned (.int .i64 (if 0<m then-1 else 0))/\w'=w
 H9: ∀(cF fG n c d:Nat) (a2:Option Addr) (x:Int) (w:World),0<n->n<=9223372036854775807->w.cell? ⟨cF,fG,none⟩=some (.int .i64 x)->Calls P g #[.slice (some ⟨cF,fG,none⟩) n c,.slice a2 0 d] w λe w'=>e= .returned (.int .i64 1)/\w'=w
variable {w:World}{X:Nat->Prop}{d:List Int}{v:Value}{g:FuncId}{b:Nat}{G:ef}{e:TypeId}
theorem rr(h:b9 w X (.aa (d.map hU)) v):
  (d=[]/\ ∃a c,v= .slice a 0 c)\/ ∃(b o c:Nat),0<d.length/\v= .slice (some ⟨b,o,none⟩) d.length c/\ ∀j,j<d.length->w.cell? ⟨b,o+j,none⟩=some (.int .i64 (d.getD j 0)):=by
 generalize y:d.map hU=z at h;cases h with
 |eH a i=>exact .inl ⟨by simpa using y,a,i,rfl⟩
 |aa _ b l m i f F G A p D q=>
  subst y;cases d with
  |nil=>exact .inl ⟨rfl,_,_,rfl⟩
  |cons x d=>
   have r:m=1:=by have:=p (hU x) aV;simpa using this.symm
   subst r;refine .inr ⟨b,l,i,aV,aV,λj s=>?_⟩;have B:=D j 0 (by simpa using s) O;have e:(x::d).getD j 0=(x::d)[j]:=by rw[fs,bh s];rfl
   have C:=q j 0 (hU (x::d)[j]) (.int .i64 (x::d)[j]) (by rw[dT,bh s];rfl) rfl;rw[show l+j*1+0=l+j by omega] at B;rw[B,e];generalize f j 0=u at C;cases C with
   |int k n=>rfl
theorem F'{P:Program}(h:ps P g){l:List Int}{u:Value}(z:b9 w X (.aa (d.map hU)) v)(A:b9 w X (.aa (l.map hU)) u)(C:d.length<=1000000000)(D:l.length<=1000000000):
  Calls P g #[v,u] w λe k=>e= .returned (.int .i64 (cmpL d l))/\k=w:=by
 rcases rr z with ⟨rfl,a,c,rfl⟩|⟨b,o,c,m,rfl,n⟩<;>rcases rr A with ⟨rfl,p,i,rfl⟩|⟨q,r,i,s,rfl,B⟩
 ·exact(h.mb a p c 0 i w O).mono (by rintro e k ⟨rfl,rfl⟩;exact⟨rfl,rfl⟩)
 ·refine(h.mb a (some ⟨q,r,none⟩) c l.length i w O).mono ?_;rintro e k ⟨rfl,rfl⟩;cases l with
  |nil=>simp at s
  |cons y l=>exact⟨by rw[bn s];rfl,rfl⟩
 ·refine(h.H9 b o d.length c i p (d.getD 0 0) w m O (n 0 m)).mono ?_;rintro e k ⟨rfl,rfl⟩;cases d with
  |nil=>simp at m
  |cons x d=>exact⟨rfl,rfl⟩
 exact h.both b o d.length c q r l.length i d l w rfl rfl O O n B
section sort
open Go.Shelf Go.RowKit Go.Lib Go.Sort
variable {P:Program}{ρ:Ren}
theorem w6:SWO (ltOf cmpL) where
 irrefl x:=by unfold ltOf;rw[D4];rfl
 trans x y z c b:=by
  unfold ltOf at*;simp only[decide_eq_true_eq] at*;exact CH x y z c b
 ntrans x y z c b:=by
  unfold ltOf at*;simp only[decide_eq_false_iff_not] at*;intro h;by_cases a:cmpL y x<0
  ·exact b (CH y x z a h)
  have e:cmpL x y=0:=by
   have:=y5 y x;omega
  have:=yB e;subst this;exact b h
theorem Py: ∀x y,ltOf cmpL x y=false->ltOf cmpL y x=false->x=y:=λx y a b=>by
 unfold ltOf at*;simp only[decide_eq_false_iff_not] at*
 have:=y5 y x;exact yB O
def dd(w:World)(X:Nat->Prop):Type:={q:Value×List Int // b9 w X (.aa (q.2.map hU)) q.1/\q.2.length<=1000000000}
instance (w:World) (X:Nat->Prop):Inhabited (dd w X):=⟨⟨(.slice none 0 0,[]),.eH none 0,aV⟩⟩
def dd.enc{w:World}{X:Nat->Prop}(x:dd w X):Value:=x.1.1
def dd.bD{w:World}{X:Nat->Prop}(x:dd w X):List Int:=x.1.2
def pO{w:World}{X:Nat->Prop}(x y:dd w X):Int:=cmpL x.bD y.bD
theorem dd.one:OneCell (dd.enc (w:=w) (X:=X)):=λx=>x.2.1.gX
theorem Gg:SWO (ltOf (pO (w:=w) (X:=X))) where
 irrefl x:=w6.irrefl x.bD
 trans x y z:=w6.trans x.bD y.bD z.bD
 ntrans x y z:=w6.ntrans x.bD y.bD z.bD
theorem JV{a:Array Value}{t:TypeId}(d:w.heap[b]? =some (.cells a t (0,0)))(f:Array Value->Array Value):mapBlock w b f=w.setRow b (f a):=by rw[mapBlock_congr w b f (λ_=>f a) λc e AM h=>by rw[d] at h;cases h;rfl];rfl
theorem zE{m:Nat}{dk:Array (dd w X)}{os:Array Obj}(a:X b):Ext X w (sortWorld dd.enc w b 0 m dk os):=by
 refine⟨rfl,rfl,rfl,?_,λk d c=>?_⟩
 ·show w.heap.size<=((putRow dd.enc (Sort.ahead w m) b 0 dk).heap++os).size;rw[Array.size_append,Go.Sort.size_putRow];exact Nat.le_add_right _ _
 show((putRow dd.enc (Sort.ahead w m) b 0 dk).heap++os)[k]? =_;have h:(putRow dd.enc (Sort.ahead w m) b 0 dk).heap.size=w.heap.size:=by rw[Go.Sort.size_putRow];rfl
 rw[Array.getElem?_append_left O];show((Sort.ahead w m).heap.modify b _)[k]? =_;rw[Array.getElem?_modify,br λe:b=k=>c (e▸a)];rfl
theorem Ej{d a:Array (dd w X)}(b:PermIn 0 d.size d a)(k:SortedIn (ltOf pO) 0 d.size a):(a.map dd.bD).toList=d0 (d.map dd.bD).toList:=by
 refine sorted_unique_holds w6 Py (d.map dd.bD) (a.map dd.bD) ⟨by simpa using b.1,λi l=>?_,?_⟩ λi j c m n=>?_
 ·have q:d.size<=i:=by
   rcases l with h|h
   ·omega
   simpa using h
  have c:=b.1;rw[getElem!_neg _ _ b1,getElem!_neg _ _ b1]
 ·have c:=b.2.2;have o:(a.map dd.bD).extract 0 (d.map dd.bD).size=(a.extract 0 d.size).map dd.bD:=aV
  have p:(d.map dd.bD).extract 0 (d.map dd.bD).size=(d.extract 0 d.size).map dd.bD:=aV
  rw[o,p,q9,q9];exact c.map _
 have jn:=b.1;have e:j<d.size:=by simpa using n
 have:=k i j c m e;rw[getElem!_pos a j O,getElem!_pos a i O] at this;rw[getElem!_pos _ j b1,getElem!_pos _ i b1,Array.getElem_map,Array.getElem_map];exact this
theorem Rg(L:SlLaysF.n6 P ρ)(raw:ps P g)(AA: ∀args w,(callFunc g args).run P w= .ok (.enter g args) w)(M:hP P (ρ.f 6)){q:Nat}(rows:List (List Int))(cn:rows.length<=1000000000)(ch: ∀l∈rows,l.length<=1000000000):
  gO P G (ρ.f 6) [aW e q 1 (aK U) rows] [ms 0 q 1 (aK U) rows,.fn g []] (.bG []) [aW e q 1 (aK U) (d0 rows)]:=by
 refine⟨M,?_⟩;intro w X p N iH e8 sw fE;have oG:N.length=2:=fE.length;obtain⟨iy,kp,rfl⟩: ∃a b,N=[a,b]:=by
  match N,oG with
  | [a,b],_=>exact⟨a,b,rfl⟩
 have R:=Rel.kQ (P:=P) (nt:=2) iH e8 sw fE (cL _);obtain⟨S,sF,_⟩:=fE;obtain rfl:kp= .func (.func g) #[] #[]:=by
  cases sF with
  |fn _ _ N T _=>
   have:N= #[]:=Ch T;rw[this]
 generalize Hb:({tmps:=[iy,Value.func (.func g) #[] #[]].toArray++Array.replicate (2-[iy,Value.func (.func g) #[] #[]].toArray.size) undef,defers:=[]}:Act)=V at R;generalize mR:Ctx.ec P G w X [aW e q 1 (aK U) rows].length p 2=K at R;have sp:K.X=X:=by rw[<-mR];rfl
 generalize k8:Lift.kQ [aW e q 1 (aK U) rows] [ms 0 q 1 (aK U) rows,.fn g []]=r at R;have v:r.H 0=some (aW e q 1 (aK U) rows):=by rw[<-k8];rfl
 have Y:r.H=dy [aW e q 1 (aK U) rows] 0:=by rw[<-k8];rfl
 have Bd:own K p r.H=fS X p (dy [aW e q 1 (aK U) rows] 0):=by funext b;rw[Y];show(K.X b\/_)=_;rw[sp];rfl
 rw[<-Bd] at S;have so:aE r.H 0 (some (aW e q 1 (aK U) (d0 rows)))=dy [aW e q 1 (aK U) (d0 rows)] 0:=by
  rw[Y];funext j
  match j with
  |0=>rfl
  |j+1=>rfl
 have fin: ∀(w':World),Rel K p {r with H:=aE r.H 0 (some (aW e q 1 (aK U) (d0 rows)))} V w'->
   ∃u,∃_i:Unit,∃β,Ending.returned (.tuple #[])= .returned u/\True/\Left p β [aW e q 1 (aK U) rows] [aW e q 1 (aK U) (d0 rows)] w w' X (.bG []) u:=by
  intro w' bH;subst mR;obtain⟨β,sJ⟩:=Cb (out:=[aW e q 1 (aK U) (d0 rows)]) bH (cL _) (.bG [] #[] rfl λi c u bl _=>by simp at bl) rfl (by
   intro id e0 W;refine⟨⟨e0,?_,hF.refl _⟩,?_⟩
   ·show aE r.H 0 _ id=_;rw[so];exact W
   match id with
   |0=>cases W;exact⟨rfl,rfl⟩
   |k+1=>cases W)
  exact⟨_,(),β,rfl,trivial,sJ⟩
 have hl:=(R.heap 0 _ v).2.1;have rO:=RL (R.heap 0 _ v).2 S;have C:r.H 0≠none:=by rw[v];simp
 rcases rO with ⟨rfl,h1,cK⟩|⟨b,cap,o,rfl,cK,z,kF,lX,vG,bH⟩
 ·have l0:rows=[]:=by simpa using h1
  subst l0;refine(AnyF.slices_SortFunc_none (P:=P) (ρ:=ρ) {L with} none 0 _ w).mono ?_;rintro e1 jE ⟨rfl,rfl⟩;refine fin _ ?_
  have:=R.tB 0 _ v;rw[show d0 []=[] by simp[d0]];exact this
 have qp:own K p r.H b:= .inr ⟨0,C,.inl ⟨_,cK⟩⟩;have hlen:rows.length<=o.size:=by
  rw[kF];simpa using lX
 have jm: ∀(j:Nat) (t:j<rows.length),b9 w (own K p r.H) (.aa (rows[j].map hU)) (o[j]' O):=λj t=>
  bH j 0 (aK U rows[j]) (.aa (rows[j].map hU)) _ (by rw[dT,bh t];rfl) rfl (by
   rw[fJ,bn b1];rw[show j*1+0=j by omega,mj,f' O])
 obtain⟨F,AO,AP⟩: ∃F:Fin rows.length->dd w (own K p r.H),(∀j,(F j).enc=o[j.1]'(by have:=j.2;omega))/\ ∀j,(F j).bD=rows[j.1]:=
  ⟨λj=>⟨(o[j.1]'(by have:=j.2;omega),rows[j.1]),jm j.1 j.2,ch _ (ft j.2)⟩,λ_=>rfl,λ_=>rfl⟩
 obtain⟨d,cA⟩: ∃d:Array (dd w (own K p r.H)),d=Array.ofFn F:=⟨_,rfl⟩
 have A:d.size=rows.length:=by rw[cA];exact Array.size_ofFn
 have Hn: ∀(j:Nat) (t:j<d.size),d[j].enc=o[j]' O/\d[j].bD=rows[j]' O:=λj t=>by
  subst cA;rw[Array.getElem_ofFn];exact⟨AO _,AP _⟩
 have A0:(d.map dd.bD).toList=rows:=by
  refine List.ext_getElem (by simp[A]) λj h1 h2=>?_;rw[Array.getElem_toList,Array.getElem_map];exact(Hn j O).2
 have hH:Holds dd.enc w b 0 d:=λj t=>by
  rw[dn,getElem!_pos d j t,(Hn j t).1];refine⟨?_,by simp[World.frozen?,z]⟩
  have:j<o.size:=O
  simp[World.cell?,z,this]
 have oD:CmpLays1 P g #[] dd.enc pO b 0 d.size w:=CmpReads.lays (λm os dk T x y=>by
  have hh:=zE (w:=w) (X:=own K p r.H) (b:=b) (m:=m) (dk:=dk) (os:=os) qp;exact(F' raw (x.2.1.mono hh λ_ _ h=>h) (y.2.1.mono hh λ_ _ h=>h) x.2.2 y.2.2).mono (by
   rintro e1 jE ⟨rfl,rfl⟩;exact⟨rfl,0,rfl⟩))
 have run:=Any.slices_SortFunc L dd.enc dd.one pO Gg g #[] b 0 cap d w AA oD hH (gw.1 z).1 O;rw[A] at run;rw[dL];refine run.mono ?_;rintro e1 jE ⟨rfl,D,n,os,hp,T,k'⟩;rw[<-A] at hp T;refine fin _ ?_;have E:=Ej hp T;rw[A0] at E;have XV:D.size=rows.length:=by rw[hp.1,A]
 have I:(Sort.ahead w n).heap[b]? =some (.cells o e (0,0)):=z;have s:sortWorld dd.enc w b 0 n D os=grow ((Sort.ahead w n).setRow b (putCells dd.enc 0 D o)) os:=by
  show grow (putRow dd.enc (Sort.ahead w n) b 0 D) os=_;congr 1;exact JV I _
 have hCs:(putCells dd.enc 0 D o).size=o.size:=by simp[putCells]
 have qo:Rel K p r V (Sort.ahead w n):=R.grow ⟨rfl,rfl,rfl,cL _,λ_ _ _=>rfl⟩;have fy:=qo.setRow 0 b (.inl ⟨_,cK⟩) o e I (putCells dd.enc 0 D o) hCs (aW e q 1 (aK U) (d0 rows)) C
  ⟨hl,Or.inr ⟨b,_,cK,setRow_heap _ _ _ _ _ _ I,by
   rw[hCs,dL,<-E,kS,Array.size_map];omega,λrow s=>by
    obtain⟨l,_,rfl⟩:=fY.1 s;rfl,λi j row x u ay a2 a3=>by
   rw[dT] at ay;cases Q:(d0 rows)[i]? with
   |none=>rw[Q] at ay;cases ay
   |some l=>
    rw[Q] at ay;simp only[Option.map_some,Option.some.injEq] at ay;subst ay
    match j,a2 with
    |0,a2=>
     simp only[List.getElem?_cons_zero,Option.some.injEq] at a2;subst a2;rw[<-E,mj,Array.getElem?_map] at Q;cases B:D[i]? with
     |none=>rw[B] at Q;cases Q
     |some y=>
      rw[B] at Q;simp only[Option.map_some,Option.some.injEq] at Q;subst Q;have A2:=(gw.1 B).1;have UY:=(gw.1 B).2;have hu:u=y.enc:=by
       rw[show i*1+0=i by omega] at a3;unfold putCells at a3;rw[Array.getElem?_mapIdx,f' O] at a3;simp only[Option.map_some,Option.some.injEq] at a3;rw[bn O] at a3;rw[<-a3,Nat.sub_zero,getElem!_pos D i A2,UY]
      subst hu;refine(y.2.1.mono (w':=Sort.ahead w n) ⟨rfl,rfl,rfl,cL _,λ_ _ _=>rfl⟩ λ_ _ h=>h).mono ⟨rfl,rfl,rfl,aV,λkk _ hx=>setRow_other _ _ _ _ λe0=>hx ?_⟩ λ_ _ h=>h;subst e0;exact qp⟩⟩
 rw[k',s];refine fy.grow ⟨rfl,rfl,rfl,?_,λk hk _=>?_⟩
 ·show _<=(_++os).size;rw[Array.size_append];exact Nat.le_add_right _ _
 show(_++os)[k]? =_;rw[Array.getElem?_append_left hk]
theorem Nw(L:SlLaysF.n6 P ρ)(b:ps P g)(d: ∀args w,(callFunc g args).run P w= .ok (.enter g args) w)(a:hP P (ρ.f 6)){x:List (List Int)}{i:Nat}{r:List (List Int)}(h:ka x=some r):
  gO P G (ρ.f 6) [aW e i 1 (aK U) x] [ms 0 i 1 (aK U) x,.fn g []] (.bG []) [aW e i 1 (aK U) r]:=by
 unfold ka at h;split at h
 ·rename_i c;cases h;exact Rg L b d a x c.1 c.2
 cases h
end sort
end Go.Lift

/- Tools. -/
import Derived.Test.YtfegpkfpnpjgeaaGreatBLiftIns
import Derived.Test.YtfegpkfpnpjgeaaGreatBLiftSq
import Derived.Shelf.SlSortCmp.NoneTotal
set_option linter.unusedVariables false
namespace Go.Lift
open Go Go.Proofs
theorem MI: ∀a,cmpL a a=0
 | []=>rfl
 |x::a=>by unfold cmpL;rw[aZ O,aZ O];exact MI a
theorem FY: ∀c d,cmpL c d<0↔0<cmpL d c
 | [],[]=>by simp[cmpL]
 | [],_::_=>by simp[cmpL]
 |_::_,[]=>by simp[cmpL]
 |x::c,y::d=>by
  unfold cmpL;by_cases a:x<y
  ·rw[a1 a,aZ O,a1 a];omega
  by_cases e:y<x
  ·rw[aZ a,a1 e,a1 e];omega
  rw[aZ a,aZ e,aZ e,aZ a];exact FY c d
theorem Fz: ∀{a c},cmpL a c=0->a=c
 | [],[],_=>rfl
 | [],_::_,h=>by simp[cmpL] at h
 |_::_,[],h=>by simp[cmpL] at h
 |x::a,y::c,h=>by
  unfold cmpL at h;by_cases d:x<y
  ·rw[a1 d] at h;omega
  by_cases e:y<x
  ·rw[aZ d,a1 e] at h;omega
  rw[aZ d,aZ e] at h;rw[Fz h,show x=y by omega]
theorem EW: ∀i k l,cmpL i k<0->cmpL k l<0->cmpL i l<0
 | [],[],_,h,_=>by simp[cmpL] at h
 | [],_::_,[],_,h=>by simp[cmpL] at h
 | [],_::_,_::_,_,_=>by simp[cmpL]
 |_::_,[],_,h,_=>by simp[cmpL] at h
 |_::_,_::_,[],_,h=>by simp[cmpL] at h
 |x::i,y::k,z::l,m,e=>by
  unfold cmpL at m e⊢;by_cases a:x<y
  ·by_cases b:y<z
   ·rw[a1 O];omega
   by_cases c:z<y
   ·rw[aZ b,a1 c] at e;omega
   rw[a1 O];omega
  by_cases b:y<x
  ·rw[aZ a,a1 b] at m;omega
  by_cases c:y<z
  ·rw[a1 O];omega
  by_cases d:z<y
  ·rw[aZ c,a1 d] at e;omega
  rw[aZ O,aZ O];rw[aZ a,aZ b] at m;rw[aZ c,aZ d] at e;exact EW i k l m e
structure tF (P:Program) (g:FuncId):Prop where
 both: ∀(cQ hl n c cd gW m d:Nat) (xs ys:List Int) (w:World),xs.length=n->ys.length=m->n<=9223372036854775807->m<=9223372036854775807->(∀j,j<xs.length->w.cell? ⟨cQ,hl+j,none⟩=some (.int .i64 (xs.getD j 0)))->
  (∀j,j<ys.length->w.cell? ⟨cd,gW+j,none⟩=some (.int .i64 (ys.getD j 0)))->
  Calls P g #[.slice (some ⟨cQ,hl,none⟩) n c,.slice (some ⟨cd,gW,none⟩) m d] w λe w'=>e= .returned (.int .i64 (cmpL xs ys))/\w'=w
 pD: ∀(aI a2:Option Addr) (c m d:Nat) (w:World),m<=9223372036854775807->Calls P g #[.slice aI 0 c,.slice a2 m d] w λe w'=>e= .returned (.int .i64 (if 0<m then-1 else 0))/\w'=w
 QW: ∀(cQ hl n c d:Nat) (a2:Option Addr) (x:Int) (w:World),0<n->n<=9223372036854775807->w.cell? ⟨cQ,hl,none⟩=some (.int .i64 x)->Calls P g #[.slice (some ⟨cQ,hl,none⟩) n c,.slice a2 0 d] w λe w'=>e= .returned (.int .i64 1)/\w'=w
variable {w:World}{X:Nat->Prop}{d:List Int}{v:Value}{g:FuncId}{b:Nat}{G:eY}{e:TypeId}
theorem wS(h:cP w X (.aA (d.map im)) v):
  (d=[]/\ ∃a c,v= .slice a 0 c)\/ ∃(b o c:Nat),0<d.length/\v= .slice (some ⟨b,o,none⟩) d.length c/\ ∀j,j<d.length->w.cell? ⟨b,o+j,none⟩=some (.int .i64 (d.getD j 0)):=by
 generalize y:d.map im=z at h;cases h with
 |fI a i=>exact .inl ⟨by simpa using y,a,i,rfl⟩
 |aA _ b l m i f G H A p F q=>
  subst y;cases d with
  |nil=>exact .inl ⟨rfl,_,_,rfl⟩
  |cons x d=>
   have r:m=1:=by have:=p (im x) aP;simpa using this.symm
   subst r;refine .inr ⟨b,l,i,aP,aP,λj s=>?_⟩;have B:=F j 0 (by simpa using s) O;have e:(x::d).getD j 0=(x::d)[j]:=by rw[eL,bo s];rfl
   have C:=q j 0 (im (x::d)[j]) (.int .i64 (x::d)[j]) (by rw[ev,bo s];rfl) rfl;rw[show l+j*1+0=l+j by omega] at B;rw[B,e];generalize f j 0=u at C;cases C with
   |int k n=>rfl
theorem OS{P:Program}(h:tF P g){l:List Int}{u:Value}(z:cP w X (.aA (d.map im)) v)(A:cP w X (.aA (l.map im)) u)(C:d.length<=1000000000)(F:l.length<=1000000000):
  Calls P g #[v,u] w λe k=>e= .returned (.int .i64 (cmpL d l))/\k=w:=by
 rcases wS z with ⟨rfl,a,c,rfl⟩|⟨b,o,c,m,rfl,n⟩<;>rcases wS A with ⟨rfl,p,i,rfl⟩|⟨q,r,i,s,rfl,B⟩
 ·exact(h.pD a p c 0 i w O).mono (by rintro e k ⟨rfl,rfl⟩;exact⟨rfl,rfl⟩)
 ·refine(h.pD a (some ⟨q,r,none⟩) c l.length i w O).mono ?_;rintro e k ⟨rfl,rfl⟩;cases l with
  |nil=>simp at s
  |cons y l=>exact⟨by rw[a1 s];rfl,rfl⟩
 ·refine(h.QW b o d.length c i p (d.getD 0 0) w m O (n 0 m)).mono ?_;rintro e k ⟨rfl,rfl⟩;cases d with
  |nil=>simp at m
  |cons x d=>exact⟨rfl,rfl⟩
 exact h.both b o d.length c q r l.length i d l w rfl rfl O O n B
section sort
open Go.Shelf Go.RowKit Go.Lib Go.Sort
variable {P:Program}{ρ:Ren}
theorem Di:SWO (ltOf cmpL) where
 irrefl x:=by unfold ltOf;rw[MI];rfl
 trans x y z d c:=by
  unfold ltOf at*;simp only[decide_eq_true_eq] at*;exact EW x y z d c
 ntrans x y z d c:=by
  unfold ltOf at*;simp only[decide_eq_false_iff_not] at*;intro h;by_cases a:cmpL y x<0
  ·exact c (EW y x z a h)
  have e:cmpL x y=0:=by
   have:=FY y x;omega
  have:=Fz e;subst this;exact c h
theorem Zs: ∀x y,ltOf cmpL x y=false->ltOf cmpL y x=false->x=y:=λx y a c=>by
 unfold ltOf at*;simp only[decide_eq_false_iff_not] at*
 have:=FY y x;exact Fz O
def dI(w:World)(X:Nat->Prop):Type:={q:Value×List Int // cP w X (.aA (q.2.map im)) q.1/\q.2.length<=1000000000}
instance (w:World) (X:Nat->Prop):Inhabited (dI w X):=⟨⟨(.slice none 0 0,[]),.fI none 0,aP⟩⟩
def dI.enc{w:World}{X:Nat->Prop}(x:dI w X):Value:=x.1.1
def dI.bS{w:World}{X:Nat->Prop}(x:dI w X):List Int:=x.1.2
def uq{w:World}{X:Nat->Prop}(x y:dI w X):Int:=cmpL x.bS y.bS
theorem dI.one:OneCell (dI.enc (w:=w) (X:=X)):=λx=>x.2.1.iR
theorem O6:SWO (ltOf (uq (w:=w) (X:=X))) where
 irrefl x:=Di.irrefl x.bS
 trans x y z:=Di.trans x.bS y.bS z.bS
 ntrans x y z:=Di.ntrans x.bS y.bS z.bS
theorem Kw{a:Array Value}{t:TypeId}(d:w.heap[b]? =some (.cells a t (0,0)))(f:Array Value->Array Value):mapBlock w b f=w.setRow b (f a):=by rw[mapBlock_congr w b f (λ_=>f a) λc e HQ h=>by rw[d] at h;cases h;rfl];rfl
theorem GH{m:Nat}{dk:Array (dI w X)}{os:Array Obj}(a:X b):Ext X w (sortWorld dI.enc w b 0 m dk os):=by
 refine⟨rfl,rfl,rfl,?_,λk d c=>?_⟩
 ·show w.heap.size<=((putRow dI.enc (Sort.ahead w m) b 0 dk).heap++os).size;rw[Array.size_append,Go.Sort.size_putRow];exact Nat.le_add_right _ _
 show((putRow dI.enc (Sort.ahead w m) b 0 dk).heap++os)[k]? =_;have h:(putRow dI.enc (Sort.ahead w m) b 0 dk).heap.size=w.heap.size:=by rw[Go.Sort.size_putRow];rfl
 rw[Array.getElem?_append_left O];show((Sort.ahead w m).heap.modify b _)[k]? =_;rw[Array.getElem?_modify,aZ λe:b=k=>c (e▸a)];rfl
theorem Mq{d a:Array (dI w X)}(c:PermIn 0 d.size d a)(l:SortedIn (ltOf uq) 0 d.size a):(a.map dI.bS).toList=fb (d.map dI.bS).toList:=by
 refine sorted_unique_holds Di Zs (d.map dI.bS) (a.map dI.bS) ⟨by simpa using c.1,λi m=>?_,?_⟩ λi j e n o=>?_
 ·have r:d.size<=i:=by
   rcases m with h|h
   ·omega
   simpa using h
  have e:=c.1;rw[getElem!_neg _ _ bN,getElem!_neg _ _ bN]
 ·have e:=c.2.2;have p:(a.map dI.bS).extract 0 (d.map dI.bS).size=(a.extract 0 d.size).map dI.bS:=aP
  have q:(d.map dI.bS).extract 0 (d.map dI.bS).size=(d.extract 0 d.size).map dI.bS:=aP
  rw[p,q,vS,vS];exact e.map _
 have k3:=c.1;have k:j<d.size:=by simpa using o
 have:=l i j e n k;rw[getElem!_pos a j O,getElem!_pos a i O] at this;rw[getElem!_pos _ j bN,getElem!_pos _ i bN,Array.getElem_map,Array.getElem_map];exact this
theorem aa8(L:SlLaysF.n6 P ρ)(raw:tF P g)(HJ: ∀args w,(callFunc g args).run P w= .ok (.enter g args) w)(N:ig P (ρ.f 6)){q:Nat}(rows:List (List Int))(cy:rows.length<=1000000000)(b8: ∀l∈rows,l.length<=1000000000):
  jb P G (ρ.f 6) [az e q 1 (aW I) rows] [ms 0 q 1 (aW I) rows,.fn g []] (.bH []) [az e q 1 (aW I) (fb rows)]:=by
 refine⟨N,?_⟩;intro w X p S kY gp kA fP;have sx:S.length=2:=fP.length;obtain⟨hV,e5,rfl⟩: ∃a b,S=[a,b]:=by
  match S,sx with
  | [a,b],_=>exact⟨a,b,rfl⟩
 have t:=Rel.lY (P:=P) (nt:=2) kY gp kA fP (cJ _);obtain⟨T,sJ,_⟩:=fP;obtain rfl:e5= .func (.func g) #[] #[]:=by
  cases sJ with
  |fn _ _ S U _=>
   have:S= #[]:=JE U;rw[this]
 generalize H4:({tmps:=[hV,Value.func (.func g) #[] #[]].toArray++Array.replicate (2-[hV,Value.func (.func g) #[] #[]].toArray.size) undef,defers:=[]}:Act)=V at t;generalize kv:Ctx.dC P G w X [az e q 1 (aW I) rows].length p 2=K at t;have ss:K.X=X:=by rw[<-kv];rfl
 generalize kZ:Lift.lY [az e q 1 (aW I) rows] [ms 0 q 1 (aW I) rows,.fn g []]=r at t;have z:r.H 0=some (az e q 1 (aW I) rows):=by rw[<-kZ];rfl
 have Y:r.H=eN [az e q 1 (aW I) rows] 0:=by rw[<-kZ];rfl
 have xZ:own K p r.H=lW X p (eN [az e q 1 (aW I) rows] 0):=by funext b;rw[Y];show(K.X b\/_)=_;rw[ss];rfl
 rw[<-xZ] at T;have sr:aS r.H 0 (some (az e q 1 (aW I) (fb rows)))=eN [az e q 1 (aW I) (fb rows)] 0:=by
  rw[Y];funext j
  match j with
  |0=>rfl
  |j+1=>rfl
 have fin: ∀(w':World),Rel K p {r with H:=aS r.H 0 (some (az e q 1 (aW I) (fb rows)))} V w'->
   ∃u,∃_i:Unit,∃β,Ending.returned (.tuple #[])= .returned u/\True/\Left p β [az e q 1 (aW I) rows] [az e q 1 (aW I) (fb rows)] w w' X (.bH []) u:=by
  intro w' bR;subst kv;obtain⟨β,sL⟩:=DM (out:=[az e q 1 (aW I) (fb rows)]) bR (cJ _) (.bH [] #[] rfl λi c u bG _=>by simp at bG) rfl (by
   intro id e0 v;refine⟨⟨e0,?_,ju.refl _⟩,?_⟩
   ·show aS r.H 0 _ id=_;rw[sr];exact v
   match id with
   |0=>cases v;exact⟨rfl,rfl⟩
   |k+1=>cases v)
  exact⟨_,(),β,rfl,trivial,sL⟩
 have iL:=(t.heap 0 _ z).2.1;have o7:=Gk (t.heap 0 _ z).2 T;have Q:r.H 0≠none:=by rw[z];simp
 rcases o7 with ⟨rfl,h1,hq⟩|⟨b,cap,o,rfl,hq,A,k0,po,Ce,bR⟩
 ·have pr:rows=[]:=by simpa using h1
  subst pr;refine(AnyF.slices_SortFunc_none (P:=P) (ρ:=ρ) {L with} none 0 _ w).mono ?_;rintro e1 fp ⟨rfl,rfl⟩;refine fin _ ?_
  have:=t.yO 0 _ z;rw[show fb []=[] by simp[fb]];exact this
 have uO:own K p r.H b:= .inr ⟨0,Q,.inl ⟨_,hq⟩⟩;have hlen:rows.length<=o.size:=by
  rw[k0];simpa using po
 have lP: ∀(j:Nat) (D:j<rows.length),cP w (own K p r.H) (.aA (rows[j].map im)) (o[j]' O):=λj D=>
  bR j 0 (aW I rows[j]) (.aA (rows[j].map im)) _ (by rw[ev,bo D];rfl) rfl (by
   rw[fS,a1 bN];rw[show j*1+0=j by omega,pW,hr O])
 obtain⟨F,sp,sq⟩: ∃F:Fin rows.length->dI w (own K p r.H),(∀j,(F j).enc=o[j.1]'(by have:=j.2;omega))/\ ∀j,(F j).bS=rows[j.1]:=
  ⟨λj=>⟨(o[j.1]'(by have:=j.2;omega),rows[j.1]),lP j.1 j.2,b8 _ (fJ j.2)⟩,λ_=>rfl,λ_=>rfl⟩
 obtain⟨d,cu⟩: ∃d:Array (dI w (own K p r.H)),d=Array.ofFn F:=⟨_,rfl⟩
 have B:d.size=rows.length:=by rw[cu];exact Array.size_ofFn
 have Qg: ∀(j:Nat) (D:j<d.size),d[j].enc=o[j]' O/\d[j].bS=rows[j]' O:=λj D=>by
  subst cu;rw[Array.getElem_ofFn];exact⟨sp _,sq _⟩
 have nw:(d.map dI.bS).toList=rows:=by
  refine List.ext_getElem (by simp[B]) λj h1 h2=>?_;rw[Array.getElem_toList,Array.getElem_map];exact(Qg j O).2
 have hH:Holds dI.enc w b 0 d:=λj D=>by
  rw[dt,getElem!_pos d j D,(Qg j D).1];refine⟨?_,by simp[World.frozen?,A]⟩
  have:j<o.size:=O
  simp[World.cell?,A,this]
 have sv:CmpLays1 P g #[] dI.enc uq b 0 d.size w:=CmpReads.lays (λm os dk U x y=>by
  have hE:=GH (w:=w) (X:=own K p r.H) (b:=b) (m:=m) (dk:=dk) (os:=os) uO;exact(OS raw (x.2.1.mono hE λ_ _ h=>h) (y.2.1.mono hE λ_ _ h=>h) x.2.2 y.2.2).mono (by
   rintro e1 fp ⟨rfl,rfl⟩;exact⟨rfl,0,rfl⟩))
 have run:=Any.slices_SortFunc L dI.enc dI.one uq O6 g #[] b 0 cap d w HJ sv hH (js.1 A).1 O;rw[B] at run;rw[dn];refine run.mono ?_;rintro e1 fp ⟨rfl,R,n,os,hp,U,k4⟩;rw[<-B] at hp U;refine fin _ ?_;have E:=Mq hp U;rw[nw] at E;have ahz:R.size=rows.length:=by rw[hp.1,B]
 have M:(Sort.ahead w n).heap[b]? =some (.cells o e (0,0)):=A;have s:sortWorld dI.enc w b 0 n R os=grow ((Sort.ahead w n).setRow b (putCells dI.enc 0 R o)) os:=by
  show grow (putRow dI.enc (Sort.ahead w n) b 0 R) os=_;congr 1;exact Kw M _
 have hCs:(putCells dI.enc 0 R o).size=o.size:=by simp[putCells]
 have lM:Rel K p r V (Sort.ahead w n):=t.grow ⟨rfl,rfl,rfl,cJ _,λ_ _ _=>rfl⟩;have dm:=lM.setRow 0 b (.inl ⟨_,hq⟩) o e M (putCells dI.enc 0 R o) hCs (az e q 1 (aW I) (fb rows)) Q
  ⟨iL,Or.inr ⟨b,_,hq,setRow_heap _ _ _ _ _ _ M,by
   rw[hCs,dn,<-E,oU,Array.size_map];omega,λrow s=>by
    obtain⟨l,_,rfl⟩:=ey.1 s;rfl,λi j row x u aI a2 a3=>by
   rw[ev] at aI;cases W:(fb rows)[i]? with
   |none=>rw[W] at aI;cases aI
   |some l=>
    rw[W] at aI;simp only[Option.map_some,Option.some.injEq] at aI;subst aI
    match j,a2 with
    |0,a2=>
     simp only[List.getElem?_cons_zero,Option.some.injEq] at a2;subst a2;rw[<-E,pW,Array.getElem?_map] at W;cases C:R[i]? with
     |none=>rw[C] at W;cases W
     |some y=>
      rw[C] at W;simp only[Option.map_some,Option.some.injEq] at W;subst W;have Cc:=(js.1 C).1;have aep:=(js.1 C).2;have hu:u=y.enc:=by
       rw[show i*1+0=i by omega] at a3;unfold putCells at a3;rw[Array.getElem?_mapIdx,hr O] at a3;simp only[Option.map_some,Option.some.injEq] at a3;rw[a1 O] at a3;rw[<-a3,Nat.sub_zero,getElem!_pos R i Cc,aep]
      subst hu;refine(y.2.1.mono (w':=Sort.ahead w n) ⟨rfl,rfl,rfl,cJ _,λ_ _ _=>rfl⟩ λ_ _ h=>h).mono ⟨rfl,rfl,rfl,aP,λkk _ hx=>setRow_other _ _ _ _ λe0=>hx ?_⟩ λ_ _ h=>h;subst e0;exact uO⟩⟩
 rw[k4,s];refine dm.grow ⟨rfl,rfl,rfl,?_,λk hk _=>?_⟩
 ·show _<=(_++os).size;rw[Array.size_append];exact Nat.le_add_right _ _
 show(_++os)[k]? =_;rw[Array.getElem?_append_left hk]
theorem Wl(L:SlLaysF.n6 P ρ)(c:tF P g)(i: ∀args w,(callFunc g args).run P w= .ok (.enter g args) w)(a:ig P (ρ.f 6)){x:List (List Int)}{n:Nat}{r:List (List Int)}(h:mD x=some r):
  jb P G (ρ.f 6) [az e n 1 (aW I) x] [ms 0 n 1 (aW I) x,.fn g []] (.bH []) [az e n 1 (aW I) r]:=by
 unfold mD at h;split at h
 ·rename_i d;cases h;exact aa8 L c i a x d.1 d.2
 cases h
end sort
end Go.Lift

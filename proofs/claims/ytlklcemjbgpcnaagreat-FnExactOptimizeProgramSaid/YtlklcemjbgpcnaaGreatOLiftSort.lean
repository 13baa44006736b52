/- Tools. -/
import Derived.Test.YtlklcemjbgpcnaaGreatOLiftIns
import Derived.Test.YtlklcemjbgpcnaaGreatOLiftSq
import Derived.Shelf.SlSortCmp.NoneTotal
set_option linter.unusedVariables false
namespace Go.Lift
open Go Go.Proofs
open Option renaming some -> aa, none -> aj, map_some -> gS
theorem Og: ∀a,cmpL a a=0
 | []=>rfl
 |x::a=>by unfold cmpL;rw[a8 O,a8 O];exact Og a
theorem HG: ∀b c,cmpL b c<0↔0<cmpL c b
 | [],[]=>by simp[cmpL]
 | [],_::_=>by simp[cmpL]
 |_::_,[]=>by simp[cmpL]
 |x::b,y::c=>by
  unfold cmpL;by_cases a:x<y
  ·rw[bb a,a8 O,bb a];omega
  by_cases d:y<x
  ·rw[a8 a,bb d,bb d];omega
  rw[a8 a,a8 d,a8 d,a8 a];exact HG b c
theorem G0: ∀{a b},cmpL a b=0->a=b
 | [],[],_=>rfl
 | [],_::_,h=>by simp[cmpL] at h
 |_::_,[],h=>by simp[cmpL] at h
 |x::a,y::b,h=>by
  unfold cmpL at h;by_cases c:x<y
  ·rw[bb c] at h;omega
  by_cases d:y<x
  ·rw[a8 c,bb d] at h;omega
  rw[a8 c,a8 d] at h;rw[G0 h,show x=y by omega]
theorem Gl: ∀i k l,cmpL i k<0->cmpL k l<0->cmpL i l<0
 | [],[],_,h,_=>by simp[cmpL] at h
 | [],_::_,[],_,h=>by simp[cmpL] at h
 | [],_::_,_::_,_,_=>by simp[cmpL]
 |_::_,[],_,h,_=>by simp[cmpL] at h
 |_::_,_::_,[],_,h=>by simp[cmpL] at h
 |x::i,y::k,z::l,m,e=>by
  unfold cmpL at m e⊢;by_cases a:x<y
  ·by_cases b:y<z
   ·rw[bb O];omega
   by_cases c:z<y
   ·rw[a8 b,bb c] at e;omega
   rw[bb O];omega
  by_cases b:y<x
  ·rw[a8 a,bb b] at m;omega
  by_cases c:y<z
  ·rw[bb O];omega
  by_cases d:z<y
  ·rw[a8 c,bb d] at e;omega
  rw[a8 O,a8 O];rw[a8 a,a8 b] at m;rw[a8 c,a8 d] at e;exact Gl i k l m e
structure uC (P:Program) (g:FuncId):Prop where
 both: ∀(dd hY n c cB hF m d:Nat) (xs ys:List Int) (w:World),xs.length=n->ys.length=m->n<=9223372036854775807->m<=9223372036854775807->(∀j,j<xs.length->w.cell? ⟨dd,hY+j,aj⟩=aa (.int .i64 (xs.getD j 0)))->
  (∀j,j<ys.length->w.cell? ⟨cB,hF+j,aj⟩=aa (.int .i64 (ys.getD j 0)))->
  Calls P g #[.slice (aa ⟨dd,hY,aj⟩) n c,.slice (aa ⟨cB,hF,aj⟩) m d] w λe w'=>e= .returned (.int .i64 (cmpL xs ys))/\w'=w
 qb: ∀(aL a2:Option Addr) (c m d:Nat) (w:World),m<=9223372036854775807->Calls P g #[.slice aL 0 c,.slice a2 m d] w λe w'=>e= .returned (.int .i64 (if 0<m then-1 else 0))/\w'=w
 Td: ∀(dd hY n c d:Nat) (a2:Option Addr) (x:Int) (w:World),0<n->n<=9223372036854775807->w.cell? ⟨dd,hY,aj⟩=aa (.int .i64 x)->Calls P g #[.slice (aa ⟨dd,hY,aj⟩) n c,.slice a2 0 d] w λe w'=>e= .returned (.int .i64 1)/\w'=w
variable {w:World}{X:Nat->Prop}{d:List Int}{v:Value}{g:FuncId}{b:Nat}{G:fe}{e:TypeId}
theorem x3(h:cV w X (.bE (d.map iJ)) v):
  (d=[]/\ ∃a c,v= .slice a 0 c)\/ ∃(b o c:Nat),0<d.length/\v= .slice (aa ⟨b,o,aj⟩) d.length c/\ ∀j,j<d.length->w.cell? ⟨b,o+j,aj⟩=aa (.int .i64 (d.getD j 0)):=by
 generalize y:d.map iJ=z at h;cases h with
 |fW a i=>exact .inl ⟨by simpa using y,a,i,rfl⟩
 |bE _ b l m i f F G A p D q=>
  subst y;cases d with
  |nil=>exact .inl ⟨rfl,_,_,rfl⟩
  |cons x d=>
   have r:m=1:=by have:=p (iJ x) a7;simpa using this.symm
   subst r;refine .inr ⟨b,l,i,a7,a7,λj s=>?_⟩;have B:=D j 0 (by simpa using s) O;have e:(x::d).getD j 0=(x::d)[j]:=by rw[fh,bu s];rfl
   have C:=q j 0 (iJ (x::d)[j]) (.int .i64 (x::d)[j]) (by rw[eQ,bu s];rfl) rfl;rw[show l+j*1+0=l+j by omega] at B;rw[B,e];generalize f j 0=u at C;cases C with
   |int k n=>rfl
theorem Q5{P:Program}(h:uC P g){l:List Int}{u:Value}(z:cV w X (.bE (d.map iJ)) v)(A:cV w X (.bE (l.map iJ)) u)(C:d.length<=1000000000)(D:l.length<=1000000000):
  Calls P g #[v,u] w λe k=>e= .returned (.int .i64 (cmpL d l))/\k=w:=by
 rcases x3 z with ⟨rfl,a,c,rfl⟩|⟨b,o,c,m,rfl,n⟩<;>rcases x3 A with ⟨rfl,p,i,rfl⟩|⟨q,r,i,s,rfl,B⟩
 ·exact(h.qb a p c 0 i w O).mono (by rintro e k ⟨rfl,rfl⟩;exact⟨rfl,rfl⟩)
 ·refine(h.qb a (aa ⟨q,r,aj⟩) c l.length i w O).mono ?_;rintro e k ⟨rfl,rfl⟩;cases l with
  |nil=>simp at s
  |cons y l=>exact⟨by rw[bb s];rfl,rfl⟩
 ·refine(h.Td b o d.length c i p (d.getD 0 0) w m O (n 0 m)).mono ?_;rintro e k ⟨rfl,rfl⟩;cases d with
  |nil=>simp at m
  |cons x d=>exact⟨rfl,rfl⟩
 exact h.both b o d.length c q r l.length i d l w rfl rfl O O n B
section sort
open Go.Shelf Go.RowKit Go.Lib Go.Sort
variable {P:Program}{ρ:Ren}
theorem EE:SWO (ltOf cmpL) where
 irrefl x:=by unfold ltOf;rw[Og];rfl
 trans x y z c b:=by
  unfold ltOf at*;simp only[decide_eq_true_eq] at*;exact Gl x y z c b
 ntrans x y z c b:=by
  unfold ltOf at*;simp only[decide_eq_false_iff_not] at*;intro h;by_cases a:cmpL y x<0
  ·exact b (Gl y x z a h)
  have e:cmpL x y=0:=by
   have:=HG y x;omega
  have:=G0 e;subst this;exact b h
theorem ac6: ∀x y,ltOf cmpL x y=false->ltOf cmpL y x=false->x=y:=λx y a b=>by
 unfold ltOf at*;simp only[decide_eq_false_iff_not] at*
 have:=HG y x;exact G0 O
def ec(w:World)(X:Nat->Prop):Type:={q:Value×List Int // cV w X (.bE (q.2.map iJ)) q.1/\q.2.length<=1000000000}
instance (w:World) (X:Nat->Prop):Inhabited (ec w X):=⟨⟨(.slice aj 0 0,[]),.fW aj 0,a7⟩⟩
def ec.enc{w:World}{X:Nat->Prop}(x:ec w X):Value:=x.1.1
def ec.cb{w:World}{X:Nat->Prop}(x:ec w X):List Int:=x.1.2
def u'{w:World}{X:Nat->Prop}(x y:ec w X):Int:=cmpL x.cb y.cb
theorem ec.one:OneCell (ec.enc (w:=w) (X:=X)):=λx=>x.2.1.jF
theorem QY:SWO (ltOf (u' (w:=w) (X:=X))) where
 irrefl x:=EE.irrefl x.cb
 trans x y z:=EE.trans x.cb y.cb z.cb
 ntrans x y z:=EE.ntrans x.cb y.cb z.cb
theorem Mu{a:Array Value}{t:TypeId}(d:w.heap[b]? =aa (.cells a t (0,0)))(f:Array Value->Array Value):mapBlock w b f=w.setRow b (f a):=by rw[mapBlock_congr w b f (λ_=>f a) λc e JP h=>by rw[d] at h;cases h;rfl];rfl
theorem ID{m:Nat}{dk:Array (ec w X)}{os:Array Obj}(a:X b):Ext X w (sortWorld ec.enc w b 0 m dk os):=by
 refine⟨rfl,rfl,rfl,?_,λk d c=>?_⟩
 ·show w.heap.size<=((putRow ec.enc (Sort.ahead w m) b 0 dk).heap++os).size;rw[Array.size_append,Go.Sort.size_putRow];exact Nat.le_add_right _ _
 show((putRow ec.enc (Sort.ahead w m) b 0 dk).heap++os)[k]? =_;have h:(putRow ec.enc (Sort.ahead w m) b 0 dk).heap.size=w.heap.size:=by rw[Go.Sort.size_putRow];rfl
 rw[Array.getElem?_append_left O];show((Sort.ahead w m).heap.modify b _)[k]? =_;rw[Array.getElem?_modify,a8 λe:b=k=>c (e▸a)];rfl
theorem Oz{d a:Array (ec w X)}(b:PermIn 0 d.size d a)(k:SortedIn (ltOf u') 0 d.size a):(a.map ec.cb).toList=fC (d.map ec.cb).toList:=by
 refine sorted_unique_holds EE ac6 (d.map ec.cb) (a.map ec.cb) ⟨by simpa using b.1,λi l=>?_,?_⟩ λi j c m n=>?_
 ·have q:d.size<=i:=by
   rcases l with h|h
   ·omega
   simpa using h
  have c:=b.1;rw[getElem!_neg _ _ b6,getElem!_neg _ _ b6]
 ·have c:=b.2.2;have o:(a.map ec.cb).extract 0 (d.map ec.cb).size=(a.extract 0 d.size).map ec.cb:=a7
  have p:(d.map ec.cb).extract 0 (d.map ec.cb).size=(d.extract 0 d.size).map ec.cb:=a7
  rw[o,p,xc,xc];exact c.map _
 have lA:=b.1;have e:j<d.size:=by simpa using n
 have:=k i j c m e;rw[getElem!_pos a j O,getElem!_pos a i O] at this;rw[getElem!_pos _ j b6,getElem!_pos _ i b6,Array.getElem_map,Array.getElem_map];exact this
theorem aeC(L:SlLaysF.n6 P ρ)(raw:uC P g)(JF: ∀args w,(callFunc g args).run P w= .ok (.enter g args) w)(M:iH P (ρ.f 6)){q:Nat}(rows:List (List Int))(cK:rows.length<=1000000000)(cC: ∀l∈rows,l.length<=1000000000):
  ig P G (ρ.f 6) [aH e q 1 (bn ah) rows] [ms 0 q 1 (bn ah) rows,.fn g []] (.bX []) [aH e q 1 (bn ah) (fC rows)]:=by
 refine⟨M,?_⟩;intro w X p N kn gZ k4 hT;have tl:N.length=2:=hT.length;obtain⟨iv,hl,rfl⟩: ∃a b,N=[a,b]:=by
  match N,tl with
  | [a,b],_=>exact⟨a,b,rfl⟩
 have W:=Rel.mr (P:=P) (nt:=2) kn gZ k4 hT (da _);obtain⟨S,tu,_⟩:=hT;obtain rfl:hl= .func (.func g) #[] #[]:=by
  cases tu with
  |fn _ _ N T _=>
   have:N= #[]:=K5 T;rw[this]
 generalize J2:({tmps:=[iv,Value.func (.func g) #[] #[]].toArray++Array.replicate (2-[iv,Value.func (.func g) #[] #[]].toArray.size) undef,defers:=[]}:Act)=U at W;generalize kZ:Ctx.dL P G w X [aH e q 1 (bn ah) rows].length p 2=K at W;have th:K.X=X:=by rw[<-kZ];rfl
 generalize lv:Lift.mr [aH e q 1 (bn ah) rows] [ms 0 q 1 (bn ah) rows,.fn g []]=r at W;have z:r.H 0=aa (aH e q 1 (bn ah) rows):=by rw[<-lv];rfl
 have V:r.H=er [aH e q 1 (bn ah) rows] 0:=by rw[<-lv];rfl
 have Y:own K p r.H=hZ X p (er [aH e q 1 (bn ah) rows] 0):=by funext b;rw[V];show(K.X b\/_)=_;rw[th];rfl
 rw[<-Y] at S;have tg:aZ r.H 0 (aa (aH e q 1 (bn ah) (fC rows)))=er [aH e q 1 (bn ah) (fC rows)] 0:=by
  rw[V];funext j
  match j with
  |0=>rfl
  |j+1=>rfl
 have fin: ∀(w':World),Rel K p {r with H:=aZ r.H 0 (aa (aH e q 1 (bn ah) (fC rows)))} U w'->
   ∃u,∃_i:Unit,∃β,Ending.returned (.tuple #[])= .returned u/\True/\Left p β [aH e q 1 (bn ah) rows] [aH e q 1 (bn ah) (fC rows)] w w' X (.bX []) u:=by
  intro w' b8;subst kZ;obtain⟨β,tv⟩:=Fk (out:=[aH e q 1 (bn ah) (fC rows)]) b8 (da _) (.bX [] #[] rfl λi c u bS _=>by simp at bS) rfl (by
   intro id e0 t;refine⟨⟨e0,?_,j8.refl _⟩,?_⟩
   ·show aZ r.H 0 _ id=_;rw[tg];exact t
   match id with
   |0=>cases t;exact⟨rfl,rfl⟩
   |k+1=>cases t)
  exact⟨_,(),β,rfl,trivial,tv⟩
 have jc:=(W.heap 0 _ z).2.1;have pK:=Ij (W.heap 0 _ z).2 S;have D:r.H 0≠aj:=by rw[z];simp
 rcases pK with ⟨rfl,h1,hq⟩|⟨b,cap,o,rfl,hq,A,lx,pZ,DH,b8⟩
 ·have p2:rows=[]:=by simpa using h1
  subst p2;refine(AnyF.slices_SortFunc_none (P:=P) (ρ:=ρ) {L with} aj 0 _ w).mono ?_;rintro e1 fO ⟨rfl,rfl⟩;refine fin _ ?_
  have:=W.z1 0 _ z;rw[show fC []=[] by simp[fC]];exact this
 have vL:own K p r.H b:= .inr ⟨0,D,.inl ⟨_,hq⟩⟩;have hlen:rows.length<=o.size:=by
  rw[lx];simpa using pZ
 have mh: ∀(j:Nat) (v:j<rows.length),cV w (own K p r.H) (.bE (rows[j].map iJ)) (o[j]' O):=λj v=>
  b8 j 0 (bn ah rows[j]) (.bE (rows[j].map iJ)) _ (by rw[eQ,bu v];rfl) rfl (by
   rw[gC,bb b6];rw[show j*1+0=j by omega,qv,h8 O])
 obtain⟨F,te,tf⟩: ∃F:Fin rows.length->ec w (own K p r.H),(∀j,(F j).enc=o[j.1]'(by have:=j.2;omega))/\ ∀j,(F j).cb=rows[j.1]:=
  ⟨λj=>⟨(o[j.1]'(by have:=j.2;omega),rows[j.1]),mh j.1 j.2,cC _ (gg j.2)⟩,λ_=>rfl,λ_=>rfl⟩
 obtain⟨d,cO⟩: ∃d:Array (ec w (own K p r.H)),d=Array.ofFn F:=⟨_,rfl⟩
 have B:d.size=rows.length:=by rw[cO];exact Array.size_ofFn
 have St: ∀(j:Nat) (v:j<d.size),d[j].enc=o[j]' O/\d[j].cb=rows[j]' O:=λj v=>by
  subst cO;rw[Array.getElem_ofFn];exact⟨te _,tf _⟩
 have nR:(d.map ec.cb).toList=rows:=by
  refine List.ext_getElem (by simp[B]) λj h1 h2=>?_;rw[Array.getElem_toList,Array.getElem_map];exact(St j O).2
 have hH:Holds ec.enc w b 0 d:=λj v=>by
  rw[dI,getElem!_pos d j v,(St j v).1];refine⟨?_,by simp[World.frozen?,A]⟩
  have:j<o.size:=O
  simp[World.cell?,A,this]
 have tk:CmpLays1 P g #[] ec.enc u' b 0 d.size w:=CmpReads.lays (λm os dk T x y=>by
  have hE:=ID (w:=w) (X:=own K p r.H) (b:=b) (m:=m) (dk:=dk) (os:=os) vL;exact(Q5 raw (x.2.1.mono hE λ_ _ h=>h) (y.2.1.mono hE λ_ _ h=>h) x.2.2 y.2.2).mono (by
   rintro e1 fO ⟨rfl,rfl⟩;exact⟨rfl,0,rfl⟩))
 have run:=Any.slices_SortFunc L ec.enc ec.one u' QY g #[] b 0 cap d w JF tk hH (iR.1 A).1 O;rw[B] at run;rw[dJ];refine run.mono ?_;rintro e1 fO ⟨rfl,Q,n,os,hp,T,lC⟩;rw[<-B] at hp T;refine fin _ ?_;have E:=Oz hp T;rw[nR] at E;have ala:Q.size=rows.length:=by rw[hp.1,B]
 have I:(Sort.ahead w n).heap[b]? =aa (.cells o e (0,0)):=A;have s:sortWorld ec.enc w b 0 n Q os=grow ((Sort.ahead w n).setRow b (putCells ec.enc 0 Q o)) os:=by
  show grow (putRow ec.enc (Sort.ahead w n) b 0 Q) os=_;congr 1;exact Mu I _
 have hCs:(putCells ec.enc 0 Q o).size=o.size:=by simp[putCells]
 have mc:Rel K p r U (Sort.ahead w n):=W.grow ⟨rfl,rfl,rfl,da _,λ_ _ _=>rfl⟩;have dQ:=mc.setRow 0 b (.inl ⟨_,hq⟩) o e I (putCells ec.enc 0 Q o) hCs (aH e q 1 (bn ah) (fC rows)) D
  ⟨jc,Or.inr ⟨b,_,hq,setRow_heap _ _ _ _ _ _ I,by
   rw[hCs,dJ,<-E,pr,Array.size_map];omega,λrow s=>by
    obtain⟨l,_,rfl⟩:=eK.1 s;rfl,λi j row x u aL a2 a3=>by
   rw[eQ] at aL;cases R:(fC rows)[i]? with
   |none=>rw[R] at aL;cases aL
   |some l=>
    rw[R] at aL;simp only[gS,Option.some.injEq] at aL;subst aL
    match j,a2 with
    |0,a2=>
     simp only[List.getElem?_cons_zero,Option.some.injEq] at a2;subst a2;rw[<-E,qv,Array.getElem?_map] at R;cases C:Q[i]? with
     |none=>rw[C] at R;cases R
     |some y=>
      rw[C] at R;simp only[gS,Option.some.injEq] at R;subst R;have DE:=(iR.1 C).1;have aio:=(iR.1 C).2;have hu:u=y.enc:=by
       rw[show i*1+0=i by omega] at a3;unfold putCells at a3;rw[Array.getElem?_mapIdx,h8 O] at a3;simp only[gS,Option.some.injEq] at a3;rw[bb O] at a3;rw[<-a3,Nat.sub_zero,getElem!_pos Q i DE,aio]
      subst hu;refine(y.2.1.mono (w':=Sort.ahead w n) ⟨rfl,rfl,rfl,da _,λ_ _ _=>rfl⟩ λ_ _ h=>h).mono ⟨rfl,rfl,rfl,a7,λkk _ hx=>setRow_other _ _ _ _ λe0=>hx ?_⟩ λ_ _ h=>h;subst e0;exact vL⟩⟩
 rw[lC,s];refine dQ.grow ⟨rfl,rfl,rfl,?_,λk hk _=>?_⟩
 ·show _<=(_++os).size;rw[Array.size_append];exact Nat.le_add_right _ _
 show(_++os)[k]? =_;rw[Array.getElem?_append_left hk]
theorem aaG(L:SlLaysF.n6 P ρ)(b:uC P g)(d: ∀args w,(callFunc g args).run P w= .ok (.enter g args) w)(a:iH P (ρ.f 6)){x:List (List Int)}{n:Nat}{r:List (List Int)}(h:mZ x=aa r):
  ig P G (ρ.f 6) [aH e n 1 (bn ah) x] [ms 0 n 1 (bn ah) x,.fn g []] (.bX []) [aH e n 1 (bn ah) r]:=by
 unfold mZ at h;split at h
 ·rename_i c;cases h;exact aeC L b d a x c.1 c.2
 cases h
end sort
end Go.Lift

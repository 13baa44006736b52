/- Tools. -/
import Derived.Test.YtlbojjldejlgaaaGreatXLiftIns
import Derived.Test.YtlbojjldejlgaaaGreatXLiftSq
import Derived.Shelf.SlSortCmp.NoneTotal
set_option linter.unusedVariables false
namespace Go.Lift
open Go Go.Proofs
theorem DM: ∀a,cmpL a a=0
 | []=>rfl
 |x::a=>by unfold cmpL;rw[bp O,bp O];exact DM a
theorem yV: ∀b c,cmpL b c<0↔0<cmpL c b
 | [],[]=>by simp[cmpL]
 | [],_::_=>by simp[cmpL]
 |_::_,[]=>by simp[cmpL]
 |x::b,y::c=>by
  unfold cmpL;by_cases a:x<y
  ·rw[bh a,bp O,bh a];omega
  by_cases d:y<x
  ·rw[bp a,bh d,bh d];omega
  rw[bp a,bp d,bp d,bp a];exact yV b c
theorem yq: ∀{a b},cmpL a b=0->a=b
 | [],[],_=>rfl
 | [],_::_,h=>by simp[cmpL] at h
 |_::_,[],h=>by simp[cmpL] at h
 |x::a,y::b,h=>by
  unfold cmpL at h;by_cases c:x<y
  ·rw[bh c] at h;omega
  by_cases d:y<x
  ·rw[bp c,bh d] at h;omega
  rw[bp c,bp d] at h;rw[yq h,show x=y by omega]
theorem Cu: ∀i k l,cmpL i k<0->cmpL k l<0->cmpL i l<0
 | [],[],_,h,_=>by simp[cmpL] at h
 | [],_::_,[],_,h=>by simp[cmpL] at h
 | [],_::_,_::_,_,_=>by simp[cmpL]
 |_::_,[],_,h,_=>by simp[cmpL] at h
 |_::_,_::_,[],_,h=>by simp[cmpL] at h
 |x::i,y::k,z::l,m,e=>by
  unfold cmpL at m e⊢;by_cases a:x<y
  ·by_cases b:y<z
   ·rw[bh O];omega
   by_cases c:z<y
   ·rw[bp b,bh c] at e;omega
   rw[bh O];omega
  by_cases b:y<x
  ·rw[bp a,bh b] at m;omega
  by_cases c:y<z
  ·rw[bh O];omega
  by_cases d:z<y
  ·rw[bp c,bh d] at e;omega
  rw[bp O,bp O];rw[bp a,bp b] at m;rw[bp c,bp d] at e;exact Cu i k l m e
structure pr (P:Program) (g:FuncId):Prop where
 both: ∀(cD fD n c b0 ij m d:Nat) (xs ys:List Int) (w:World),xs.length=n->ys.length=m->n<=9223372036854775807->m<=9223372036854775807->(∀j,j<xs.length->w.cell? ⟨cD,fD+j,none⟩=some (.int .i64 (xs.getD j 0)))->
  (∀j,j<ys.length->w.cell? ⟨b0,ij+j,none⟩=some (.int .i64 (ys.getD j 0)))->
  Calls P g #[.slice (some ⟨cD,fD,none⟩) n c,.slice (some ⟨b0,ij,none⟩) m d] w λe w'=>e= .returned (.int .i64 (cmpL xs ys))/\w'=w
 l6: ∀(ay a2:Option Addr) (c m d:Nat) (w:World),m<=9223372036854775807->Calls P g #[.slice ay 0 c,.slice a2 m d] w λe w'=>e= .returned (.int .i64 (if 0<m then-1 else 0))/\w'=w
 HL: ∀(cD fD n c d:Nat) (a2:Option Addr) (x:Int) (w:World),0<n->n<=9223372036854775807->w.cell? ⟨cD,fD,none⟩=some (.int .i64 x)->Calls P g #[.slice (some ⟨cD,fD,none⟩) n c,.slice a2 0 d] w λe w'=>e= .returned (.int .i64 1)/\w'=w
variable {w:World}{X:Nat->Prop}{d:List Int}{v:Value}{g:FuncId}{b:Nat}{G:ee}{e:TypeId}
theorem tQ(h:b8 w X (.aa (d.map hQ)) v):
  (d=[]/\ ∃a c,v= .slice a 0 c)\/ ∃(b o c:Nat),0<d.length/\v= .slice (some ⟨b,o,none⟩) d.length c/\ ∀j,j<d.length->w.cell? ⟨b,o+j,none⟩=some (.int .i64 (d.getD j 0)):=by
 generalize y:d.map hQ=z at h;cases h with
 |eI a i=>exact .inl ⟨by simpa using y,a,i,rfl⟩
 |aa _ b l m i f F G A p D q=>
  subst y;cases d with
  |nil=>exact .inl ⟨rfl,_,_,rfl⟩
  |cons x d=>
   have r:m=1:=by have:=p (hQ x) aY;simpa using this.symm
   subst r;refine .inr ⟨b,l,i,aY,aY,λj s=>?_⟩;have B:=D j 0 (by simpa using s) O;have e:(x::d).getD j 0=(x::d)[j]:=by rw[eP,bg s];rfl
   have C:=q j 0 (hQ (x::d)[j]) (.int .i64 (x::d)[j]) (by rw[dU,bg s];rfl) rfl;rw[show l+j*1+0=l+j by omega] at B;rw[B,e];generalize f j 0=u at C;cases C with
   |int k n=>rfl
theorem FT{P:Program}(h:pr P g){l:List Int}{u:Value}(z:b8 w X (.aa (d.map hQ)) v)(A:b8 w X (.aa (l.map hQ)) u)(C:d.length<=1000000000)(D:l.length<=1000000000):
  Calls P g #[v,u] w λe k=>e= .returned (.int .i64 (cmpL d l))/\k=w:=by
 rcases tQ z with ⟨rfl,a,c,rfl⟩|⟨b,o,c,m,rfl,n⟩<;>rcases tQ A with ⟨rfl,p,i,rfl⟩|⟨q,r,i,s,rfl,B⟩
 ·exact(h.l6 a p c 0 i w O).mono (by rintro e k ⟨rfl,rfl⟩;exact⟨rfl,rfl⟩)
 ·refine(h.l6 a (some ⟨q,r,none⟩) c l.length i w O).mono ?_;rintro e k ⟨rfl,rfl⟩;cases l with
  |nil=>simp at s
  |cons y l=>exact⟨by rw[bh s];rfl,rfl⟩
 ·refine(h.HL b o d.length c i p (d.getD 0 0) w m O (n 0 m)).mono ?_;rintro e k ⟨rfl,rfl⟩;cases d with
  |nil=>simp at m
  |cons x d=>exact⟨rfl,rfl⟩
 exact h.both b o d.length c q r l.length i d l w rfl rfl O O n B
section sort
open Go.Shelf Go.RowKit Go.Lib Go.Sort
variable {P:Program}{ρ:Ren}
theorem wW:SWO (ltOf cmpL) where
 irrefl x:=by unfold ltOf;rw[DM];rfl
 trans x y z c b:=by
  unfold ltOf at*;simp only[decide_eq_true_eq] at*;exact Cu x y z c b
 ntrans x y z c b:=by
  unfold ltOf at*;simp only[decide_eq_false_iff_not] at*;intro h;by_cases a:cmpL y x<0
  ·exact b (Cu y x z a h)
  have e:cmpL x y=0:=by
   have:=yV y x;omega
  have:=yq e;subst this;exact b h
theorem PG: ∀x y,ltOf cmpL x y=false->ltOf cmpL y x=false->x=y:=λx y a b=>by
 unfold ltOf at*;simp only[decide_eq_false_iff_not] at*
 have:=yV y x;exact yq O
def dc(w:World)(X:Nat->Prop):Type:={q:Value×List Int // b8 w X (.aa (q.2.map hQ)) q.1/\q.2.length<=1000000000}
instance (w:World) (X:Nat->Prop):Inhabited (dc w X):=⟨⟨(.slice none 0 0,[]),.eI none 0,aY⟩⟩
def dc.enc{w:World}{X:Nat->Prop}(x:dc w X):Value:=x.1.1
def dc.bD{w:World}{X:Nat->Prop}(x:dc w X):List Int:=x.1.2
def pM{w:World}{X:Nat->Prop}(x y:dc w X):Int:=cmpL x.bD y.bD
theorem dc.one:OneCell (dc.enc (w:=w) (X:=X)):=λx=>x.2.1.gV
theorem FZ:SWO (ltOf (pM (w:=w) (X:=X))) where
 irrefl x:=wW.irrefl x.bD
 trans x y z:=wW.trans x.bD y.bD z.bD
 ntrans x y z:=wW.ntrans x.bD y.bD z.bD
theorem JI{a:Array Value}{t:TypeId}(d:w.heap[b]? =some (.cells a t (0,0)))(f:Array Value->Array Value):mapBlock w b f=w.setRow b (f a):=by rw[mapBlock_congr w b f (λ_=>f a) λc e Aw h=>by rw[d] at h;cases h;rfl];rfl
theorem zw{m:Nat}{dk:Array (dc w X)}{os:Array Obj}(a:X b):Ext X w (sortWorld dc.enc w b 0 m dk os):=by
 refine⟨rfl,rfl,rfl,?_,λk d c=>?_⟩
 ·show w.heap.size<=((putRow dc.enc (Sort.ahead w m) b 0 dk).heap++os).size;rw[Array.size_append,Go.Sort.size_putRow];exact Nat.le_add_right _ _
 show((putRow dc.enc (Sort.ahead w m) b 0 dk).heap++os)[k]? =_;have h:(putRow dc.enc (Sort.ahead w m) b 0 dk).heap.size=w.heap.size:=by rw[Go.Sort.size_putRow];rfl
 rw[Array.getElem?_append_left O];show((Sort.ahead w m).heap.modify b _)[k]? =_;rw[Array.getElem?_modify,bp λe:b=k=>c (e▸a)];rfl
theorem DX{d a:Array (dc w X)}(b:PermIn 0 d.size d a)(k:SortedIn (ltOf pM) 0 d.size a):(a.map dc.bD).toList=d7 (d.map dc.bD).toList:=by
 refine sorted_unique_holds wW PG (d.map dc.bD) (a.map dc.bD) ⟨by simpa using b.1,λi l=>?_,?_⟩ λi j c m n=>?_
 ·have q:d.size<=i:=by
   rcases l with h|h
   ·omega
   simpa using h
  have c:=b.1;rw[getElem!_neg _ _ bY,getElem!_neg _ _ bY]
 ·have c:=b.2.2;have o:(a.map dc.bD).extract 0 (d.map dc.bD).size=(a.extract 0 d.size).map dc.bD:=aY
  have p:(d.map dc.bD).extract 0 (d.map dc.bD).size=(d.extract 0 d.size).map dc.bD:=aY
  rw[o,p,q7,q7];exact c.map _
 have jh:=b.1;have e:j<d.size:=by simpa using n
 have:=k i j c m e;rw[getElem!_pos a j O,getElem!_pos a i O] at this;rw[getElem!_pos _ j bY,getElem!_pos _ i bY,Array.getElem_map,Array.getElem_map];exact this
theorem Rp(L:SlLaysF.n6 P ρ)(raw:pr P g)(Al: ∀args w,(callFunc g args).run P w= .ok (.enter g args) w)(M:hL P (ρ.f 6)){q:Nat}(rows:List (List Int))(cj:rows.length<=1000000000)(cc: ∀l∈rows,l.length<=1000000000):
  gM P G (ρ.f 6) [aX e q 1 (aL U) rows] [ms 0 q 1 (aL U) rows,.fn g []] (.bI []) [aX e q 1 (aL U) (d7 rows)]:=by
 refine⟨M,?_⟩;intro w X p N iD e7 sl fC;have oE:N.length=2:=fC.length;obtain⟨iv,kh,rfl⟩: ∃a b,N=[a,b]:=by
  match N,oE with
  | [a,b],_=>exact⟨a,b,rfl⟩
 have R:=Rel.kM (P:=P) (nt:=2) iD e7 sl fC (cL _);obtain⟨S,sv,_⟩:=fC;obtain rfl:kh= .func (.func g) #[] #[]:=by
  cases sv with
  |fn _ _ N T _=>
   have:N= #[]:=B4 T;rw[this]
 generalize GQ:({tmps:=[iv,Value.func (.func g) #[] #[]].toArray++Array.replicate (2-[iv,Value.func (.func g) #[] #[]].toArray.size) undef,defers:=[]}:Act)=V at R;generalize mP:Ctx.ec P G w X [aX e q 1 (aL U) rows].length p 2=K at R;have se:K.X=X:=by rw[<-mP];rfl
 generalize k4:Lift.kM [aX e q 1 (aL U) rows] [ms 0 q 1 (aL U) rows,.fn g []]=r at R;have v:r.H 0=some (aX e q 1 (aL U) rows):=by rw[<-k4];rfl
 have Y:r.H=dx [aX e q 1 (aL U) rows] 0:=by rw[<-k4];rfl
 have AZ:own K p r.H=fO X p (dx [aX e q 1 (aL U) rows] 0):=by funext b;rw[Y];show(K.X b\/_)=_;rw[se];rfl
 rw[<-AZ] at S;have sd:aE r.H 0 (some (aX e q 1 (aL U) (d7 rows)))=dx [aX e q 1 (aL U) (d7 rows)] 0:=by
  rw[Y];funext j
  match j with
  |0=>rfl
  |j+1=>rfl
 have fin: ∀(w':World),Rel K p {r with H:=aE r.H 0 (some (aX e q 1 (aL U) (d7 rows)))} V w'->
   ∃u,∃_i:Unit,∃β,Ending.returned (.tuple #[])= .returned u/\True/\Left p β [aX e q 1 (aL U) rows] [aX e q 1 (aL U) (d7 rows)] w w' X (.bI []) u:=by
  intro w' bH;subst mP;obtain⟨β,sA⟩:=BW (out:=[aX e q 1 (aL U) (d7 rows)]) bH (cL _) (.bI [] #[] rfl λi c u bj _=>by simp at bj) rfl (by
   intro id e0 W;refine⟨⟨e0,?_,hB.refl _⟩,?_⟩
   ·show aE r.H 0 _ id=_;rw[sd];exact W
   match id with
   |0=>cases W;exact⟨rfl,rfl⟩
   |k+1=>cases W)
  exact⟨_,(),β,rfl,trivial,sA⟩
 have hd:=(R.heap 0 _ v).2.1;have rH:=QQ (R.heap 0 _ v).2 S;have C:r.H 0≠none:=by rw[v];simp
 rcases rH with ⟨rfl,h1,cH⟩|⟨b,cap,o,rfl,cH,z,kC,lT,vw,bH⟩
 ·have lW:rows=[]:=by simpa using h1
  subst lW;refine(AnyF.slices_SortFunc_none (P:=P) (ρ:=ρ) {L with} none 0 _ w).mono ?_;rintro e1 jz ⟨rfl,rfl⟩;refine fin _ ?_
  have:=R.tq 0 _ v;rw[show d7 []=[] by simp[d7]];exact this
 have qm:own K p r.H b:= .inr ⟨0,C,.inl ⟨_,cH⟩⟩;have hlen:rows.length<=o.size:=by
  rw[kC];simpa using lT
 have jg: ∀(j:Nat) (t:j<rows.length),b8 w (own K p r.H) (.aa (rows[j].map hQ)) (o[j]' O):=λj t=>
  bH j 0 (aL U rows[j]) (.aa (rows[j].map hQ)) _ (by rw[dU,bg t];rfl) rfl (by
   rw[fT,bh bY];rw[show j*1+0=j by omega,me,fW O])
 obtain⟨F,Ay,Az⟩: ∃F:Fin rows.length->dc w (own K p r.H),(∀j,(F j).enc=o[j.1]'(by have:=j.2;omega))/\ ∀j,(F j).bD=rows[j.1]:=
  ⟨λj=>⟨(o[j.1]'(by have:=j.2;omega),rows[j.1]),jg j.1 j.2,cc _ (fe j.2)⟩,λ_=>rfl,λ_=>rfl⟩
 obtain⟨d,cy⟩: ∃d:Array (dc w (own K p r.H)),d=Array.ofFn F:=⟨_,rfl⟩
 have A:d.size=rows.length:=by rw[cy];exact Array.size_ofFn
 have G2: ∀(j:Nat) (t:j<d.size),d[j].enc=o[j]' O/\d[j].bD=rows[j]' O:=λj t=>by
  subst cy;rw[Array.getElem_ofFn];exact⟨Ay _,Az _⟩
 have vt:(d.map dc.bD).toList=rows:=by
  refine List.ext_getElem (by simp[A]) λj h1 h2=>?_;rw[Array.getElem_toList,Array.getElem_map];exact(G2 j O).2
 have hH:Holds dc.enc w b 0 d:=λj t=>by
  rw[dm,getElem!_pos d j t,(G2 j t).1];refine⟨?_,by simp[World.frozen?,z]⟩
  have:j<o.size:=O
  simp[World.cell?,z,this]
 have oB:CmpLays1 P g #[] dc.enc pM b 0 d.size w:=CmpReads.lays (λm os dk T x y=>by
  have hb:=zw (w:=w) (X:=own K p r.H) (b:=b) (m:=m) (dk:=dk) (os:=os) qm;exact(FT raw (x.2.1.mono hb λ_ _ h=>h) (y.2.1.mono hb λ_ _ h=>h) x.2.2 y.2.2).mono (by
   rintro e1 jz ⟨rfl,rfl⟩;exact⟨rfl,0,rfl⟩))
 have run:=Any.slices_SortFunc L dc.enc dc.one pM FZ g #[] b 0 cap d w Al oB hH (gn.1 z).1 O;rw[A] at run;rw[dI];refine run.mono ?_;rintro e1 jz ⟨rfl,D,n,os,hp,T,k6⟩;rw[<-A] at hp T;refine fin _ ?_;have E:=DX hp T;rw[vt] at E;have Xm:D.size=rows.length:=by rw[hp.1,A]
 have I:(Sort.ahead w n).heap[b]? =some (.cells o e (0,0)):=z;have s:sortWorld dc.enc w b 0 n D os=grow ((Sort.ahead w n).setRow b (putCells dc.enc 0 D o)) os:=by
  show grow (putRow dc.enc (Sort.ahead w n) b 0 D) os=_;congr 1;exact JI I _
 have hCs:(putCells dc.enc 0 D o).size=o.size:=by simp[putCells]
 have mO:Rel K p r V (Sort.ahead w n):=R.grow ⟨rfl,rfl,rfl,cL _,λ_ _ _=>rfl⟩;have fv:=mO.setRow 0 b (.inl ⟨_,cH⟩) o e I (putCells dc.enc 0 D o) hCs (aX e q 1 (aL U) (d7 rows)) C
  ⟨hd,Or.inr ⟨b,_,cH,setRow_heap _ _ _ _ _ _ I,by
   rw[hCs,dI,<-E,kO,Array.size_map];omega,λrow s=>by
    obtain⟨l,_,rfl⟩:=fU.1 s;rfl,λi j row x u ay a2 a3=>by
   rw[dU] at ay;cases Q:(d7 rows)[i]? with
   |none=>rw[Q] at ay;cases ay
   |some l=>
    rw[Q] at ay;simp only[Option.map_some,Option.some.injEq] at ay;subst ay
    match j,a2 with
    |0,a2=>
     simp only[List.getElem?_cons_zero,Option.some.injEq] at a2;subst a2;rw[<-E,me,Array.getElem?_map] at Q;cases B:D[i]? with
     |none=>rw[B] at Q;cases Q
     |some y=>
      rw[B] at Q;simp only[Option.map_some,Option.some.injEq] at Q;subst Q;have AM:=(gn.1 B).1;have Uq:=(gn.1 B).2;have hu:u=y.enc:=by
       rw[show i*1+0=i by omega] at a3;unfold putCells at a3;rw[Array.getElem?_mapIdx,fW O] at a3;simp only[Option.map_some,Option.some.injEq] at a3;rw[bh O] at a3;rw[<-a3,Nat.sub_zero,getElem!_pos D i AM,Uq]
      subst hu;refine(y.2.1.mono (w':=Sort.ahead w n) ⟨rfl,rfl,rfl,cL _,λ_ _ _=>rfl⟩ λ_ _ h=>h).mono ⟨rfl,rfl,rfl,aY,λkk _ hx=>setRow_other _ _ _ _ λe0=>hx ?_⟩ λ_ _ h=>h;subst e0;exact qm⟩⟩
 rw[k6,s];refine fv.grow ⟨rfl,rfl,rfl,?_,λk hk _=>?_⟩
 ·show _<=(_++os).size;rw[Array.size_append];exact Nat.le_add_right _ _
 show(_++os)[k]? =_;rw[Array.getElem?_append_left hk]
theorem M7(L:SlLaysF.n6 P ρ)(b:pr P g)(d: ∀args w,(callFunc g args).run P w= .ok (.enter g args) w)(a:hL P (ρ.f 6)){x:List (List Int)}{i:Nat}{r:List (List Int)}(h:j2 x=some r):
  gM P G (ρ.f 6) [aX e i 1 (aL U) x] [ms 0 i 1 (aL U) x,.fn g []] (.bI []) [aX e i 1 (aL U) r]:=by
 unfold j2 at h;split at h
 ·rename_i c;cases h;exact Rp L b d a x c.1 c.2
 cases h
end sort
end Go.Lift

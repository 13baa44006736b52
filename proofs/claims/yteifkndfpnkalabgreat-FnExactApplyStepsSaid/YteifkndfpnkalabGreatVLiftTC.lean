/- Tools. -/
import Derived.Test.YteifkndfpnkalabGreatVLiftSort
set_option linter.unusedVariables false
namespace Go.Lift
open Go
open Go.Proofs
open Option renaming some -> aa, none -> ak, map_some -> gP
theorem acy{k:Type}{l l':List k}(h:l.Perm l'): ∃d:Nat->Nat,(∀i,i<l'.length->d i<l.length/\l'[i]? =l[d i]?)/\ ∀i j,i<l'.length->j<l'.length->d i=d j->i=j:=by
 induction h with
 |nil=>exact⟨id,λi c=>br c (o6 _),λi j c=>br c (o6 _)⟩
 |cons a _ w=>
  obtain⟨d,n,o⟩:=w;refine⟨λi=>match i with|0=>0|i+1=>d i+1,λi c=>?_,λi j c m e=>?_⟩
  ·match i with
   |0=>exact⟨bl,rfl⟩
   |i+1=>
    obtain⟨aP,a2⟩:=n i (by simpa using c);exact⟨by simpa using aP,by simpa using a2⟩
  match i,j with
  |0,0=>rfl
  |0,j+1=>simp at e
  |i+1,0=>simp at e
  |i+1,j+1=>simp at e;rw[o i j (by simpa using c) (by simpa using m) e]
 |swap a b l=>
  refine⟨λi=>match i with|0=>1|1=>0|i+2=>i+2,λi c=>?_,λi j c m e=>?_⟩
  ·match i with
   |0=>exact⟨bl,rfl⟩
   |1=>exact⟨bl,rfl⟩
   |i+2=>exact⟨by simpa using c,bl⟩
  match i,j with
  |0,0=>rfl
  |0,1=>simp at e
  |0,j+2=>simp at e
  |1,0=>simp at e
  |1,1=>rfl
  |1,j+2=>simp at e
  |i+2,0=>simp at e
  |i+2,1=>simp at e
  |i+2,j+2=>simpa using e
 |trans _ _ p q=>
  obtain⟨d,n,o⟩:=p;obtain⟨s,r,x⟩:=q;refine⟨λi=>d (s i),λi c=>?_,λi j c m e=>?_⟩
  ·obtain⟨aP,a2⟩:=r i c;obtain⟨a3,a4⟩:=n (s i) aP;exact⟨a3,a2.trans a4⟩
  exact x i j c m (o _ _ (r i c).1 (r j m).1 e)
variable {G:fh}{w:World}{X:Nat->Prop}{t:List dw}{m p m1 i:Nat}{g:FuncId}{u:Nat->Bool}
theorem NV{G:Map}{k gen sz:Nat}{a:List (List T)}{x:Value}(C:c4 G w X k (.aC t m gen a []))(F:(U t m).size=sz)(H:bB G w X (.bf k gen sz 0 a.length) x):
  (x= .slice ak 0 0/\a=[]/\G k=aa (ak,gen))\/ ∃(b d:Nat) (e:Array Value) (B:Nat->Nat->Nat->Prop),x= .slice (aa ⟨b,0,ak⟩) a.length d/\G k=aa (aa b,gen)/\w.heap[b]? =aa (.cells e (U t m).ty (0,0))/\e.size=d*sz/\a.length<=d/\d<=maxLen/\
   (∀(i j:Nat) (l:List T) (y:T) (u:Value),a[i]? =aa l->l[j]? =aa y->e[i*sz+j]? =aa u->fP t w X ((U t m).eb j) y u (B i j))/\ ∀i j c,B i j c->c≠b:=by
 obtain⟨q,o⟩:=rN C;rcases ff H o with ⟨d,b,n,K,rfl,rfl,E,h,r,L,s⟩|⟨rfl,_,z,rfl⟩
 ·rcases C.2 with ⟨p,_⟩|⟨I,e,B,p,D,M,N,Q,R,_⟩
  ·rw[o] at p;cases p
  rw[o] at p;cases p;have A:e.size=d*sz:=by
   unfold World.shape? at h;rw[D] at h;simp at h;rw[<-r] at h;rw[dy] at h;exact h.2
  refine .inr ⟨b,d,e,B,by rw[gN],o,D,A,L,s,λi j l y u W f g=>(Q i j l y u W f (by rw[F];exact g)).none,λi j c v=>(R i j c v).2.2⟩
 exact .inl ⟨rfl,nT z,o⟩
section D'
open Go.Shelf Go.RowKit Go.Lib Go.Sort
variable {P:Program}{ρ:Ren}
theorem abk(L:SlLaysF.n6 P ρ)(raw:uv P g)(I9: ∀args w,(callFunc g args).run P w= .ok (.enter g args) w)(call:jh P (ρ.f 6)){p:List dw}{r:Nat}(er:(U p m).size=1)(yI:(U p m).eb 0=aa m1)
  (rows:List (List Int)) (cR:rows.length<=1000000000) (hl: ∀l∈rows,l.length<=1000000000):
  hY P G (ρ.f 6) [.aC p m r (rows.map (bj ai)) []] [ms 0 r 1 (bj ai) rows,.fn g []] (.bY []) [.aC p m r ((fD rows).map (bj ai)) []]:=by
 refine⟨call,?_⟩;intro w X s us j9 gj kM gV;have sW:us.length=2:=gV.length;obtain⟨hW,iY,rfl⟩: ∃a b,us=[a,b]:=by
  match us,sW with
  | [a,b],_=>exact⟨a,b,rfl⟩
 have V:=Rel.l4 (P:=P) (nt:=2) j9 gj kM gV (df _);obtain⟨vJ,s8,_⟩:=gV;obtain rfl:iY= .func (.func g) #[] #[]:=by
  cases s8 with
  |fn _ _ us hs _=>
   have:us= #[]:=Kw hs;rw[this]
 generalize vy:({tmps:=[hW,Value.func (.func g) #[] #[]].toArray++Array.replicate (2-[hW,Value.func (.func g) #[] #[]].toArray.size) undef,defers:=[]}:Act)=act at V;generalize lU:Ctx.dB P G w X [E.aC p m r (rows.map (bj ai)) []].length s 2=K at V;have sS:K.X=X:=by rw[<-lU];rfl
 generalize ji:Lift.l4 [E.aC p m r (rows.map (bj ai)) []] [ms 0 r 1 (bj ai) rows,.fn g []]=D at V;have Q:D.H 0=aa (.aC p m r (rows.map (bj ai)) []):=by rw[<-ji];rfl
 have yA:D.H=eu [E.aC p m r (rows.map (bj ai)) []] 0:=by rw[<-ji];rfl
 have JM:own K s D.H=hQ X s (eu [E.aC p m r (rows.map (bj ai)) []] 0):=by funext b;rw[yA];show(K.X b\/_)=_;rw[sS];rfl
 rw[<-JM] at vJ;have sR:bb D.H 0 (aa (E.aC p m r ((fD rows).map (bj ai)) []))=eu [E.aC p m r ((fD rows).map (bj ai)) []] 0:=by
  rw[yA];funext j
  match j with
  |0=>rfl
  |j+1=>rfl
 have fin: ∀(R:Map) (w':World),Rel K R {D with H:=bb D.H 0 (aa (.aC p m r ((fD rows).map (bj ai)) []))} act w'->
   ∃u,∃_i:Unit,∃β,Ending.returned (.tuple #[])= .returned u/\True/\Left s β [E.aC p m r (rows.map (bj ai)) []] [E.aC p m r ((fD rows).map (bj ai)) []] w w' X (.bY []) u:=by
  intro R w' b5;subst lU;obtain⟨β,s9⟩:=EO (out:=[E.aC p m r ((fD rows).map (bj ai)) []]) b5 (df _) (.bY [] #[] rfl λi c u bW _=>by simp at bW) rfl (by
   intro id e0 I;refine⟨⟨e0,?_,jR.refl _⟩,?_⟩
   ·show bb D.H 0 _ id=_;rw[sR];exact I
   match id with
   |0=>cases I;exact⟨rfl,rfl⟩
   |k+1=>cases I)
  exact⟨_,(),β,rfl,trivial,s9⟩
 have vt:D.H 0≠ak:=by rw[Q];simp
 have pe:=NV (sz:=1) (V.heap 0 _ Q).2 er vJ;rcases pe with ⟨rfl,h1,dp⟩|⟨b,cap,o,B,rfl,dp,z,oH,nD,Dk,b5,Jk⟩
 ·have sZ:rows=[]:=by simpa using h1
  subst sZ;refine(AnyF.slices_SortFunc_none (P:=P) (ρ:=ρ) {L with} ak 0 _ w).mono ?_;rintro Y gO ⟨rfl,rfl⟩;refine fin s _ ?_
  have:=V.zD 0 _ Q;rw[show fD []=[] by simp[fD]];exact this
 have vx:own K s D.H b:= .inr ⟨0,vt,.inl ⟨_,dp⟩⟩;rw[dF] at nD;have hlen:rows.length<=o.size:=O
 have oK: ∀(j:Nat) (t:j<rows.length),c8 w (λx=>x=b) (.bG (rows[j].map kf)) (o[j]' O):=λj t=>by
  have s0:=b5 j 0 (bj ai rows[j]) (.bG (rows[j].map kf)) _ (by rw[eG,bC t];rfl) rfl (by rw[show j*1+0=j by omega];exact hT O);exact s0.wK (λx hx=>by rw[show x=b from hx];exact vx) λc bW e=>Jk j 0 c bW e
 obtain⟨F,sP,sQ⟩: ∃F:Fin rows.length->dW w λx=>x=b,(∀j,(F j).enc=o[j.1]'(by have:=j.2;omega))/\ ∀j,(F j).cb=rows[j.1]:=
  ⟨λj=>⟨(o[j.1]'(by have:=j.2;omega),rows[j.1]),oK j.1 j.2,hl _ (fW j.2)⟩,λ_=>rfl,λ_=>rfl⟩
 obtain⟨d,cI⟩: ∃d:Array (dW w λx=>x=b),d=Array.ofFn F:=⟨_,rfl⟩
 have A:d.size=rows.length:=by rw[cI];exact Array.size_ofFn
 have W: ∀(j:Nat) (t:j<d.size),d[j].enc=o[j]' O/\d[j].cb=rows[j]' O:=λj t=>by
  subst cI;rw[Array.getElem_ofFn];exact⟨sP _,sQ _⟩
 have nC:(d.map dW.cb).toList=rows:=by
  refine List.ext_getElem (by simp[A]) λj h1 h2=>?_;rw[Array.getElem_toList,Array.getElem_map];exact(W j O).2
 have hH:Holds dW.enc w b 0 d:=λj t=>by
  rw[dy,getElem!_pos d j t,(W j t).1];refine⟨?_,by simp[World.frozen?,z]⟩
  have:j<o.size:=O
  simp[World.cell?,z,this]
 have sU:CmpLays1 P g #[] dW.enc vd b 0 d.size w:=CmpReads.lays (λm os dk hs x y=>by
  have kK:=H3 (w:=w) (X:=λx=>x=b) (b:=b) (m:=m) (dk:=dk) (os:=os) rfl;exact(Qg raw (x.2.1.mono kK λ_ _ h=>h) (y.2.1.mono kK λ_ _ h=>h) x.2.2 y.2.2).mono (by
   rintro Y gO ⟨rfl,rfl⟩;exact⟨rfl,0,rfl⟩))
 have run:=Any.slices_SortFunc L dW.enc dW.one vd P9 g #[] b 0 cap d w I9 sU hH (iD.1 z).1 O;rw[A] at run;rw[dF];refine run.mono ?_;rintro Y gO ⟨rfl,q,n,os,M,hs,mJ⟩;rw[<-A] at M hs;have N:=Nd M hs;rw[nC] at N;have v:q.size=d.size:=M.1;obtain⟨S,ail,aim⟩:=acy (l:=d.toList) (l':=q.toList) (by
  have h2:=M.2.2;have Y:q.extract 0 d.size=q:=by rw[<-v];simp
  have e2:d.extract 0 d.size=d:=bl
  rw[Y,e2] at h2;exact h2.symm)
 have T:(Sort.ahead w n).heap[b]? =aa (.cells o (U p m).ty (0,0)):=z;have C:sortWorld dW.enc w b 0 n q os=grow ((Sort.ahead w n).setRow b (putCells dW.enc 0 q o)) os:=by
  show grow (putRow dW.enc (Sort.ahead w n) b 0 q) os=_;congr 1;exact LN T _
 have hCs:(putCells dW.enc 0 q o).size=o.size:=by simp[putCells]
 have yC: ∀i,i<q.size->(putCells dW.enc 0 q o)[i]? =aa (q[i]!).enc:=λi aL=>by
  unfold putCells;rw[Array.getElem?_mapIdx,hT O];simp only[gP];rw[bg O,Nat.sub_zero]
 have agO:gO.heap[b]? =aa (.cells (putCells dW.enc 0 q o) (U p m).ty (0,0)):=by
  rw[mJ,C];show(_++os)[b]? =_;have Jw:b<((Sort.ahead w n).setRow b (putCells dW.enc 0 q o)).heap.size:=(iD.1 (setRow_heap _ _ _ _ _ _ T)).1;rw[Array.getElem?_append_left Jw];exact setRow_heap _ _ _ _ _ _ T
 have agH:Ext (λx=>x=b) w gO:=by rw[mJ];exact H3 rfl
 have ag0:q.size=rows.length:=by rw[v,A]
 have RO:(fD rows).length=rows.length:=by rw[<-N,l7,Array.size_map,ag0]
 have ag9: ∀i (aL:i<rows.length),∃M:S i<rows.length,(putCells dW.enc 0 q o)[i]? =o[S i]? /\(fD rows)[i]? =rows[S i]? :=λi aL=>by
  obtain⟨aP,a2⟩:=ail i (by rw[l7];omega);rw[l7,A] at aP;rw[ng,ng,hT O,hT O] at a2;have a3:q[i]' O=d[S i]' O:=by simpa using a2
  refine⟨aP,?_,?_⟩
  ·rw[yC i O,getElem!_pos q i O,a3,(W (S i) O).1,hT O]
  rw[<-N,ng,Array.getElem?_map,hT O,gP,a3,(W (S i) O).2,bC aP]
 obtain⟨R,_,qX⟩:=V.pick 0 Q er dp z hCs agO agH ((fD rows).map (bj ai)) (by rw[dF,RO];omega) (λrow C=>by obtain⟨_,_,rfl⟩:=eH.1 C;rfl) rows.length [] (λ_ _ _ h=>br h lv) (λi j h1 h2 _=>by rw[dF,RO] at h2;omega) S (λi aL _=>by
   obtain⟨M,Y,e2⟩:=ag9 i aL;exact⟨by rw[dF];exact M,by rw[eG,eG,e2],λ_ _=>lv,λj t=>by rw[show j=0 by omega,Nat.mul_one,Nat.mul_one];exact Y⟩) λi gW aL vB _ _ h=>aim i gW (by rw[l7];omega) (by rw[l7];omega) h
 exact fin R _ qX
theorem X0(L:SlLaysF.n6 P ρ)(b:uv P g)(e: ∀args w,(callFunc g args).run P w= .ok (.enter g args) w)(a:jh P (ρ.f 6)){n:Nat}(k:(U t m).size=1)(c:(U t m).eb 0=aa n){x r:List (List Int)}(h:mQ x=aa r):
  hY P G (ρ.f 6) [.aC t m i (x.map (bj ai)) []] [ms 0 i 1 (bj ai) x,.fn g []] (.bY []) [.aC t m i (r.map (bj ai)) []]:=by
 unfold mQ at h;split at h
 ·rename_i d;cases h;exact abk L b e a k c x d.1 d.2
 cases h
end D'
theorem wG(a:Nat->Bool)(m:Nat):ei a (m+1)=ei a m++(if a m then [m] else []):=by unfold ei;rw[p4,w1];congr 1;by_cases h:a m<;>simp[h]
theorem A3(h: ∀j,j<m->u j=true):ei u m=List.range m:=by unfold ei;exact List.filter_eq_self.2 λj a=>h j (w5.1 a)
structure KR (P:Program) (f g:FuncId):Prop where
 run: ∀(vs:Nat->Value) (b off n cap:Nat) (ty:TypeId) (cur:Array Value) (dq:Nat->Bool) (w:World) (bV:w.heap[b]? =aa (.cells cur ty (0,0))) (cR:off+n<=cur.size) (bR: ∀j,j<n->cur[off+j]? =aa (vs j)) (nF: ∀j,(vs j).oneCell'=true) (Jy:n<=cap) (hm:cap<=maxLen) (JG:dq 0=true) (sU: ∀j W,0<j->j<n->w.heap.size<=W.heap.size->(∀k,k≠b->W.heap[k]? =w.heap[k]?)->Calls P g #[vs j,vs (j-1)] W λe gz=>e= .returned (.bool (!dq j))/\ ∃q,gz=W.drewN q),Calls P f #[.slice (aa ⟨b,off,ak⟩) n cap,.func (.func g) #[] #[]] w λe w'=>e= .returned (.slice (aa ⟨b,off,ak⟩) (ei dq n).length cap)/\Ext (λx=>x=b) w w'/\ ∃fq,w'.heap[b]? =aa (.cells fq ty (0,0))/\fq.size=cur.size/\(∀i,i<(ei dq n).length->fq[off+i]? =aa (vs ((ei dq n).getD i 0)))/\ ∀i,(ei dq n).length<=i->i<n->fq[off+i]? =aa (.slice ak 0 0)
 pM: ∀(a:Option Addr) (c:Nat) (w:World),Calls P f #[.slice a 0 c,.func (.func g) #[] #[]] w λe w'=>e= .returned (.slice a 0 c)/\w'=w
structure Fb (P:Program) (g:FuncId):Prop where
 both: ∀(dm hN n c cL kR m d:Nat) (xs ys:List Int) (w:World),xs.length=n->ys.length=m->n<=9223372036854775807->m<=9223372036854775807->(∀j,j<xs.length->w.cell? ⟨dm,hN+j,ak⟩=aa (.int .i64 (xs.getD j 0)))->
  (∀j,j<ys.length->w.cell? ⟨cL,kR+j,ak⟩=aa (.int .i64 (ys.getD j 0)))->
  Calls P g #[.slice (aa ⟨dm,hN,ak⟩) n c,.slice (aa ⟨cL,kR,ak⟩) m d] w λe w'=>e= .returned (.bool (xs==ys))/\ ∃q,w'=w.drewN q
 lens: ∀(aP a2:Option Addr) (n c m d:Nat) (w:World),n≠m->Calls P g #[.slice aP n c,.slice a2 m d] w λe w'=>e= .returned (.bool false)/\w'=w
 pM: ∀(aP a2:Option Addr) (c m d:Nat) (w:World),m<=9223372036854775807->Calls P g #[.slice aP 0 c,.slice a2 m d] w λe w'=>e= .returned (.bool (decide (m=0)))/\w'=w
theorem Up{P:Program}(h:Fb P g){w0:World}(A: ∀a v,w0.cell? a=aa v->w.cell? a=aa v){d l:List Int}{u z:Value}(F:c8 w0 X (.bG (d.map kf)) u)(B:c8 w0 X (.bG (l.map kf)) z)(K:d.length<=1000000000)(L:l.length<=1000000000):
  Calls P g #[u,z] w λe i=>e= .returned (.bool (d==l))/\ ∃q,i=w.drewN q:=by
 have m: ∀{e:Ending} {i:World} {c:Bool},e= .returned (.bool c)/\i=w->(d==l)=c->e= .returned (.bool (d==l))/\ ∃q,i=w.drewN q:=by
  rintro e i c ⟨rfl,rfl⟩ rfl;exact⟨rfl,0,rfl⟩
 rcases xU F with ⟨rfl,a,c,rfl⟩|⟨b,o,c,G,rfl,H⟩
 ·rcases xU B with ⟨rfl,n,k,rfl⟩|⟨p,r,k,C,rfl,D⟩
  ·exact(h.pM a n c 0 k w O).mono λe i q=>m q bl
  refine(h.pM a (aa ⟨p,r,ak⟩) c l.length k w O).mono λe i q=>m q ?_;cases l with
  |nil=>simp at C
  |cons y l=>simp
 rcases xU B with ⟨rfl,n,k,rfl⟩|⟨p,r,k,C,rfl,D⟩
 ·refine(h.lens (aa ⟨b,o,ak⟩) n d.length c 0 k w O).mono λe i q=>m q ?_;cases d with
  |nil=>simp at G
  |cons x d=>simp
 exact h.both b o d.length c p r l.length k d l w rfl rfl O O (λj s=>A _ _ (H j s)) λj s=>A _ _ (D j s)
theorem ab8(h:(ei u m)[i]? =aa p):p<m:=by have:=bX h;unfold ei at this;exact w5.1 (List.mem_filter.1 this).1
theorem aa8(a:Nat->Bool)(m:Nat):(ei a m).length<=m:=by unfold ei;exact eO (List.length_filter_le _ _) bl
theorem aa9{gW:Nat}(h:(ei u m)[i]? =aa p)(a:(ei u m)[gW]? =aa p):i=gW:=by
 have b:(ei u m).Nodup:=by unfold ei;exact List.nodup_range.filter _
 exact(List.getElem?_inj (d0.1 h).1 b).1 (h.trans a.symm)
section agh
variable {P:Program}
theorem YF{f:FuncId}(I:KR P f g)(ajq:Fb P g)(M:jh P f){n:List dw}{gs:Nat}(er:(U n m).size=1)(yI:(U n m).eb 0=aa m1)
  (d:List (List Int)) (hl: ∀l∈d,l.length<=1000000000):
  hY P G f [.aC n m gs (d.map (bj ai)) []] [ms 0 gs 1 (bj ai) d,.fn g []] (ms 0 gs 1 (bj ai) (gC d)) [.aC n m gs ((gC d).map (bj ai)) []]:=by
 refine⟨M,?_⟩;intro w X q N j9 gj kM gV;have sW:N.length=2:=gV.length;obtain⟨hW,iY,rfl⟩: ∃a b,N=[a,b]:=by
  match N,sW with
  | [a,b],_=>exact⟨a,b,rfl⟩
 have C:=Rel.l4 (P:=P) (nt:=2) j9 gj kM gV (df _);obtain⟨S,s8,_⟩:=gV;obtain rfl:iY= .func (.func g) #[] #[]:=by
  cases s8 with
  |fn _ _ N hs _=>
   have:N= #[]:=Kw hs;rw[this]
 generalize vy:({tmps:=[hW,Value.func (.func g) #[] #[]].toArray++Array.replicate (2-[hW,Value.func (.func g) #[] #[]].toArray.size) undef,defers:=[]}:Act)=act at C;generalize lU:Ctx.dB P G w X [E.aC n m gs (d.map (bj ai)) []].length q 2=K at C;have sS:K.X=X:=by rw[<-lU];rfl
 generalize ji:Lift.l4 [E.aC n m gs (d.map (bj ai)) []] [ms 0 gs 1 (bj ai) d,.fn g []]=y at C;have z:y.H 0=aa (.aC n m gs (d.map (bj ai)) []):=by rw[<-ji];rfl
 have T:y.H=eu [E.aC n m gs (d.map (bj ai)) []] 0:=by rw[<-ji];rfl
 have Y:own K q y.H=hQ X q (eu [E.aC n m gs (d.map (bj ai)) []] 0):=by funext b;rw[T];show(K.X b\/_)=_;rw[sS];rfl
 rw[<-Y] at S;have sR:bb y.H 0 (aa (E.aC n m gs ((gC d).map (bj ai)) []))=eu [E.aC n m gs ((gC d).map (bj ai)) []] 0:=by
  rw[T];funext j
  match j with
  |0=>rfl
  |j+1=>rfl
 have fin: ∀(o:Map) (w':World) (v:Value),Rel K o {y with H:=bb y.H 0 (aa (.aC n m gs ((gC d).map (bj ai)) []))} act w'->bB o w' (own K o (bb y.H 0 (aa (.aC n m gs ((gC d).map (bj ai)) [])))) (ms 0 gs 1 (bj ai) (gC d)) v->
   ∃u,∃_i:Unit,∃β,Ending.returned v= .returned u/\True/\Left q β [E.aC n m gs (d.map (bj ai)) []] [E.aC n m gs ((gC d).map (bj ai)) []] w w' X (ms 0 gs 1 (bj ai) (gC d)) u:=by
  intro o w' v b5 D;subst lU;obtain⟨β,s9⟩:=EO (out:=[E.aC n m gs ((gC d).map (bj ai)) []]) b5 (df _) D rfl (by
   intro id e0 F;refine⟨⟨e0,?_,jR.refl _⟩,?_⟩
   ·show bb y.H 0 _ id=_;rw[sR];exact F
   match id with
   |0=>cases F;exact⟨rfl,rfl⟩
   |k+1=>cases F)
  exact⟨_,(),β,rfl,trivial,s9⟩
 have vt:y.H 0≠ak:=by rw[z];simp
 have jj:1<=gs:=(C.heap 0 _ z).2.1;have pe:=NV (sz:=1) (C.heap 0 _ z).2 er S;rcases pe with ⟨rfl,h1,A⟩|⟨b,cap,r,B,rfl,A,pz,oH,nD,Dk,b5,Jk⟩
 ·have sZ:d=[]:=by simpa using h1
  subst sZ;refine(I.pM ak 0 w).mono ?_;rintro e1 gO ⟨rfl,rfl⟩;have e0:gC []=[]:=rfl;refine fin q _ _ ?_ ?_
  ·have:=C.zD 0 _ z;rw[e0];exact this
  rw[e0];exact .hq 0 gs 1 jj A
 have vx:own K q y.H b:= .inr ⟨0,vt,.inl ⟨_,A⟩⟩;rw[dF] at nD;have hlen:d.length<=r.size:=O
 have L: ∀(j:Nat) (p:j<d.length),c8 w (λx=>x=b) (.bG (d[j].map kf)) (r[j]' O):=λj p=>by
  have s0:=b5 j 0 (bj ai d[j]) (.bG (d[j].map kf)) _ (by rw[eG,bC p];rfl) rfl (by rw[show j*1+0=j by omega];exact hT O);exact s0.wK (λx hx=>by rw[show x=b from hx];exact vx) λc bW e=>Jk j 0 c bW e
 obtain⟨vs,vI⟩: ∃vs:Nat->Value,vs=λj=>if j<d.length then r.getD j undef else .slice ak 0 0:=⟨_,rfl⟩
 have D: ∀j (p:j<d.length),vs j=r[j]' O:=λj p=>by
  rw[vI];show(if j<d.length then _ else _)=_;rw[bg p];simp[show j<r.size by omega]
 have nF: ∀j,(vs j).oneCell'=true:=λj=>by
  by_cases p:j<d.length
  ·rw[D j p];exact(L j p).hP
  rw[vI];show(if j<d.length then _ else _:Value).oneCell'=true;rw[be p];rfl
 have run:=I.run vs b 0 d.length cap (U n m).ty r (k8 d) w pz O (λj p=>by rw[dy,D j p];exact hT O) nF nD Dk (by simp[k8]) (λj W hj0 p kN lV=>by
  have kK:Ext (λx=>x=b) w {w with heap:=W.heap}:=⟨rfl,rfl,rfl,kN,λk _ hk=>lV k hk⟩
  have e:=Up ajq (w0:={w with heap:=W.heap}) (w:=W) (λ_ _ h=>h) ((L j p).mono kK λ_ _ h=>h) ((L (j-1) O).mono kK λ_ _ h=>h) (hl _ (fW _)) (hl _ (fW _));rw[D j p,D (j-1) O];have hk:(d[j]==d[j-1]' O)= !k8 d j:=by
   have g1:d.getD j []=d[j]:=by rw[fc,bC p];rfl
   have g2:d.getD (j-1) []=d[j-1]' O:=by rw[fc,bC O];rfl
   unfold k8;rw[g1,g2]
   have:j≠0:=O
   by_cases A:d[j]=d[j-1]' O
   ·simp[this,A]
   simp[this,A]
  rw[hk] at e;exact e)
 rw[dF];refine run.mono ?_;rintro e1 gO ⟨rfl,kK,fq,Q,Dm,JH,aj5⟩;have s:(gC d).length=(ei (k8 d) d.length).length:=by unfold gC;rw[dF]
 have aj7:=aa8 (k8 d) d.length;obtain⟨o,Dq,qX⟩:=C.pick 0 z er A pz Dm Q kK ((gC d).map (bj ai)) (by rw[dF,s];omega) (λrow vF=>by obtain⟨_,_,rfl⟩:=eH.1 vF;rfl) (gC d).length [] (λ_ _ _ h=>br h lv) (λi j h1 h2 _=>by rw[dF] at h2;omega) (λi=>(ei (k8 d) d.length).getD i 0) (λi R _=>by
   rw[s] at R;have h:=bC R;have hp:=ab8 h;have h1:=JH i R;rw[fc,h,Option.getD_some];rw[dy,fc,h,Option.getD_some,D _ hp] at h1;refine⟨by rw[dF];exact hp,?_,λ_ _=>lv,λj p=>?_⟩
   ·unfold gC;rw[eG,eG,eG,h,bC hp];show aa (bj ai (d.getD _ []))=aa (bj ai d[_]);rw[fc,bC hp];rfl
   ·obtain rfl:j=0:=O
    rw[Nat.mul_one,Nat.mul_one,nV,nV,h1,hT O]) (λi gW R t _ _ h=>by
   rw[s] at R t;simp only[List.getD_eq_getElem?_getD,List.getElem?_eq_getElem R,List.getElem?_eq_getElem t,Option.getD_some] at h;exact aa9 (bC R) (by rw[h];exact bC t))
 refine fin o _ _ qX ?_;have lb:b<gO.heap.size:=(iD.1 Q).1
 have:=bB.bf (β:=o) (w:=gO) (X:=own K o (bb y.H 0 (aa (.aC n m gs ((gC d).map (bj ai)) [])))) 0 gs 1 0 (gC d).length cap b fq.size (U n m).ty jj (by rw[Dq];exact A) lb (by unfold World.shape?;rw[Q]) O (by rw[s];omega) Dk;rw[s,gN] at this;rw[show ms 0 gs 1 (bj ai) (gC d)=V.bf 0 gs 1 0 (ei (k8 d) d.length).length by rw[<-s,show(gC d).length=(List.map (bj ai) (gC d)).length by rw[dF]]];exact this
end agh
end Go.Lift

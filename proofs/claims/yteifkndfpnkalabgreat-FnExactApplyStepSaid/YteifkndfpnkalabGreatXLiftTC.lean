/- Tools. -/
import Derived.Test.YteifkndfpnkalabGreatXLiftSort
set_option linter.unusedVariables false
namespace Go.Lift
open Go
open Go.Proofs
open Option renaming some -> aa, none -> ak, map_some -> gN
theorem acG{k:Type}{l l':List k}(h:l.Perm l'): ∃d:Nat->Nat,(∀i,i<l'.length->d i<l.length/\l'[i]? =l[d i]?)/\ ∀i j,i<l'.length->j<l'.length->d i=d j->i=j:=by
 induction h with
 |nil=>exact⟨id,λi c=>br c (o6 _),λi j c=>br c (o6 _)⟩
 |cons a _ w=>
  obtain⟨d,n,o⟩:=w;refine⟨λi=>match i with|0=>0|i+1=>d i+1,λi c=>?_,λi j c m e=>?_⟩
  ·match i with
   |0=>exact⟨bl,rfl⟩
   |i+1=>
    obtain⟨aP,a2⟩:=n i (by simpa using c);exact⟨by simpa using aP,by simpa using a2⟩
  match i,j with
  |0,0=>rfl
  |0,j+1=>simp at e
  |i+1,0=>simp at e
  |i+1,j+1=>simp at e;rw[o i j (by simpa using c) (by simpa using m) e]
 |swap a b l=>
  refine⟨λi=>match i with|0=>1|1=>0|i+2=>i+2,λi c=>?_,λi j c m e=>?_⟩
  ·match i with
   |0=>exact⟨bl,rfl⟩
   |1=>exact⟨bl,rfl⟩
   |i+2=>exact⟨by simpa using c,bl⟩
  match i,j with
  |0,0=>rfl
  |0,1=>simp at e
  |0,j+2=>simp at e
  |1,0=>simp at e
  |1,1=>rfl
  |1,j+2=>simp at e
  |i+2,0=>simp at e
  |i+2,1=>simp at e
  |i+2,j+2=>simpa using e
 |trans _ _ p q=>
  obtain⟨d,n,o⟩:=p;obtain⟨s,r,x⟩:=q;refine⟨λi=>d (s i),λi c=>?_,λi j c m e=>?_⟩
  ·obtain⟨aP,a2⟩:=r i c;obtain⟨a3,a4⟩:=n (s i) aP;exact⟨a3,a2.trans a4⟩
  exact x i j c m (o _ _ (r i c).1 (r j m).1 e)
variable {w:World}{X:Nat->Prop}{t:List dy}{m p m1 i:Nat}{g:FuncId}{G:fg}{u:Nat->Bool}
theorem NY{W:Map}{k gen sz:Nat}{a:List (List T)}{x:Value}(C:c4 W w X k (.aC t m gen a []))(F:(U t m).size=sz)(G:bC W w X (.bd k gen sz 0 a.length) x):
  (x= .slice ak 0 0/\a=[]/\W k=aa (ak,gen))\/ ∃(b d:Nat) (e:Array Value) (B:Nat->Nat->Nat->Prop),x= .slice (aa ⟨b,0,ak⟩) a.length d/\W k=aa (aa b,gen)/\w.heap[b]? =aa (.cells e (U t m).ty (0,0))/\e.size=d*sz/\a.length<=d/\d<=maxLen/\
   (∀(i j:Nat) (l:List T) (y:T) (u:Value),a[i]? =aa l->l[j]? =aa y->e[i*sz+j]? =aa u->fP t w X ((U t m).ed j) y u (B i j))/\ ∀i j c,B i j c->c≠b:=by
 obtain⟨q,o⟩:=rW C;rcases fb G o with ⟨d,b,n,H,rfl,rfl,E,h,r,K,s⟩|⟨rfl,_,z,rfl⟩
 ·rcases C.2 with ⟨p,_⟩|⟨I,e,B,p,D,M,N,L,Q,_⟩
  ·rw[o] at p;cases p
  rw[o] at p;cases p;have A:e.size=d*sz:=by
   unfold World.shape? at h;rw[D] at h;simp at h;rw[<-r] at h;rw[dA] at h;exact h.2
  refine .inr ⟨b,d,e,B,by rw[gL],o,D,A,K,s,λi j l y u R f g=>(L i j l y u R f (by rw[F];exact g)).none,λi j c v=>(Q i j c v).2.2⟩
 exact .inl ⟨rfl,nQ z,o⟩
section D7
open Go.Shelf Go.RowKit Go.Lib Go.Sort
variable {P:Program}{ρ:Ren}
theorem abu(L:SlLaysF.n6 P ρ)(raw:uo P g)(I6: ∀args w,(callFunc g args).run P w= .ok (.enter g args) w)(call:ji P (ρ.f 6)){p:List dy}{r:Nat}(et:(U p m).size=1)(yR:(U p m).ed 0=aa m1)
  (rows:List (List Int)) (ca:rows.length<=1000000000) (cS: ∀l∈rows,l.length<=1000000000):
  hW P G (ρ.f 6) [.aC p m r (rows.map (bh ai)) []] [ms 0 r 1 (bh ai) rows,.fn g []] (.bZ []) [.aC p m r ((fD rows).map (bh ai)) []]:=by
 refine⟨call,?_⟩;intro w X s us j7 gi kK gT;have s4:us.length=2:=gT.length;obtain⟨hU,ja,rfl⟩: ∃a b,us=[a,b]:=by
  match us,s4 with
  | [a,b],_=>exact⟨a,b,rfl⟩
 have V:=Rel.l1 (P:=P) (nt:=2) j7 gi kK gT (df _);obtain⟨vH,te,_⟩:=gT;obtain rfl:ja= .func (.func g) #[] #[]:=by
  cases te with
  |fn _ _ us hs _=>
   have:us= #[]:=Ks hs;rw[this]
 generalize vw:({tmps:=[hU,Value.func (.func g) #[] #[]].toArray++Array.replicate (2-[hU,Value.func (.func g) #[] #[]].toArray.size) undef,defers:=[]}:Act)=act at V;generalize lN:Ctx.dD P G w X [E.aC p m r (rows.map (bh ai)) []].length s 2=K at V;have sY:K.X=X:=by rw[<-lN];rfl
 generalize jj:Lift.l1 [E.aC p m r (rows.map (bh ai)) []] [ms 0 r 1 (bh ai) rows,.fn g []]=D at V;have Q:D.H 0=aa (.aC p m r (rows.map (bh ai)) []):=by rw[<-jj];rfl
 have yJ:D.H=ev [E.aC p m r (rows.map (bh ai)) []] 0:=by rw[<-jj];rfl
 have JJ:own K s D.H=hQ X s (ev [E.aC p m r (rows.map (bh ai)) []] 0):=by funext b;rw[yJ];show(K.X b\/_)=_;rw[sY];rfl
 rw[<-JJ] at vH;have sX:a' D.H 0 (aa (E.aC p m r ((fD rows).map (bh ai)) []))=ev [E.aC p m r ((fD rows).map (bh ai)) []] 0:=by
  rw[yJ];funext j
  match j with
  |0=>rfl
  |j+1=>rfl
 have fin: ∀(R:Map) (w':World),Rel K R {D with H:=a' D.H 0 (aa (.aC p m r ((fD rows).map (bh ai)) []))} act w'->
   ∃u,∃_i:Unit,∃β,Ending.returned (.tuple #[])= .returned u/\True/\Left s β [E.aC p m r (rows.map (bh ai)) []] [E.aC p m r ((fD rows).map (bh ai)) []] w w' X (.bZ []) u:=by
  intro R w' b6;subst lN;obtain⟨β,tf⟩:=EF (out:=[E.aC p m r ((fD rows).map (bh ai)) []]) b6 (df _) (.bZ [] #[] rfl λi c u bU _=>by simp at bU) rfl (by
   intro id e0 I;refine⟨⟨e0,?_,jQ.refl _⟩,?_⟩
   ·show a' D.H 0 _ id=_;rw[sX];exact I
   match id with
   |0=>cases I;exact⟨rfl,rfl⟩
   |k+1=>cases I)
  exact⟨_,(),β,rfl,trivial,tf⟩
 have vq:D.H 0≠ak:=by rw[Q];simp
 have pg:=NY (sz:=1) (V.heap 0 _ Q).2 et vH;rcases pg with ⟨rfl,h1,dr⟩|⟨b,cap,o,B,rfl,dr,z,oI,nD,Dk,b6,Jh⟩
 ·have s9:rows=[]:=by simpa using h1
  subst s9;refine(AnyF.slices_SortFunc_none (P:=P) (ρ:=ρ) {L with} ak 0 _ w).mono ?_;rintro Y gM ⟨rfl,rfl⟩;refine fin s _ ?_
  have:=V.zI 0 _ Q;rw[show fD []=[] by simp[fD]];exact this
 have vv:own K s D.H b:= .inr ⟨0,vq,.inl ⟨_,dr⟩⟩;rw[dH] at nD;have hlen:rows.length<=o.size:=O
 have oL: ∀(j:Nat) (t:j<rows.length),c7 w (λx=>x=b) (.bH (rows[j].map ke)) (o[j]' O):=λj t=>by
  have ta:=b6 j 0 (bh ai rows[j]) (.bH (rows[j].map ke)) _ (by rw[eG,bD t];rfl) rfl (by rw[show j*1+0=j by omega];exact hR O);exact ta.wU (λx hx=>by rw[show x=b from hx];exact vv) λc bU e=>Jh j 0 c bU e
 obtain⟨F,sV,sW⟩: ∃F:Fin rows.length->dY w λx=>x=b,(∀j,(F j).enc=o[j.1]'(by have:=j.2;omega))/\ ∀j,(F j).cb=rows[j.1]:=
  ⟨λj=>⟨(o[j.1]'(by have:=j.2;omega),rows[j.1]),oL j.1 j.2,cS _ (fV j.2)⟩,λ_=>rfl,λ_=>rfl⟩
 obtain⟨d,cJ⟩: ∃d:Array (dY w λx=>x=b),d=Array.ofFn F:=⟨_,rfl⟩
 have A:d.size=rows.length:=by rw[cJ];exact Array.size_ofFn
 have W: ∀(j:Nat) (t:j<d.size),d[j].enc=o[j]' O/\d[j].cb=rows[j]' O:=λj t=>by
  subst cJ;rw[Array.getElem_ofFn];exact⟨sV _,sW _⟩
 have nC:(d.map dY.cb).toList=rows:=by
  refine List.ext_getElem (by simp[A]) λj h1 h2=>?_;rw[Array.getElem_toList,Array.getElem_map];exact(W j O).2
 have hH:Holds dY.enc w b 0 d:=λj t=>by
  rw[dA,getElem!_pos d j t,(W j t).1];refine⟨?_,by simp[World.frozen?,z]⟩
  have:j<o.size:=O
  simp[World.cell?,z,this]
 have s0:CmpLays1 P g #[] dY.enc uX b 0 d.size w:=CmpReads.lays (λm os dk hs x y=>by
  have kI:=HX (w:=w) (X:=λx=>x=b) (b:=b) (m:=m) (dk:=dk) (os:=os) rfl;exact(Qf raw (x.2.1.mono kI λ_ _ h=>h) (y.2.1.mono kI λ_ _ h=>h) x.2.2 y.2.2).mono (by
   rintro Y gM ⟨rfl,rfl⟩;exact⟨rfl,0,rfl⟩))
 have run:=Any.slices_SortFunc L dY.enc dY.one uX P7 g #[] b 0 cap d w I6 s0 hH (iE.1 z).1 O;rw[A] at run;rw[dH];refine run.mono ?_;rintro Y gM ⟨rfl,q,n,os,M,hs,mG⟩;rw[<-A] at M hs;have N:=NM M hs;rw[nC] at N;have v:q.size=d.size:=M.1;obtain⟨S,ail,aim⟩:=acG (l:=d.toList) (l':=q.toList) (by
  have h2:=M.2.2;have Y:q.extract 0 d.size=q:=by rw[<-v];simp
  have e2:d.extract 0 d.size=d:=bl
  rw[Y,e2] at h2;exact h2.symm)
 have T:(Sort.ahead w n).heap[b]? =aa (.cells o (U p m).ty (0,0)):=z;have C:sortWorld dY.enc w b 0 n q os=grow ((Sort.ahead w n).setRow b (putCells dY.enc 0 q o)) os:=by
  show grow (putRow dY.enc (Sort.ahead w n) b 0 q) os=_;congr 1;exact Ls T _
 have hCs:(putCells dY.enc 0 q o).size=o.size:=by simp[putCells]
 have yL: ∀i,i<q.size->(putCells dY.enc 0 q o)[i]? =aa (q[i]!).enc:=λi aL=>by
  unfold putCells;rw[Array.getElem?_mapIdx,hR O];simp only[gN];rw[bg O,Nat.sub_zero]
 have agQ:gM.heap[b]? =aa (.cells (putCells dY.enc 0 q o) (U p m).ty (0,0)):=by
  rw[mG,C];show(_++os)[b]? =_;have Jt:b<((Sort.ahead w n).setRow b (putCells dY.enc 0 q o)).heap.size:=(iE.1 (setRow_heap _ _ _ _ _ _ T)).1;rw[Array.getElem?_append_left Jt];exact setRow_heap _ _ _ _ _ _ T
 have agJ:Ext (λx=>x=b) w gM:=by rw[mG];exact HX rfl
 have ag2:q.size=rows.length:=by rw[v,A]
 have RJ:(fD rows).length=rows.length:=by rw[<-N,l3,Array.size_map,ag2]
 have aha: ∀i (aL:i<rows.length),∃M:S i<rows.length,(putCells dY.enc 0 q o)[i]? =o[S i]? /\(fD rows)[i]? =rows[S i]? :=λi aL=>by
  obtain⟨aP,a2⟩:=ail i (by rw[l3];omega);rw[l3,A] at aP;rw[nc,nc,hR O,hR O] at a2;have a3:q[i]' O=d[S i]' O:=by simpa using a2
  refine⟨aP,?_,?_⟩
  ·rw[yL i O,getElem!_pos q i O,a3,(W (S i) O).1,hR O]
  rw[<-N,nc,Array.getElem?_map,hR O,gN,a3,(W (S i) O).2,bD aP]
 obtain⟨R,_,q6⟩:=V.pick 0 Q et dr z hCs agQ agJ ((fD rows).map (bh ai)) (by rw[dH,RJ];omega) (λrow C=>by obtain⟨_,_,rfl⟩:=eH.1 C;rfl) rows.length [] (λ_ _ _ h=>br h lr) (λi j h1 h2 _=>by rw[dH,RJ] at h2;omega) S (λi aL _=>by
   obtain⟨M,Y,e2⟩:=aha i aL;exact⟨by rw[dH];exact M,by rw[eG,eG,e2],λ_ _=>lr,λj t=>by rw[show j=0 by omega,Nat.mul_one,Nat.mul_one];exact Y⟩) λi gU aL vz _ _ h=>aim i gU (by rw[l3];omega) (by rw[l3];omega) h
 exact fin R _ q6
theorem Xd(L:SlLaysF.n6 P ρ)(b:uo P g)(e: ∀args w,(callFunc g args).run P w= .ok (.enter g args) w)(a:ji P (ρ.f 6)){n:Nat}(k:(U t m).size=1)(c:(U t m).ed 0=aa n){x r:List (List Int)}(h:mN x=aa r):
  hW P G (ρ.f 6) [.aC t m i (x.map (bh ai)) []] [ms 0 i 1 (bh ai) x,.fn g []] (.bZ []) [.aC t m i (r.map (bh ai)) []]:=by
 unfold mN at h;split at h
 ·rename_i d;cases h;exact abu L b e a k c x d.1 d.2
 cases h
end D7
theorem wP(a:Nat->Bool)(m:Nat):ej a (m+1)=ej a m++(if a m then [m] else []):=by unfold ej;rw[qf,xa];congr 1;by_cases h:a m<;>simp[h]
theorem A2(h: ∀j,j<m->u j=true):ej u m=List.range m:=by unfold ej;exact List.filter_eq_self.2 λj a=>h j (xe.1 a)
structure KM (P:Program) (f g:FuncId):Prop where
 run: ∀(vs:Nat->Value) (b off n cap:Nat) (ty:TypeId) (cur:Array Value) (dt:Nat->Bool) (w:World) (bV:w.heap[b]? =aa (.cells cur ty (0,0))) (ca:off+n<=cur.size) (bx: ∀j,j<n->cur[off+j]? =aa (vs j)) (nF: ∀j,(vs j).oneCell'=true) (Jv:n<=cap) (hm:cap<=maxLen) (JD:dt 0=true) (s0: ∀j W,0<j->j<n->w.heap.size<=W.heap.size->(∀k,k≠b->W.heap[k]? =w.heap[k]?)->Calls P g #[vs j,vs (j-1)] W λe gy=>e= .returned (.bool (!dt j))/\ ∃q,gy=W.drewN q),Calls P f #[.slice (aa ⟨b,off,ak⟩) n cap,.func (.func g) #[] #[]] w λe w'=>e= .returned (.slice (aa ⟨b,off,ak⟩) (ej dt n).length cap)/\Ext (λx=>x=b) w w'/\ ∃fq,w'.heap[b]? =aa (.cells fq ty (0,0))/\fq.size=cur.size/\(∀i,i<(ej dt n).length->fq[off+i]? =aa (vs ((ej dt n).getD i 0)))/\ ∀i,(ej dt n).length<=i->i<n->fq[off+i]? =aa (.slice ak 0 0)
 pX: ∀(a:Option Addr) (c:Nat) (w:World),Calls P f #[.slice a 0 c,.func (.func g) #[] #[]] w λe w'=>e= .returned (.slice a 0 c)/\w'=w
structure E7 (P:Program) (g:FuncId):Prop where
 both: ∀(dm hN n c cM kO m d:Nat) (xs ys:List Int) (w:World),xs.length=n->ys.length=m->n<=9223372036854775807->m<=9223372036854775807->(∀j,j<xs.length->w.cell? ⟨dm,hN+j,ak⟩=aa (.int .i64 (xs.getD j 0)))->
  (∀j,j<ys.length->w.cell? ⟨cM,kO+j,ak⟩=aa (.int .i64 (ys.getD j 0)))->
  Calls P g #[.slice (aa ⟨dm,hN,ak⟩) n c,.slice (aa ⟨cM,kO,ak⟩) m d] w λe w'=>e= .returned (.bool (xs==ys))/\ ∃q,w'=w.drewN q
 lens: ∀(aP a2:Option Addr) (n c m d:Nat) (w:World),n≠m->Calls P g #[.slice aP n c,.slice a2 m d] w λe w'=>e= .returned (.bool false)/\w'=w
 pX: ∀(aP a2:Option Addr) (c m d:Nat) (w:World),m<=9223372036854775807->Calls P g #[.slice aP 0 c,.slice a2 m d] w λe w'=>e= .returned (.bool (decide (m=0)))/\w'=w
theorem Up{P:Program}(h:E7 P g){w0:World}(A: ∀a v,w0.cell? a=aa v->w.cell? a=aa v){d l:List Int}{u z:Value}(F:c7 w0 X (.bH (d.map ke)) u)(B:c7 w0 X (.bH (l.map ke)) z)(K:d.length<=1000000000)(L:l.length<=1000000000):
  Calls P g #[u,z] w λe i=>e= .returned (.bool (d==l))/\ ∃q,i=w.drewN q:=by
 have m: ∀{e:Ending} {i:World} {c:Bool},e= .returned (.bool c)/\i=w->(d==l)=c->e= .returned (.bool (d==l))/\ ∃q,i=w.drewN q:=by
  rintro e i c ⟨rfl,rfl⟩ rfl;exact⟨rfl,0,rfl⟩
 rcases x4 F with ⟨rfl,a,c,rfl⟩|⟨b,o,c,G,rfl,H⟩
 ·rcases x4 B with ⟨rfl,n,k,rfl⟩|⟨p,r,k,C,rfl,D⟩
  ·exact(h.pX a n c 0 k w O).mono λe i q=>m q bl
  refine(h.pX a (aa ⟨p,r,ak⟩) c l.length k w O).mono λe i q=>m q ?_;cases l with
  |nil=>simp at C
  |cons y l=>simp
 rcases x4 B with ⟨rfl,n,k,rfl⟩|⟨p,r,k,C,rfl,D⟩
 ·refine(h.lens (aa ⟨b,o,ak⟩) n d.length c 0 k w O).mono λe i q=>m q ?_;cases d with
  |nil=>simp at G
  |cons x d=>simp
 exact h.both b o d.length c p r l.length k d l w rfl rfl O O (λj s=>A _ _ (H j s)) λj s=>A _ _ (D j s)
theorem acg(h:(ej u m)[i]? =aa p):p<m:=by have:=bX h;unfold ej at this;exact xe.1 (List.mem_filter.1 this).1
theorem abf(a:Nat->Bool)(m:Nat):(ej a m).length<=m:=by unfold ej;exact eO (List.length_filter_le _ _) bl
theorem abg{gU:Nat}(h:(ej u m)[i]? =aa p)(a:(ej u m)[gU]? =aa p):i=gU:=by
 have b:(ej u m).Nodup:=by unfold ej;exact List.nodup_range.filter _
 exact(List.getElem?_inj (d6.1 h).1 b).1 (h.trans a.symm)
section agj
variable {P:Program}
theorem Yx{f:FuncId}(I:KM P f g)(ajn:E7 P g)(M:ji P f){n:List dy}{gs:Nat}(et:(U n m).size=1)(yR:(U n m).ed 0=aa m1)
  (d:List (List Int)) (cS: ∀l∈d,l.length<=1000000000):
  hW P G f [.aC n m gs (d.map (bh ai)) []] [ms 0 gs 1 (bh ai) d,.fn g []] (ms 0 gs 1 (bh ai) (gC d)) [.aC n m gs ((gC d).map (bh ai)) []]:=by
 refine⟨M,?_⟩;intro w X q N j7 gi kK gT;have s4:N.length=2:=gT.length;obtain⟨hU,ja,rfl⟩: ∃a b,N=[a,b]:=by
  match N,s4 with
  | [a,b],_=>exact⟨a,b,rfl⟩
 have C:=Rel.l1 (P:=P) (nt:=2) j7 gi kK gT (df _);obtain⟨S,te,_⟩:=gT;obtain rfl:ja= .func (.func g) #[] #[]:=by
  cases te with
  |fn _ _ N hs _=>
   have:N= #[]:=Ks hs;rw[this]
 generalize vw:({tmps:=[hU,Value.func (.func g) #[] #[]].toArray++Array.replicate (2-[hU,Value.func (.func g) #[] #[]].toArray.size) undef,defers:=[]}:Act)=act at C;generalize lN:Ctx.dD P G w X [E.aC n m gs (d.map (bh ai)) []].length q 2=K at C;have sY:K.X=X:=by rw[<-lN];rfl
 generalize jj:Lift.l1 [E.aC n m gs (d.map (bh ai)) []] [ms 0 gs 1 (bh ai) d,.fn g []]=y at C;have z:y.H 0=aa (.aC n m gs (d.map (bh ai)) []):=by rw[<-jj];rfl
 have T:y.H=ev [E.aC n m gs (d.map (bh ai)) []] 0:=by rw[<-jj];rfl
 have Y:own K q y.H=hQ X q (ev [E.aC n m gs (d.map (bh ai)) []] 0):=by funext b;rw[T];show(K.X b\/_)=_;rw[sY];rfl
 rw[<-Y] at S;have sX:a' y.H 0 (aa (E.aC n m gs ((gC d).map (bh ai)) []))=ev [E.aC n m gs ((gC d).map (bh ai)) []] 0:=by
  rw[T];funext j
  match j with
  |0=>rfl
  |j+1=>rfl
 have fin: ∀(o:Map) (w':World) (v:Value),Rel K o {y with H:=a' y.H 0 (aa (.aC n m gs ((gC d).map (bh ai)) []))} act w'->bC o w' (own K o (a' y.H 0 (aa (.aC n m gs ((gC d).map (bh ai)) [])))) (ms 0 gs 1 (bh ai) (gC d)) v->
   ∃u,∃_i:Unit,∃β,Ending.returned v= .returned u/\True/\Left q β [E.aC n m gs (d.map (bh ai)) []] [E.aC n m gs ((gC d).map (bh ai)) []] w w' X (ms 0 gs 1 (bh ai) (gC d)) u:=by
  intro o w' v b6 D;subst lN;obtain⟨β,tf⟩:=EF (out:=[E.aC n m gs ((gC d).map (bh ai)) []]) b6 (df _) D rfl (by
   intro id e0 F;refine⟨⟨e0,?_,jQ.refl _⟩,?_⟩
   ·show a' y.H 0 _ id=_;rw[sX];exact F
   match id with
   |0=>cases F;exact⟨rfl,rfl⟩
   |k+1=>cases F)
  exact⟨_,(),β,rfl,trivial,tf⟩
 have vq:y.H 0≠ak:=by rw[z];simp
 have jk:1<=gs:=(C.heap 0 _ z).2.1;have pg:=NY (sz:=1) (C.heap 0 _ z).2 et S;rcases pg with ⟨rfl,h1,A⟩|⟨b,cap,r,B,rfl,A,pE,oI,nD,Dk,b6,Jh⟩
 ·have s9:d=[]:=by simpa using h1
  subst s9;refine(I.pX ak 0 w).mono ?_;rintro e1 gM ⟨rfl,rfl⟩;have e0:gC []=[]:=rfl;refine fin q _ _ ?_ ?_
  ·have:=C.zI 0 _ z;rw[e0];exact this
  rw[e0];exact .ho 0 gs 1 jk A
 have vv:own K q y.H b:= .inr ⟨0,vq,.inl ⟨_,A⟩⟩;rw[dH] at nD;have hlen:d.length<=r.size:=O
 have L: ∀(j:Nat) (p:j<d.length),c7 w (λx=>x=b) (.bH (d[j].map ke)) (r[j]' O):=λj p=>by
  have ta:=b6 j 0 (bh ai d[j]) (.bH (d[j].map ke)) _ (by rw[eG,bD p];rfl) rfl (by rw[show j*1+0=j by omega];exact hR O);exact ta.wU (λx hx=>by rw[show x=b from hx];exact vv) λc bU e=>Jh j 0 c bU e
 obtain⟨vs,vG⟩: ∃vs:Nat->Value,vs=λj=>if j<d.length then r.getD j undef else .slice ak 0 0:=⟨_,rfl⟩
 have D: ∀j (p:j<d.length),vs j=r[j]' O:=λj p=>by
  rw[vG];show(if j<d.length then _ else _)=_;rw[bg p];simp[show j<r.size by omega]
 have nF: ∀j,(vs j).oneCell'=true:=λj=>by
  by_cases p:j<d.length
  ·rw[D j p];exact(L j p).hP
  rw[vG];show(if j<d.length then _ else _:Value).oneCell'=true;rw[be p];rfl
 have run:=I.run vs b 0 d.length cap (U n m).ty r (k5 d) w pE O (λj p=>by rw[dA,D j p];exact hR O) nF nD Dk (by simp[k5]) (λj W hj0 p kL lO=>by
  have kI:Ext (λx=>x=b) w {w with heap:=W.heap}:=⟨rfl,rfl,rfl,kL,λk _ hk=>lO k hk⟩
  have e:=Up ajn (w0:={w with heap:=W.heap}) (w:=W) (λ_ _ h=>h) ((L j p).mono kI λ_ _ h=>h) ((L (j-1) O).mono kI λ_ _ h=>h) (cS _ (fV _)) (cS _ (fV _));rw[D j p,D (j-1) O];have hk:(d[j]==d[j-1]' O)= !k5 d j:=by
   have g1:d.getD j []=d[j]:=by rw[fa,bD p];rfl
   have g2:d.getD (j-1) []=d[j-1]' O:=by rw[fa,bD O];rfl
   unfold k5;rw[g1,g2]
   have:j≠0:=O
   by_cases A:d[j]=d[j-1]' O
   ·simp[this,A]
   simp[this,A]
  rw[hk] at e;exact e)
 rw[dH];refine run.mono ?_;rintro e1 gM ⟨rfl,kI,fq,Q,Dm,JE,aj2⟩;have s:(gC d).length=(ej (k5 d) d.length).length:=by unfold gC;rw[dH]
 have aj4:=abf (k5 d) d.length;obtain⟨o,Dq,q6⟩:=C.pick 0 z et A pE Dm Q kI ((gC d).map (bh ai)) (by rw[dH,s];omega) (λrow vD=>by obtain⟨_,_,rfl⟩:=eH.1 vD;rfl) (gC d).length [] (λ_ _ _ h=>br h lr) (λi j h1 h2 _=>by rw[dH] at h2;omega) (λi=>(ej (k5 d) d.length).getD i 0) (λi R _=>by
   rw[s] at R;have h:=bD R;have hp:=acg h;have h1:=JE i R;rw[fa,h,Option.getD_some];rw[dA,fa,h,Option.getD_some,D _ hp] at h1;refine⟨by rw[dH];exact hp,?_,λ_ _=>lr,λj p=>?_⟩
   ·unfold gC;rw[eG,eG,eG,h,bD hp];show aa (bh ai (d.getD _ []))=aa (bh ai d[_]);rw[fa,bD hp];rfl
   ·obtain rfl:j=0:=O
    rw[Nat.mul_one,Nat.mul_one,nS,nS,h1,hR O]) (λi gU R t _ _ h=>by
   rw[s] at R t;simp only[List.getD_eq_getElem?_getD,List.getElem?_eq_getElem R,List.getElem?_eq_getElem t,Option.getD_some] at h;exact abg (bD R) (by rw[h];exact bD t))
 refine fin o _ _ q6 ?_;have k9:b<gM.heap.size:=(iE.1 Q).1
 have:=bC.bd (β:=o) (w:=gM) (X:=own K o (a' y.H 0 (aa (.aC n m gs ((gC d).map (bh ai)) [])))) 0 gs 1 0 (gC d).length cap b fq.size (U n m).ty jk (by rw[Dq];exact A) k9 (by unfold World.shape?;rw[Q]) O (by rw[s];omega) Dk;rw[s,gL] at this;rw[show ms 0 gs 1 (bh ai) (gC d)=V.bd 0 gs 1 0 (ej (k5 d) d.length).length by rw[<-s,show(gC d).length=(List.map (bh ai) (gC d)).length by rw[dH]]];exact this
end agj
end Go.Lift

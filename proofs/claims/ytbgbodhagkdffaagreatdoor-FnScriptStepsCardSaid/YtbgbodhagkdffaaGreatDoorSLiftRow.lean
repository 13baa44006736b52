/- Tools. -/
import Derived.Test.YtbgbodhagkdffaaGreatDoorSLiftSq
import Derived.ProofKit
import Derived.OpenShut
import Derived.Deep.DeepHandedRow
import Derived.Lib.LaidTab
import Derived.Lib.AtoiErrMem
import Derived.Sort.Grow
import Derived.Lib.SplitLaws
import Derived.Stop.LaidErr
import Derived.Lay
namespace Go.Lift
open Go Go.ChangeShapes Go.WideShapes Go.ChangeAt Go.RowKit
open Go renaming Value -> bm, TypeId -> bM, World -> bY, DataW -> uL, Calls -> hQ
open Option renaming some -> Y, none -> al
open List renaming length -> U, map -> cb
section
variable {H:Type}{enc:bM×bm->H}{P:Program}
variable {W w:bY}{c:List bm}{a:V}{v:bm}{t e:bM}{p:List MemPlace}{X:Nat->Prop}{f:FuncId}{G:gC}{m name:String}{n b:Nat}{r:List (String×uL Unit)}{l:Array (String×bM)}
theorem ago{c:bY}(e:Ext (λ_=>False) W c){a:Addr}(h:W.cell? a=Y v):c.cell? a=Y v:=by obtain⟨b,o,i⟩:=a;have d:=World.cell?_spot h;dsimp at d;subst d;have br:=World.block_lt_of_cell? W ⟨b,o,al⟩ h;rw[cell_of_heap (e.keep b br λh=>h)];exact h
theorem agN{a:bY}(e:Ext (λ_=>False) W a)(c:MemPlace->Prop):W.keptBut a c:=by
 refine⟨e.os,e.output,λi d=>?_⟩;rw[e.keep i d λh=>h]
 grind
theorem aev{z:Nat}{d:uL H}(G:P.underlying t=Y (.slice e))(f:P.underlying e=Y (.int .u8))(g:P.cellsOf e=1)
  (A:Value.okWide P W .any z t v) (h:DataW.Trod enc P W 0 (λ_=>true) true t v d p) (S: ∀x,x∈p->x.block<W.heap.size):
  ∃l:List UInt8,bI ha W (λ_=>False) (aI dX l) v/\ ∀K,Ext (λ_=>False) W K->DataW.Trod enc P K 0 (λb=>decide (b<W.heap.size)) true t v d p:=by
 obtain⟨aW,len,r,rfl⟩:=okWide_slice G A;obtain⟨s,T⟩:=h;rcases open_ints G f g T with ⟨m,q⟩|⟨a,u,E,k,m,_,M,V,fo,q,c,B⟩
 ·simp[Value.cells] at m;obtain⟨rfl,rfl,rfl⟩:=m;simp only[Prod.mk.injEq] at q;obtain⟨rfl,rfl⟩:=q;refine⟨[],.t _ _ (.iq _ _),λK _=>⟨1,by simp[DataW.trod,G,Value.cells]⟩⟩
 simp[Value.cells] at m;obtain⟨rfl,rfl,rfl⟩:=m;simp only[Prod.mk.injEq] at q;obtain⟨rfl,rfl⟩:=q;simp only[if_true] at fo;refine⟨(k.take len).map λn=>UInt8.ofNat n.toNat,?_,λK Q=>?_⟩
 ·have o:U (cb dX ((k.take len).map λn=>UInt8.ofNat n.toNat))=len:=bV
  by_cases h0:len=0
  ·subst h0;simp only[List.take_zero,List.map_nil];exact .t _ _ (.iq _ _)
  obtain⟨L,R,C⟩:=a;have w:C=al:=by simpa[Addr.add] using World.cell?_spot (c 0 O)
  subst w;have br:L<W.heap.size:=World.block_lt_of_cell? W ⟨L,R+0,al⟩ (by have:=c 0 O;rwa [Addr.add_lit] at this);have N:ei W (λ_=>False) (.bX (cb dX ((k.take len).map λn=>UInt8.ofNat n.toNat))) (.slice (Y ⟨L,R,al⟩) (U (cb dX ((k.take len).map λn=>UInt8.ofNat n.toNat))) r):=by
   refine .bX _ L R 1 r (λi j=> .int .u8 (k.getD i 0)) br (λh=>h) (by rw[o];exact M) ?_ ?_ ?_
   ·intro X y;obtain⟨x,_,rfl⟩:=fh.1 y;rfl
   ·intro i j F hj
    have:=c i (by rw[o] at F;omega);rw[Addr.add_lit] at this
    grind
   intro i j X x y q;have F:i<len:=by
    grind
   have br:=range_u8 B i;have e:k[i]?.getD 0=k[i]' O:=by simp[List.getElem?_eq_getElem (O:i<U k)]
   rw[fG,fG,iC] at y;rw[bk F,bO (O:i<U k)] at y;simp at y;subst y
   match j with
   |0=>
    simp at q;subst q;rw[e] at br;have e2:k.getD i 0=max (k[i]' O) 0%256:=by
     rw[List.getD,e];omega
    rw[e2];exact .int _ _
   |j+1=>simp at q
  rw[o] at N;exact .t _ _ N
 refine⟨2,?_⟩;simp only[Value.cells];refine shut_ints 0 G f g (uF _) M V ?_ (λi F=>ago Q (c i F)) B;by_cases yE:U k=0
 ·have:r=0:=O
  grind
 have br:a.block<W.heap.size:=by
  have:=World.block_lt_of_cell? W (a.add 0) (c 0 O);simpa[Addr.add] using this
 grind
theorem ag1{u:bm}(h:bI ha W X (aP true) u):u= .bool true:=pY h
theorem Yx{k:Func}{s:ChangeSpec}{A:bM}{m:Nat}{args:Array bm}{R X:List (uL H)}{a:List MemPlace}(b:P.underlying t=Y (.slice e))(g:P.underlying e=Y (.int .u8))(E:P.cellsOf e=1)
  (B:k.params= #[t]) (M:k.resultTypes= #[A]) (N:P.underlying A=Y .bool) (C:s.vars=[]) (r: ∀d,s.fn H [d]={results:=[.lit (.bool true)],args:=[d]})
  (c: ∀(j:Nat) t v,k.params[j]? =Y t->args[j]? =Y v->Value.okWide P W .any m t v) (F:DataW.Whole enc P k.params.toList s.vars false W args.toList R X a) (S:G.ok W)
  (w: ∀l:List UInt8,gT P G f [aI dX l] (aP true)):hQ P f args W λe jo=> ∃v,e= .returned v/\s.post enc P k false true false false W args v jo:=by
 have n:=F;obtain⟨p,q,o,K,rfl,T,V⟩:=F;rw[C] at K;obtain⟨rfl,rfl⟩:=trodVars_none K;rw[B] at c o;obtain⟨L,i,rfl,rfl,h0⟩:=trodAll_one o;obtain⟨l,y,z⟩:=aev (d:=i) b g E (c 0 t L rfl rfl) h0 λx hx=>n.lt x (by simpa using hx);refine((w l).2 W (λ_=>False) [L] S (λ_ h=>h.elim) ⟨y,trivial⟩).mono ?_;rintro e jo ⟨u,rfl,Q,hu⟩;obtain rfl:=ag1 hu;refine⟨_,rfl,[i],[],p++[],[],p,[],n,?_,?_,?_,agN Q _,λh=>by cases h⟩
 ·rw[M,show([i]++[]:List (uL H))=[i] from rfl,r];exact trodAll_mk1 (shut_bool N _)
 ·rw[B,show([i]++[]:List (uL H))=[i] from rfl,r];exact trodAll_mk1 (z jo Q)
 rw[C,show([i]++[]:List (uL H))=[i] from rfl,r];exact rfl
theorem t'{bZ:bY}(h:Go.RowKit.Below w.heap.size w bZ):Ext (λ_=>False) w bZ:=⟨h.os,h.tape,h.output,h.size,λb a _=>h.block b a⟩
theorem agO(w:bY)(k:Nat)(a:Array Obj):Ext (λ_=>False) w (Go.Sort.grow (w.drewN k) a):=
 ⟨rfl,rfl,rfl,by show w.heap.size<=(w.heap++a).size;simp,λb c _=>by show(w.heap++a)[b]? =_;rw[Array.getElem?_append_left c]⟩
theorem Et(h:(gC.mk n W).ok w){o:Nat}(a:b<n):w.cell? ⟨b,o,al⟩=W.cell? ⟨b,o,al⟩:=cell_of_heap (h.2 b a)
theorem KU(h:(gC.mk n W).ok w)(a:P.globalNamed name=Y b)(c:b<n):w.var? P name=W.var? P name:=by
 unfold World.var?;rw[a];show(match w.heap[b]? with|some (.cells cs _ _)=>Y cs|_=>al)=(match W.heap[b]? with|some (.cells cs _ _)=>Y cs|_=>al)
 rw[h.2 b c]
theorem aeY{a:Array bm}(c:P.globalNamed name=Y b)(h:W.var? P name=Y a):b<W.heap.size:=by
 unfold World.var? at h
 grind
theorem LY(h:eG ha W X [a] c): ∃u,c=[u]/\bI ha W X a u:=by
 match c,h with
 | [u],h=>exact⟨u,rfl,h.1⟩
 | [],h=>exact h.elim
 |_::_::_,h=>exact h.2.elim
theorem AW{b:V}(h:eG ha W X [a,b] c): ∃u v,c=[u,v]/\bI ha W X a u/\bI ha W X b v:=by
 match c,h with
 | [u,v],h=>exact⟨u,v,rfl,h.1,h.2.1⟩
 | [],h=>exact h.elim
 | [_],h=>exact h.2.elim
 |_::_::_::_,h=>exact h.2.2.elim
theorem Yq(i:gw P f)(h: ∀n,-9223372036854775808<=n->n<=9223372036854775807-> ∀w,G.ok w->hQ P f #[.int .i64 n] w λe c=>e= .returned (.string ⟨(Lib.itoa n).toArray⟩)/\ ∃k os,c=Go.Sort.grow (w.drewN k) os):
  ∀(n:Int) (r:List UInt8),oC n=Y r->gT P G f [D n] (bf r):=by
 intro n r a;unfold oC at a;split at a
 ·rename_i d;cases a;refine⟨i,λw X q l _ m=>?_⟩;obtain⟨u,rfl,o⟩:=LY m;obtain rfl:=eQ o;refine(h n d.1 d.2 w l).mono ?_;rintro e c ⟨rfl,k,os,rfl⟩;exact⟨_,rfl,agO _ _ _,.t _ _ (.str _)⟩
 cases a
theorem Yr{te:bM}(l:gw P f)
  (C: ∀(s:ByteArray) v,s.size<=9223372036854775806->Lib.atoiAll s.data.toList= .ok v-> ∀w,G.ok w->hQ P f #[.string s] w λe k=>e= .returned (.tuple #[.int .i64 v,.nilIface])/\(k=w\/ ∃t,k=Lib.bytesWorld w te t))
  (F: ∀(s:ByteArray),s.size<=281474976710656->(∀v,Lib.atoiAll s.data.toList≠ .ok v)->Lib.atoiAll s.data.toList≠ .range-> ∀w,G.ok w->hQ P f #[.string s] w λe k=> ∃ty v,e= .returned (.tuple #[.int .i64 (0),.iface ty v])/\Go.RowKit.Below w.heap.size w k)
  (K: ∀(s:ByteArray),s.size<=281474976710656->Lib.atoiAll s.data.toList= .range-> ∀w,G.ok w->hQ P f #[.string s] w λe k=> ∃ty v,e= .returned (.tuple #[.int .i64 (Lib.atoiSat s.data.toList),.iface ty v])/\Go.RowKit.Below w.heap.size w k):
  (∀(s:List UInt8) (r:Int×Bool),nC s=Y r->r.2=true->gT P G f [bf s] (V.dB [D r.1,V.t T.err]))/\(∀(s:List UInt8) (r:Int×Bool),nC s=Y r->r.2=false->gT P G f [bf s] (V.dB [D r.1,V.t T.hc])):=by
 have o: ∀s:List UInt8,(⟨s.toArray⟩:ByteArray).size=U s:=λs=>by simp[ByteArray.size]
 have d: ∀{w:bY} {X:Nat->Prop} {n:Int} {x:T} {v:bm},ei w X x v->bI ha w X (V.dB [D n,V.t x]) (.tuple #[.int .i64 n,v]):=λL=>
  .dB _ _ rfl (λi c u l m=>by
   match i with
   |0=>simp at l m;subst l;subst m;exact .t _ _ (.int _ _)
   |1=>simp at l m;subst l;subst m;exact .t _ _ L
   |i+2=>simp at l)
 constructor<;>intro s r a z<;>unfold nC at a<;>split at a<;>first|(cases a;done)|skip
 ·rename_i A;refine⟨l,λw X Q y _ m=>?_⟩;obtain⟨u,rfl,q⟩:=LY m;obtain rfl:=hB q;rcases h:Lib.atoiAll s with v|_|_
  ·rw[h] at a;cases a;cases z
  ·rw[h] at a;cases a;refine(F ⟨s.toArray⟩ (by rw[o];exact A) (λv e=>by simp[h] at e) (λe=>by simp[h] at e) w y).mono ?_;rintro e k ⟨ty,v,rfl,B⟩;exact⟨_,rfl,t' B,d (.err _ _)⟩
  rw[h] at a;cases a;refine(K ⟨s.toArray⟩ (by rw[o];exact A) (by simpa using h) w y).mono ?_;rintro e k ⟨ty,v,rfl,B⟩;exact⟨_,rfl,t' B,d (.err _ _)⟩
 rename_i A;refine⟨l,λw X Q y _ m=>?_⟩;obtain⟨u,rfl,q⟩:=LY m;obtain rfl:=hB q;rcases h:Lib.atoiAll s with v|_|_
 ·rw[h] at a;cases a;refine(C ⟨s.toArray⟩ v (by rw[o];omega) (by simpa using h) w y).mono ?_;rintro e k ⟨rfl,R⟩;refine⟨_,rfl,?_,d .hc⟩;rcases R with rfl|⟨t,rfl⟩
  ·exact Ext.refl _ _
  exact t' (Lib.bytesWorld_below _ _ _)
 ·rw[h] at a;cases a;cases z
 rw[h] at a;cases a;cases z
theorem aiB{ts:bM}(Q:gw P f)
  (h: ∀(s k:ByteArray),s.size<4294967281->1<=k.size-> ∀w,G.ok w->hQ P f #[.string s,.string k] w λe F=>
   e= .returned (.slice (Y ⟨w.heap.size,0,al⟩) (Lib.countB s k+1) (Lib.countB s k+1))/\F=w.alloc (.cells ((Lib.splitB k 0 (Lib.countB s k) s).map Value.string).toArray ts)):
  ∀(s t:List UInt8) (r:List (List UInt8)),ma s t=Y r->gT P G f [bf s,bf t] (aI cF r):=by
 have n: ∀s:List UInt8,(⟨s.toArray⟩:ByteArray).size=U s:=λs=>by simp[ByteArray.size]
 intro s t r q;unfold ma at q;split at q
 ·rename_i y;cases q;refine⟨Q,λw X T R W g=>?_⟩;obtain⟨u,v,rfl,p,E⟩:=AW g;obtain rfl:=hB p;obtain rfl:=hB E;refine(h ⟨s.toArray⟩ ⟨t.toArray⟩ (by rw[n];exact y.1) (by rw[n];exact y.2) w R).mono ?_;rintro e F ⟨rfl,rfl⟩;have cN:=Lib.splitB_data ⟨t.toArray⟩ 0 (Lib.countB ⟨s.toArray⟩ ⟨t.toArray⟩) ⟨s.toArray⟩;have l:U (Lib.splitB ⟨t.toArray⟩ 0 (Lib.countB ⟨s.toArray⟩ ⟨t.toArray⟩) ⟨s.toArray⟩)=Lib.countB ⟨s.toArray⟩ ⟨t.toArray⟩+1:=Lib.splitB_all ⟨t.toArray⟩ (by rw[n];exact y.2) 0 _ ⟨s.toArray⟩ rfl;generalize V:Lib.splitB ⟨t.toArray⟩ 0 (Lib.countB ⟨s.toArray⟩ ⟨t.toArray⟩) ⟨s.toArray⟩=L at cN l;have m:Lib.split s t=L.map (·.data.toList):=by rw[cN];simp[Lib.split]
  have d:U (cb cF (Lib.split s t))=Lib.countB ⟨s.toArray⟩ ⟨t.toArray⟩+1:=by rw[m];simpa using l
  refine⟨_,rfl,⟨rfl,rfl,rfl,by show w.heap.size<=(w.heap.push _).size;simp,λb M _=>Go.RowKit.Below.heap_alloc _ _ _ M⟩,?_⟩;have K:ei (w.alloc (.cells (L.map Value.string).toArray ts)) X (.bX (cb cF (Lib.split s t))) (.slice (Y ⟨w.heap.size,0,al⟩) (U (cb cF (Lib.split s t))) (Lib.countB ⟨s.toArray⟩ ⟨t.toArray⟩+1)):=by
   refine .bX _ w.heap.size 0 1 _ (λi j=>(L.map Value.string).getD i undef) (by show w.heap.size<(w.heap.push _).size;simp) (λh=>by have:=W _ h;omega) (by rw[d];exact dV _) ?_ ?_ ?_
   ·intro z a;obtain⟨x,_,rfl⟩:=fh.1 a;rfl
   ·intro i j N hj;have A:j=0:=O
    subst A;have B:i<U L:=by rw[d] at N;omega
    have S:0+i*1+0=i:=O
    rw[S];rw[World.cell?_alloc_new];simp[B]
   intro i j z x a C;rw[m,fG,fG] at a;cases o:L[i]? with
   |none=>rw[o] at a;cases a
   |some c=>
    rw[o] at a;simp at a;subst a
    match j with
    |0=>
     simp at C;subst C;simp[o];exact .str _
    |j+1=>simp at C
  rw[d] at K;exact .t _ _ K
 cases q
theorem aaK{H:Type}{e:bM×bm->H}{P:Program}{k:Nat}{r:Nat->Bool}{b:Bool}{i:Nat}{T:bM}{a:List bm}{d:uL H}
  (o:P.underlying T=Y (.interface l)) (h:DataW.trod e P W k r b i T a=Y (.iface m d,p)): ∃u v,a=[.iface u v]:=by
 cases i with
 |zero=>simp[DataW.trod] at h
 |succ n=>
  rw[DataW.trod_step] at h;unfold DataW.trodStep at h;simp only[o] at h;rcases a with _|⟨c,_|⟨q,a⟩⟩
  ·simp at h
  ·cases c<;>first|exact⟨_,_,rfl⟩|simp at h
  simp at h
theorem QY{P:Program}{n:String}{d:uL Unit}{g:Nat}{T:bM}(h:laidMet P ((n,.iface m d)::r) W)
  (o:P.globalNamed n=Y g) (q:(P.globals[g]?).map (·.type)=Y T) (w:P.underlying T=Y (.interface l)): ∃u v,W.var? P n=Y #[.iface u v]:=by
 obtain⟨y,⟨z,A,a,B,C,F,c,i,x,k,_,G⟩,_,_⟩:=h;obtain rfl:=Option.some.inj (o.symm.trans c);obtain rfl:=Option.some.inj (q.symm.trans i);obtain⟨K⟩:=a;obtain⟨u,v,e⟩:=aaK w k
 grind
theorem Y2{H:Type}{enc:bM×bm->H}{C:Checked}{c:Os}{d:Func}{s:OpenSpec}{a:List PathCond}{b:Bool}(modest:Bool)(h:bY)(args:Array bm)(m:h.os=c)
  (n:(h.forCall (λ_ _=>0) ⟨#[],args,[]⟩).Shaped C.prog)
  (k:Input.okWideB C.prog (h.forCall (λ_ _=>0) ⟨#[],args,[]⟩) f ⟨#[],args,[]⟩=true)
  (l:s.preRow enc C.prog d a b r (h.forCall (λ_ _=>0) ⟨#[],args,[]⟩).memory args):
  ∃(w:bY) (e:Tape) (i:Input),w.os=c/\(w.forCall e i).Shaped C.prog/\i.vars=[]/\Input.okWide C.prog (w.forCall e i) .any w.heap.size f i/\
   s.preRow enc C.prog d a b r (w.forCall e i).memory i.args/\({modest:=modest}:Assume).holds C.prog (lone (Frame.enter C.prog f i.args .normal) [] (w.forCall e i)):=
 ⟨h,λ_ _=>0,⟨#[],args,[]⟩,m,n,(Input.okWide_of_okWideB (base:=0) k).1,(Input.okWide_of_okWideB k).2,l,by
  simp only[Assume.holds];exact⟨aZ,aZ,λ_=>Modest.zero,aZ,aZ⟩⟩
end
end Go.Lift

/- Tools. -/
import Derived.Test.YtbgbodhagkdffaaGreatDoorSLiftRow
import Derived.Lib.Join
namespace Go.Lift
open Go Go.RowKit
section
variable {P:Program}
theorem xK(s:List UInt8):(⟨s.toArray⟩:ByteArray).data.toList=s:=aZ
variable {f:FuncId}{G:gC}
theorem A'{k:Type}{m:List UInt8->List UInt8->Option k}{a:k->Value}{v:k->V}(d: ∀r w X,bI ha w X (v r) (a r))(i:gw P f)
  (h: ∀(s t:ByteArray) r,m s.data.toList t.data.toList=some r-> ∀w,G.ok w->Calls P f #[.string s,.string t] w λe c=>e= .returned (a r)/\Below w.heap.size w c):
  ∀(s t:List UInt8) (r:k),m s t=some r->gT P G f [bf s,bf t] (v r):=by intro s t r l;refine⟨i,λw X A n B o=>?_⟩;obtain⟨u,x,rfl,q,y⟩:=AW o;obtain rfl:=hB q;obtain rfl:=hB y;refine(h ⟨s.toArray⟩ ⟨t.toArray⟩ r (by rw[xK,xK];exact l) w n).mono ?_;rintro e c ⟨rfl,z⟩;exact⟨_,rfl,t' z,d _ _ _⟩
theorem ajk(r:List UInt8×List UInt8×Bool)(w:World)(X:Nat->Prop):bI ha w X (V.dB [bf r.1,bf r.2.1,aP r.2.2]) (.tuple #[.string ⟨r.1.toArray⟩,.string ⟨r.2.1.toArray⟩,.bool r.2.2]):=
 .dB _ _ rfl (λi c u a d=>by
  match i with
  |0=>simp at a d;subst a;subst d;exact .t _ _ (.str _)
  |1=>simp at a d;subst a;subst d;exact .t _ _ (.str _)
  |2=>simp at a d;subst a;subst d;exact .t _ _ (.bool _)
  |i+3=>simp at a)
theorem LM(r:Int)(w:World)(X:Nat->Prop):bI ha w X (D r) (.int .i64 r):= .t _ _ (.int _ _)
theorem FX(r:List UInt8)(w:World)(X:Nat->Prop):bI ha w X (bf r) (.string ⟨r.toArray⟩):= .t _ _ (.str _)
theorem Yo{m:List UInt8->UInt8->Option Int}(d:gw P f)
  (h: ∀(s:ByteArray) (c:UInt8) r,m s.data.toList c=some r-> ∀w,G.ok w->Calls P f #[.string s,.int .u8 (c.toNat:Nat)] w λe a=>e= .returned (.int .i64 r)/\Below w.heap.size w a):
  ∀(s:List UInt8) (c:UInt8) (r:Int),m s c=some r->gT P G f [bf s,oM c] (D r):=by intro s c r i;refine⟨d,λw X y k z l=>?_⟩;obtain⟨u,x,rfl,n,o⟩:=AW l;obtain rfl:=hB n;obtain rfl:=eQ o;refine(h ⟨s.toArray⟩ c r (by rw[xK];exact i) w k).mono ?_;rintro e a ⟨rfl,q⟩;exact⟨_,rfl,t' q,LM _ _ _⟩
theorem Yp(ch:gw P f)
  (h0: ∀(a:Option Addr) (c:Nat) (i:ByteArray) (w:World),Calls P f #[.slice a 0 c,.string i] w λe q=>e= .returned (.string ⟨#[]⟩)/\q=w)
  (h: ∀(W o c:Nat) (A:List ByteArray) (i:ByteArray) (w:World),(∀(j:Nat) x,A[j]? =some x->w.cell? ⟨W,o+j,none⟩=some (.string x))->W<w.heap.size->A.length<=140737488355328->A.length<=c->
   (Lib.join (A.map (·.data.toList)) i.data.toList).length<=140737488355328->
   Calls P f #[.slice (some ⟨W,o,none⟩) A.length c,.string i] w λe q=>e= .returned (.string ⟨(Lib.join (A.map (·.data.toList)) i.data.toList).toArray⟩)/\Below w.heap.size w q)
  (l:List (List UInt8)) (t:List UInt8) (V:l.length<=100000) (hj:(Lib.join l t).length<=100000000):gT P G f [aI cF l,bf t] (bf (Lib.join l t)):=by
 refine⟨ch,λw X us kr iy hu=>?_⟩;obtain⟨u,x,rfl,h1,h2⟩:=AW hu;obtain rfl:=hB h2;have zero:l=[]-> ∀a d,u= .slice a 0 d->Calls P f #[u,.string ⟨t.toArray⟩] w λe q=> ∃nJ,e= .returned nJ/\Ext (λ_=>False) w q/\bI ha q X (bf (Lib.join l t)) nJ:=by
  intro V a d he;subst V;subst he;refine(h0 a d _ w).mono ?_;rintro e q ⟨rfl,rfl⟩;exact⟨_,rfl,Ext.refl _ _,FX [] _ _⟩
 cases h1 with
 |t _ _ B=>
  generalize k:List.map cF l=rows at B;cases B with
  |iq a d=>exact zero (List.map_eq_nil_iff.1 k) a d rfl
  |bX _ b y C d g br akj r p z E=>
   subst k;by_cases F:l=[]
   ·subst F;exact zero rfl _ _ rfl
   obtain⟨gX,M⟩:=Dd l F;have N:C=1:=(p (cF gX) (List.mem_map_of_mem M)).symm;subst N;have m:(List.map cF l).length=l.length:=er ..;have H:((l.map λs=>(⟨s.toArray⟩:ByteArray)).map (·.data.toList))=l:=by rw[List.map_map];exact(Ih λs _=>xK s).trans (List.map_id l)
   have K:=h b y d (l.map λs=>(⟨s.toArray⟩:ByteArray)) ⟨t.toArray⟩ w (λj x L=>?_) br bV (by rw[er];rw[m] at r;exact r) (by rw[H,xK];omega)
   ·rw[H,xK,er] at K;rw[m];refine K.mono ?_;rintro e q ⟨rfl,gU⟩;exact⟨_,rfl,t' gU,FX _ _ _⟩
   rw[fG] at L;cases n:l[j]? with
   |none=>rw[n] at L;cases L
   |some s=>
    rw[n] at L;cases L;have S:=(cI.1 n).1;have Q:=z j 0 (by rw[m];exact S) O;have R:=E j 0 (cF s) (T.str s) (by rw[fG,n];rfl) rfl;rw[show y+j*1+0=y+j by omega] at Q;rw[Q];generalize g j 0=v at R;cases R;rfl
end
end Go.Lift

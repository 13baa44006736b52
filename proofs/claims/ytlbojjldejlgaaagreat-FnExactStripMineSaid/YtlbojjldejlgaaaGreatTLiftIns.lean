/- slices.Insert of one owned array into another: from the runs to the contract. -/
import Derived.Test.YtlbojjldejlgaaaGreatTLiftZ
import Derived.Shelf.RegionOpenPlain
import Derived.WalkKit
import Derived.Lib.Walk
import Derived.Lib.SliceRun
import Derived.Lib.JoinLaws
import Derived.Lib.AppendZeros
import Derived.Lib.AppendZerosOnto
import Derived.Lib.Overlaps
import Derived.Laws.Externs
import Derived.Laws.IdiomCopy
import Derived.Laws.CopyRow
import Derived.Deep.WholeRow
set_option linter.unusedVariables false
namespace Go.Lift
open Go
theorem mJ{b o:Nat}{vs:List Value}{w:World}{cur:Array Value}{ty:TypeId}(hg:w.heap[b]? =some (.cells cur ty (0,0)))(hl:o+vs.length≤cur.size)(h1: ∀v∈vs,v.oneCell'=true):
  w.setCells b o vs=w.setRow b (cur.toList.take o++vs++cur.toList.drop (o+vs.length)).toArray:=by
 have a:=run_storeCells_at (P:=(default:Program)) b o ty vs 0 cur w hg (by omega) h1;have c:=run_storeCells_cells (P:=(default:Program)) b o vs 0 w (fun j hj=>by
  have:o+j<cur.size:=by omega
  simp [World.cell?,hg,this]) (fun j hj=>by simp [World.frozen?,hg]) h1
 rw [a] at c;simp only [Nat.add_zero] at c;injection c with _ c;exact c.symm
theorem aCg{P:Program}{G:Glob}{w w':World}{X:Nat→Prop}{inn out:List E}{β0 β':Map}{nt:Nat}{s':S}{a':Act}{r:V}{u:Value}(hr:Rel (Ctx.vc P G w X inn.length β0 nt) β' s' a' w')(hm:inn.length≤out.length)
  (hv:RV β' w' (own (Ctx.vc P G w X inn.length β0 nt) β' s'.H) r u) (hok:r.ok (cA out.length)=true) (hH:HeapLe s'.H (cA out.length) (listH out 0)): ∃β,Left β0 β inn out w w' X r u:=by
 let s2:S:={t:=mO,H:=listH out 0,u:=cA out.length}
 have hall:iW inn.length s2.u=true:=by
  have: ∀n,n≤inn.length→iW n s2.u=true:=by
   intro n;induction n with
   |zero=>intro _;rfl
   |succ n ih=>intro hn;simp [iW,ih (by omega),show s2.u n=true from bX.2 (by omega)]
  exact this _ (kF _)
 have hc:=hr.cut (s':=s2) (SlotsLe.nil _ _) hH hall;have ho:=tU (K:=Ctx.vc P G w X inn.length β0 nt) (β:=β') (s:=s') (s':=s2) hH;refine⟨cut β' s2.u,?_⟩;refine⟨hr.ext.weaken fun b _ ⟨id,_,h⟩=>⟨id,h⟩,hc.base,hc.shp,?_,?_,hc.inj,hc.fresh,?_,hv.under ho (fun _ h=>O2 h) hok⟩
 ·intro k hk;apply hc.dom;cases hx:s2.u k with
  |false=>rfl
  |true=>have:=bX.1 hx;omega
 ·intro k b hk;apply hc.domn;cases hx:s2.u k with
  |false=>rfl
  |true=>have:=bX.1 hx;omega
 intro k e he;exact(hc.heap k e (by rw [←kY] at he;exact he)).2
structure InsRaw (P:Program) (f:FuncId) (t e:TypeId) (sz:Nat) (i0:TypeInfo) (z:Value):Prop where
 nothing: ∀(base vbase:Option Addr) (n c i vc:Nat) (w:World),i≤n→n≤c→c≤9223372036854775807→Calls P f #[.slice base n c,.int .i64 i,.slice vbase 0 vc] w fun e w'=>e= .returned (.slice base n c)∧w'=w
 tail: ∀(base vbase:Option Addr) (n c m vc:Nat) (w:World) (v':Value) (w':World),0<m→n≤c→c≤9223372036854775807→(Builtin.append_ #[t,t] t #[.slice base n c,.slice vbase m vc]).run P w= .ok v' w'→
  Calls P f #[.slice base n c,.int .i64 n,.slice vbase m vc] w fun e w1=>e= .returned v'∧w1=w'
 room: ∀(b n c i vb m vc:Nat) (cs vs:List Value) (w:World),i<n→0<m→n+m≤c→c≤9223372036854775807→vb≠b→cs.length=n*sz→vs.length=m*sz→
  (∀j v,cs[j]? =some v→w.cell? ⟨b,j,none⟩=some v)→(∀j,j<(n+m)*sz→(w.cell? ⟨b,j,none⟩).isSome=true)→(∀j,w.frozen? ⟨b,j,none⟩=false)→
  (∀j v,vs[j]? =some v→w.cell? ⟨vb,j,none⟩=some v)→(∀v∈cs,v.oneCell'=true)→(∀v∈vs,v.oneCell'=true)→
  ∀(tA tB:TypeId) (kA kB:Nat),w.shape? vb=some (tA,kA)→w.shape? b=some (tB,kB)→kB≠0→(∀j,w.frozen? ⟨vb,j,none⟩=false)→
  Calls P f #[.slice (some ⟨b,0,none⟩) n c,.int .i64 i,.slice (some ⟨vb,0,none⟩) m vc] w fun e w'=>
   e= .returned (.slice (some ⟨b,0,none⟩) (n+m) c)∧w'=(w.drew.setCells b ((i+m)*sz) (cs.drop (i*sz))).setCells b (i*sz) vs
 grow: ∀(b n c i vb m vc:Nat) (cs vs:List Value) (w:World),i<n→0<m→n≤c→c<n+m→n+m≤1000000000→(n+m)*i0.bytes≤140737488355328→cs.length=n*sz→vs.length=m*sz→
  (∀j v,cs[j]? =some v→w.cell? ⟨b,j,none⟩=some v)→(∀j v,vs[j]? =some v→w.cell? ⟨vb,j,none⟩=some v)→(∀v∈cs,v.oneCell'=true)→(∀v∈vs,v.oneCell'=true)→
  Calls P f #[.slice (some ⟨b,0,none⟩) n c,.int .i64 i,.slice (some ⟨vb,0,none⟩) m vc] w fun e' w'=>
   e'= .returned (.slice (some ⟨w.heap.size,0,none⟩) (n+m) (grownCap w (n+m) c e))∧
   w'=(((w.alloc (.cells ((cs.take (i*sz)).toArray++Builtin.zeroCells z.cells (n+m-i)++Builtin.zeroCells z.cells (grownCap w (n+m) c e-(n+m))) e)).drew.setCells w.heap.size (i*sz) vs).drew).setCells w.heap.size ((i+m)*sz) (cs.drop (i*sz))
theorem aCk{n size i:Nat}{s v:List (List T)}{cs vs rest:List Value}(hn:s.length=n)(hi:i≤n)(hu:cs.length=n*size)(hw:vs.length=v.length*size)(hs:Rows size s)(hs':Rows size v){R:T→Value→Prop}
  (h1: ∀(i j:Nat) (row:List T) (x:T) (u:Value),s[i]? =some row→row[j]? =some x→cs[i*size+j]? =some u→R x u)
  (h2: ∀(i j:Nat) (row:List T) (x:T) (u:Value),v[i]? =some row→row[j]? =some x→vs[i*size+j]? =some u→R x u):
  ∀(k j:Nat) (row:List T) (x:T) (u:Value),(s.take i++v++s.drop i)[k]? =some row→row[j]? =some x→(cs.take (i*size)++vs++cs.drop (i*size)++rest)[k*size+j]? =some u→R x u:=by
 have ht:Rows size (s.take i):=fun row h=>hs row (vAw h);have hd:Rows size (s.drop i):=fun row h=>hs row (vAB h);have hle:=jL size hi;have hA:=pD (cs.take (i*size)) vs [] (rows:=s.take i) (news:=v) (n:=i) (size:=size) (by rw [mH];omega) (by rw [mH];omega) hw ht hs' (R:=R)
  (fun k j row x u a1 a2 a3=>by
   rw [D8] at a1 a3;split at a1
   ·split at a3
    ·exact h1 k j row x u a1 a2 a3
    cases a3
   cases a1) h2
 have hB:=pD (cs.take (i*size)++vs) (cs.drop (i*size)) rest (rows:=s.take i++v) (news:=s.drop i) (n:=i+v.length) (size:=size) (by rw [nF,mH];omega)
  (by rw [nF,mH,hw,jJ];omega) (by rw [X4,X4,hu,hn,vBJ]) (fun row h=>by
   rcases B6.1 h with h|h
   ·exact ht row h
   exact hs' row h) hd (R:=R) (fun k j row x u a1 a2 a3=>hA k j row x u a1 a2 (by simpa using a3))
  (fun k j row x u a1 a2 a3=>by
   rw [D9] at a1 a3;refine h1 (i+k) j row x u a1 a2 ?_;rw [jJ,vBq];exact a3)
 intro k j row x u a1 a2 a3;exact hB k j row x u a1 a2 (by simpa using a3)
theorem I7{b size n c:Nat}{cur:Array Value}{w:World}{ty:TypeId}(hg:w.heap[b]? =some (.cells cur ty (0,0))): ∀j v,(cur.toList.take (n*size))[j]? =some v→w.cell? ⟨b,j,none⟩=some v:=by
 intro j v hj;rw [D8] at hj;split at hj
 ·simp only [World.cell?,hg];simpa using hj
 cases hj
theorem aFI{β:Map}{w:World}{X:Nat→Prop}{id gen sz:Nat}{e:TypeId}{rows:List (List T)}{x:Value}(he:RE β w X id (.arr e gen sz rows))(hx:RV β w X (.msl id gen sz 0 rows.length) x):
  (x= .slice none 0 0∧rows=[]∧β id=some (none,gen))∨ ∃(b cap:Nat) (cur:Array Value),x= .slice (some ⟨b,0,none⟩) rows.length cap∧β id=some (some b,gen)∧w.heap[b]? =some (.cells cur e (0,0))∧cur.size=cap*sz∧rows.length≤cap∧cap≤maxLen∧
   ∀(i j:Nat) (row:List T) (y:T) (u:Value),rows[i]? =some row→row[j]? =some y→(cur.toList.take (rows.length*sz))[i*sz+j]? =some u→RT w X y u:=by
 obtain⟨q,hq⟩:=gG he;rcases bP hx hq with ⟨cap,b,n,ty',rfl,rfl,hw,hsh,hnn,hl,hmm⟩|⟨rfl,_,hlr,rfl⟩
 ·rcases he.2 with ⟨g1,_⟩|⟨b',cur,g1,g2,g3,g4,g5⟩
  ·rw [hq] at g1;cases g1
  rw [hq] at g1;cases g1;have hcs:cur.size=cap*sz:=by
   unfold World.shape? at hsh;rw [g2] at hsh;simp at hsh;rw [←hnn] at hsh;rw [l4] at hsh;exact hsh.2
  refine .inr ⟨b,cap,cur,by rw [F7],hq,g2,hcs,hl,hmm,fun i j row y u h1 h2 h3=>?_⟩;rw [D8] at h3;split at h3
  ·exact g5 i j row y u h1 h2 (by simpa using h3)
  cases h3
 exact .inl ⟨rfl,vAv hlr,hq⟩
theorem O5{w:World}{X:Nat→Prop}{sz:Nat}{rows:List (List T)}{cs:List Value}(hp:0<sz)(hs:Rows sz rows)(hl:cs.length=rows.length*sz)
  (hr: ∀(i j:Nat) (row:List T) (y:T) (u:Value),rows[i]? =some row→row[j]? =some y→cs[i*sz+j]? =some u→RT w X y u): ∀v∈cs,v.oneCell'=true:=by
 intro v hv;obtain⟨k,hk⟩:=vAG.1 hv;have hlt:k<rows.length*sz:=by rw [←hl];exact(cC.1 hk).1
 have h1:k / sz<rows.length:=(vBl hp).2 hlt;have h2:k%sz<(rows[k / sz]).length:=by rw [hs _ (vBo h1)];exact Nat.mod_lt _ hp
 exact(hr (k / sz) (k%sz) _ ((rows[k / sz])[k%sz]) v (dH h1) (dH h2) (by rw [Nat.div_add_mod'];exact hk)).oneCell
theorem aJP{cur cs vs:List Value}{a m k:Nat}(ha:a≤k)(hc:cs=cur.take k)(hv:vs.length=m)(hr:k+m≤cur.length):
  let A1:=cur.take (a+m)++cs.drop a++cur.drop (a+m+(cs.drop a).length)
  A1.take a++vs++A1.drop (a+vs.length)=cs.take a++vs++cs.drop a++cur.drop (k+m):=by
 intro A1;have hcl:cs.length=k:=by rw [hc,mH];omega
 have e1:A1.take a=cs.take a:=by
  show((cur.take (a+m)++cs.drop a)++_).take a=_;rw [vAO,vBd (by rw [mH];omega),List.take_take,hc,List.take_take];congr 1;omega
 have e2:A1.drop (a+vs.length)=cs.drop a++cur.drop (k+m):=by
  show((cur.take (a+m)++cs.drop a)++_).drop _=_;rw [vAO,vBw (by rw [mH];omega),List.drop_eq_nil_of_le (by rw [mH];omega),List.nil_append];congr 2;rw [X4];omega
 rw [e1,e2];simp
theorem aJO{A0 ds vs:List Value}{a m:Nat}{p:List Value}{q:List Value}(hA:A0=p++q)(hp:p.length=a)(hv:vs.length=m)(hr:a+m+ds.length≤A0.length):
  let A1:=A0.take a++vs++A0.drop (a+vs.length)
  A1.take (a+m)++ds++A1.drop (a+m+ds.length)=p++vs++ds++A0.drop (a+m+ds.length):=by
 intro A1;have e0:A0.take a=p:=by rw [hA,vBd (by omega),vAQ (by omega)]
 have e1:A1.take (a+m)=p++vs:=by
  show((A0.take a++vs)++_).take _=_;rw [e0,vBd (by rw [nF];omega),vAQ (by rw [nF];omega)]
 have e2:A1.drop (a+m+ds.length)=A0.drop (a+m+ds.length):=by
  show((A0.take a++vs)++_).drop _=_;rw [e0,List.drop_append,List.drop_eq_nil_of_le (by rw [nF];omega),List.nil_append,List.drop_drop,nF];congr 1;omega
 rw [e1,e2]
theorem aLL{P:Program}{G:Glob}{f:FuncId}{t e:TypeId}{u0:TypeDesc}{sz:Nat}{i0:TypeInfo}{z:Value}(call:hJ P f)(raw:InsRaw P f t e sz i0 z)(hu:P.underlying t=some (.slice e))(hi0:P.info? e=some i0)(hz0:i0.zero=some z)(hzs:z.cells.size=sz)(hi3:i0.size=sz)
  (hue:P.underlying e=some u0) (hp:0<sz) (hby:i0.bytes≤140000) (s v R:List (List T)) (i gs gv:Nat) (hi:i≤s.length) (hR:app (s.take i++v) (s.drop i)=some R) (hs:Rows sz s) (hs':Rows sz v):
  VCC P G f [.arr e gs sz s,.arr e gv sz v] [.msl 0 gs sz 0 s.length,.t (.int .i64 i),.msl 1 gv sz 0 v.length] (.msl 0 (gs+1) sz 0 R.length) [.arr e (gs+1) sz R,.arr e gv sz v]:=by
 have hlen:s.length+v.length≤1000000000∧R=s.take i++v++s.drop i:=by
  unfold app at hR;split at hR
  ·rename_i h;simp at h;refine⟨by omega,by cases hR;rfl⟩
  cases hR
 obtain⟨hlen,hRe⟩:=hlen;have hRl:R.length=s.length+v.length:=by rw [hRe];simp;omega
 have hRs: ∀row,row∈R→row.length=sz:=fun row h=>by
  rw [hRe] at h;rcases B6.1 h with h|h
  ·rcases B6.1 h with h|h
   ·exact hs row (vAw h)
   exact hs' row h
  exact hs row (vAB h)
 have hbig:(s.length+v.length)*i0.bytes≤140737488355328:=r8 (vBG hlen hby) (by decide);have hm':s.length+v.length≤maxLen:=by unfold maxLen;omega
 have hTI:TI P e u0 z sz i0.bytes:=⟨hue,i0,hi0,hz0,hi3,rfl⟩
 refine⟨call,?_⟩;intro w X β0 us hG hX hin ha;have hl3:us.length=3:=ha.length;obtain⟨x0,x1,x2,rfl⟩: ∃a b c,us=[a,b,c]:=by
  match us,hl3 with
  | [a,b,c],_=>exact⟨a,b,c,rfl⟩
 have h0:=Rel.startV (P:=P) (nt:=3) hG hX hin ha (kF _);obtain⟨hx0,hx1,hx2,_⟩:=ha;obtain rfl:x1= .int .i64 i:=by
  cases hx1 with|t _ _ h=>cases h;rfl
 generalize hact:({tmps:=[x0,Value.int .i64 i,x2].toArray++Array.replicate (3-[x0,Value.int .i64 i,x2].toArray.size) undef,defers:=[]}:Act)=act at h0;generalize hK:Ctx.vc P G w X [E.arr e gs sz s,E.arr e gv sz v].length β0 3=K at h0;have hKP:K.P=P:=by rw [←hK];rfl
 have hKX:K.X=X:=by rw [←hK];rfl
 generalize hS:Lift.startV [E.arr e gs sz s,E.arr e gv sz v] [V.msl 0 gs sz 0 s.length,V.t (.int .i64 i),V.msl 1 gv sz 0 v.length]=S0 at h0;have hH0:S0.H 0=some (.arr e gs sz s):=by rw [←hS];rfl
 have hH1:S0.H 1=some (.arr e gv sz v):=by rw [←hS];rfl
 have hSH:S0.H=listH [E.arr e gs sz s,E.arr e gv sz v] 0:=by rw [←hS];rfl
 have hown:own K β0 S0.H=ownOf X β0 (listH [E.arr e gs sz s,E.arr e gv sz v] 0):=by funext b;rw [hSH];show(K.X b∨_)=_;rw [hKX];rfl
 rw [←hown] at hx0 hx2;have hHf:upd S0.H 0 (some (.arr e (gs+1) sz R))=listH [E.arr e (gs+1) sz R,E.arr e gv sz v] 0:=by
  rw [hSH];funext j
  match j with
  |0=>rfl
  |j+1=>rfl
 have fin: ∀(β':Map) (w':World) (x:Value),Rel K β' {S0 with H:=upd S0.H 0 (some (.arr e (gs+1) sz R))} act w'→RV β' w' (own K β' (upd S0.H 0 (some (.arr e (gs+1) sz R)))) (.msl 0 (gs+1) sz 0 R.length) x→
   ∃u,∃_i:Unit,∃β,Ending.returned x= .returned u∧True∧Left β0 β [E.arr e gs sz s,E.arr e gv sz v] [E.arr e (gs+1) sz R,E.arr e gv sz v] w w' X (.msl 0 (gs+1) sz 0 R.length) u:=by
  intro β' w' x hr hv;subst hK;obtain⟨β,hβ⟩:=aCg (out:=[E.arr e (gs+1) sz R,E.arr e gv sz v]) hr (kF _) hv rfl (by
   intro id e0 he0;refine⟨⟨e0,?_,ELe.refl _⟩,?_⟩
   ·show upd S0.H 0 _ id=_;rw [hHf];exact he0
   match id with
   |0=>cases he0;exact⟨rfl,rfl⟩
   |1=>cases he0;exact⟨rfl,rfl⟩
   |k+2=>cases he0)
  exact⟨x,(),β,rfl,trivial,hβ⟩
 have hg1:=(h0.heap 0 _ hH0).2.1;have V0:=aFI (h0.heap 0 _ hH0).2 hx0;have V1:=aFI (h0.heap 1 _ hH1).2 hx2;have hHne:S0.H 0≠none:=by rw [hH0];simp
 by_cases hv0:v=[]
 ·have hRs0:R=s:=by rw [hRe,hv0];simp
  have run: ∀x2',(∃vb vc,x2'=Value.slice vb 0 vc)→Calls P f #[x0,.int .i64 i,x2'] w fun e w'=>e= .returned x0∧w'=w:=by
   rintro _ ⟨vb,vc,rfl⟩;rcases V0 with ⟨rfl,h1,_⟩|⟨b,cap,cur,rfl,_,_,_,hl,hc,_⟩
   ·subst h1
    have:i=0:=by simpa using hi
    subst this;exact raw.nothing none vb 0 0 0 vc w (kF _) (kF _) (by decide)
   exact raw.nothing (some ⟨b,0,none⟩) vb s.length cap i vc w hi hl (by unfold maxLen at hc;omega)
  refine(run x2 ?_).mono ?_
  ·rcases V1 with ⟨rfl,_,_⟩|⟨b,cap,cur,rfl,_⟩
   ·exact⟨_,_,rfl⟩
   exact⟨_,_,by rw [hv0];rfl⟩
  rintro e1 w1 ⟨rfl,rfl⟩;obtain⟨q0,hq0⟩:=gG (h0.heap 0 _ hH0).2;have hb:=h0.bump 0 e gs sz s q0 hq0 hH0;rw [←hRs0] at hb;refine fin _ _ _ hb ?_;rw [hRs0];rcases bP hx0 hq0 with ⟨cap',b,n,ty',rfl,hb',hw,hsh,hnn,hl,hmm⟩|⟨hb',_,hlr,rfl⟩
  ·subst hb';exact .msl 0 (gs+1) sz 0 _ cap' b n ty' (by omega) (cW _ _ _) hw hsh hnn hl hmm
  subst hb';rw [hlr];exact .msl0 0 (gs+1) sz (by omega) (cW _ _ _)
 have hvp:0<v.length:=List.length_pos_iff.2 hv0;rcases V1 with ⟨_,h1,_⟩|⟨vb,vc,cur2,rfl,hqv,hgv,hcv,hlv,hmv,hrv⟩
 ·exact absurd h1 hv0
 have hvl:(cur2.toList.take (v.length*sz)).length=v.length*sz:=by
  have:=jL sz hlv;rw [mH];simp;omega
 have h1v:=O5 hp hs' hvl hrv;have hvs:=I7 (size:=sz) (n:=v.length) hgv (c:=0);by_cases hin:i=s.length
 ·have hRsv:R=s++v:=by rw [hRe,hin];simp
  have hsrc:Src w (own K β0 S0.H) sz v (.slice (some ⟨vb,0,none⟩) v.length vc):=
   .inr ⟨vb,0,vc,cur2.toList.take (v.length*sz),rfl,hvl,fun j x hj=>by rw [l4];exact hvs j x hj,h1v,hrv⟩
  obtain⟨v',w',β',g1,g2,g3⟩:=h0.append 0 s v hH0 t (by rw [hKP];exact hu) (by rw [hKP];exact hTI) hzs hs hs' _ _ hx0 (.inl hsrc) hbig hm';rw [hKP] at g1;rw [←hRsv] at g2 g3;rw [←hRl] at g3;have run:Calls P f #[x0,.int .i64 i,.slice (some ⟨vb,0,none⟩) v.length vc] w fun e w1=>e= .returned v'∧w1=w':=by
   rcases V0 with ⟨rfl,h1,_⟩|⟨b,cap,cur,rfl,_,_,_,hl,hc,_⟩
   ·subst h1;subst hin;exact raw.tail none _ 0 0 _ _ w v' w' hvp (kF _) (by decide) g1
   subst hin;exact raw.tail _ _ s.length cap _ _ w v' w' hvp hl (by unfold maxLen at hc;omega) g1
  refine run.mono ?_;rintro e1 w1 ⟨rfl,rfl⟩;exact fin _ _ _ g2 g3
 have hilt:i<s.length:=by omega
 rcases V0 with ⟨_,h1,_⟩|⟨b,cap,cur,rfl,hq0,hgb,hcb,hlb,hmb,hrb⟩
 ·subst h1;simp at hilt
 have hne:vb≠b:=fun e0=>by
  subst e0
  have:=h0.inj 0 1 vb (.inl ⟨_,hq0⟩) (.inl ⟨_,hqv⟩);omega
 have hcl:(cur.toList.take (s.length*sz)).length=s.length*sz:=by
  have:=jL sz hlb;rw [mH];simp;omega
 have h1c:=O5 hp hs hcl hrb;have hcs:=I7 (size:=sz) (n:=s.length) hgb (c:=0);have hisz:i*sz≤s.length*sz:=jL sz hi;have hdl:((cur.toList.take (s.length*sz)).drop (i*sz)).length=(s.length-i)*sz:=by rw [X4,hcl,vBJ]
 have h1d: ∀y∈(cur.toList.take (s.length*sz)).drop (i*sz),y.oneCell'=true:=fun y hy=>h1c y (vAB hy);have hsum:(i+v.length)*sz+(s.length-i)*sz=(s.length+v.length)*sz:=by rw [←jJ];congr 1;omega
 have hdr: ∀y u,RT w (own K β0 S0.H) y u→RT w.drew (own K β0 S0.H) y u:=fun y u h=>h.mono (Ext.drew _ _) fun _ _ h=>h;by_cases hroom:s.length+v.length≤cap
 ·have hfit:(s.length+v.length)*sz≤cur.size:=by rw [hcb];exact jL sz hroom
  refine(raw.room b s.length cap i vb v.length vc _ _ w hilt hvp hroom (by unfold maxLen at hmb;omega) hne hcl hvl hcs (fun j hj=>?_) (fun j=>by simp [World.frozen?,hgb]) hvs h1c h1v e e cur2.size cur.size
   (by unfold World.shape?;rw [hgv]) (by unfold World.shape?;rw [hgb]) ?_ fun j=>by simp [World.frozen?,hgv]).mono ?_
  ·have:j<cur.size:=by omega
   simp [World.cell?,hgb,this]
  ·have:0<(s.length+v.length)*sz:=Nat.mul_pos (by omega) hp;omega
  rintro e1 w1 ⟨rfl,hw1⟩;have hgd:w.drew.heap[b]? =some (.cells cur e (0,0)):=hgb;rw [mJ hgd (by rw [hdl,hsum];exact hfit) h1d] at hw1;rw [mJ (setRow_heap _ _ _ _ _ _ hgd) (by
   rw [hvl]
   have:i*sz+v.length*sz≤(s.length+v.length)*sz:=by rw [←jJ];exact jL sz (by omega)
   have h2: ∀l:List Value,l.toArray.size=l.length:=fun l=>by simp
   rw [h2];simp only [List.length_append,List.length_take,List.length_drop,hdl];simp;omega) h1v,setRow_setRow] at hw1
  have hsp:=aJP (cur:=cur.toList) (cs:=cur.toList.take (s.length*sz)) (vs:=cur2.toList.take (v.length*sz)) (a:=i*sz) (m:=v.length*sz) (k:=s.length*sz) hisz rfl hvl (by rw [←jJ];simpa using hfit);rw [←jJ,←jJ] at hsp;simp only at hw1;rw [hsp] at hw1;generalize hUS:(cur.toList.take (s.length*sz)).take (i*sz)++cur2.toList.take (v.length*sz)++(cur.toList.take (s.length*sz)).drop (i*sz)++cur.toList.drop ((s.length+v.length)*sz)=US at hw1;have hUl:US.toArray.size=cur.size:=by
   rw [←hUS];have h2: ∀l:List Value,l.toArray.size=l.length:=fun l=>by simp
   rw [h2];simp only [List.length_append,hvl,hdl,List.length_drop];rw [mH,hcl];have h3:i*sz+(s.length-i)*sz=s.length*sz:=by rw [←jJ];congr 1;omega
   have h4:(s.length+v.length)*sz=s.length*sz+v.length*sz:=jJ _ _ _;simp only [Array.length_toList];omega
  have hrel:=(pQ h0).setRow 0 b (.inl ⟨_,hq0⟩) cur e hgd US.toArray hUl (.arr e gs sz R) hHne
   ⟨hg1,Or.inr ⟨b,_,hq0,setRow_heap _ _ _ _ _ _ hgd,by rw [hUl,hRl];exact hfit,hRs,fun k j row x u a1 a2 a3=>by
    have h9:=aCk (rest:=cur.toList.drop ((s.length+v.length)*sz)) rfl hi hcl hvl hs hs' (R:=fun x u=>RT w.drew (own K β0 S0.H) x u) (fun k j row x u b1 b2 b3=>hdr _ _ (hrb k j row x u b1 b2 b3)) (fun k j row x u b1 b2 b3=>hdr _ _ (hrv k j row x u b1 b2 b3)) k j row x u (by rw [←hRe];exact a1) a2 (by rw [hUS];simpa using a3);refine h9.mono ⟨rfl,rfl,rfl,by simp,fun kk _ hx=>setRow_other _ _ _ _ fun e0=>hx ?_⟩ fun _ _ h=>h;subst e0;exact .inr ⟨0,hHne,.inl ⟨_,hq0⟩⟩⟩⟩
  have hrel2:=hrel.bump 0 e gs sz R (some b) hq0 (show upd S0.H 0 (some (.arr e gs sz R)) 0=some (.arr e gs sz R) from aI _ _ _);have hHH:upd (upd S0.H 0 (some (.arr e gs sz R))) 0 (some (.arr e (gs+1) sz R))=upd S0.H 0 (some (.arr e (gs+1) sz R)):=by
   funext j;by_cases hj:j=0
   ·subst hj;rw [aI,aI]
   rw [aH _ _ _ _ hj,aH _ _ _ _ hj,aH _ _ _ _ hj]
  simp only [hHH] at hrel2;rw [←hw1] at hrel2;refine fin _ _ _ hrel2 ?_;have hv2:RV (β0.put 0 (some (some b,gs+1))) w1 (own K (β0.put 0 (some (some b,gs+1))) (upd S0.H 0 (some (.arr e (gs+1) sz R)))) (.msl 0 (gs+1) sz 0 R.length) (.slice (some ⟨b,0*sz,none⟩) R.length cap):=by
   refine .msl 0 (gs+1) sz 0 _ cap b (cap*sz) e (by omega) (cW _ _ _) ?_ ?_ (by rw [l4]) (by omega) hmb
   ·rw [hw1,setRow_size];exact(vAx.1 hgb).1
   unfold World.shape?;rw [hw1,setRow_heap _ _ _ _ _ _ hgd];simp only [hUl,hcb]
  rw [F7,hRl] at hv2;rw [hRl];exact hv2
 refine(raw.grow b s.length cap i vb v.length vc _ _ w hilt hvp hlb (by omega) hlen hbig hcl hvl hcs hvs h1c h1v).mono ?_;rintro e1 w1 ⟨rfl,hw1⟩;generalize hGG:grownCap w (s.length+v.length) cap e=GG at hw1;have hGn:s.length+v.length≤GG:=by rw [←hGG];exact grownCap_ge w _ _ _
 have hGm:GG≤maxLen:=by rw [←hGG];exact grownCap_le_maxLen w _ _ _ hm'
 generalize hA0:(((cur.toList.take (s.length*sz)).take (i*sz)).toArray++Builtin.zeroCells z.cells (s.length+v.length-i)++Builtin.zeroCells z.cells (GG-(s.length+v.length)):Array Value)=A0 at hw1;have hpl:((cur.toList.take (s.length*sz)).take (i*sz)).length=i*sz:=by rw [mH,hcl];omega
 have hAs:A0.size=GG*sz:=by
  rw [←hA0];simp only [Array.size_append,List.size_toArray,size_zeroCells,hzs,hpl,←Nat.add_mul];congr 1;omega
 have hAl:A0.toList.length=GG*sz:=by rw [←hAs];simp
 have hsG:(s.length+v.length)*sz≤GG*sz:=jL sz hGn;have hg0:((w.alloc (.cells A0 e)).drew).heap[w.heap.size]? =some (.cells A0 e (0,0)):=bG w _;have hfit1:i*sz+(cur2.toList.take (v.length*sz)).length≤A0.size:=by
  rw [hvl,hAs]
  have:i*sz+v.length*sz≤(s.length+v.length)*sz:=by rw [←jJ];exact jL sz (by omega)
  omega
 rw [mJ hg0 hfit1 h1v] at hw1;have hg1':=setRow_heap ((w.alloc (.cells A0 e)).drew) w.heap.size A0 (A0.toList.take (i*sz)++cur2.toList.take (v.length*sz)++A0.toList.drop (i*sz+(cur2.toList.take (v.length*sz)).length)).toArray e (0,0) hg0;have hg2:((((w.alloc (.cells A0 e)).drew).setRow w.heap.size (A0.toList.take (i*sz)++cur2.toList.take (v.length*sz)++A0.toList.drop (i*sz+(cur2.toList.take (v.length*sz)).length)).toArray).drew).heap[w.heap.size]? =_:=hg1';have hz1:(A0.toList.take (i*sz)++cur2.toList.take (v.length*sz)++A0.toList.drop (i*sz+(cur2.toList.take (v.length*sz)).length)).length=GG*sz:=by
  simp only [List.length_append,List.length_take,List.length_drop];simp only [Array.length_toList,hAs];rw [mH] at hvl hfit1;rw [hAs] at hfit1;omega
 rw [mJ hg2 (by
  rw [hdl,hsum];have h2: ∀l:List Value,l.toArray.size=l.length:=fun l=>by simp
  rw [h2,hz1];exact hsG) h1d] at hw1
 have hsp:=aJO (A0:=A0.toList) (ds:=(cur.toList.take (s.length*sz)).drop (i*sz)) (vs:=cur2.toList.take (v.length*sz)) (a:=i*sz) (m:=v.length*sz) (p:=(cur.toList.take (s.length*sz)).take (i*sz))
  (q:=(Builtin.zeroCells z.cells (s.length+v.length-i)).toList++(Builtin.zeroCells z.cells (GG-(s.length+v.length))).toList) (by rw [←hA0];simp) hpl hvl (by
   rw [hdl,←jJ,hsum,hAl];exact hsG)
 rw [←jJ] at hsp;simp only at hw1;rw [hsp] at hw1;generalize hUS:(cur.toList.take (s.length*sz)).take (i*sz)++cur2.toList.take (v.length*sz)++(cur.toList.take (s.length*sz)).drop (i*sz)++A0.toList.drop ((i+v.length)*sz+((cur.toList.take (s.length*sz)).drop (i*sz)).length)=US at hw1;have hw2:w1=(w.drew.drew).alloc (.cells US.toArray e):=by
  rw [hw1];have h3:((((w.alloc (.cells A0 e)).drew).setRow w.heap.size (A0.toList.take (i*sz)++cur2.toList.take (v.length*sz)++A0.toList.drop (i*sz+(cur2.toList.take (v.length*sz)).length)).toArray).drew).setRow w.heap.size US.toArray=(((w.drew.drew).alloc (.cells A0 e)).setRow w.heap.size (A0.toList.take (i*sz)++cur2.toList.take (v.length*sz)++A0.toList.drop (i*sz+(cur2.toList.take (v.length*sz)).length)).toArray).setRow w.heap.size US.toArray:=rfl;rw [h3,setRow_setRow];exact World.setRow_alloc_new (w.drew.drew) A0 US.toArray e
 have hUl:US.toArray.size=GG*sz:=by
  rw [←hUS];have h2: ∀l:List Value,l.toArray.size=l.length:=fun l=>by simp
  rw [h2];simp only [List.length_append,hpl,hvl,hdl,List.length_drop,Array.length_toList,hAs];rw [hsum];have h3:i*sz+(s.length-i)*sz=s.length*sz:=by rw [←jJ];congr 1;omega
  have h4:(s.length+v.length)*sz=s.length*sz+v.length*sz:=jJ _ _ _;omega
 have hmv:=(pQ (pQ h0)).move 0 e gs sz s hH0 US.toArray R (by rw [hUl,hRl];exact hsG) hRs (fun k j row x u a1 a2 a3=>by
  have h9:=aCk (rest:=A0.toList.drop ((i+v.length)*sz+((cur.toList.take (s.length*sz)).drop (i*sz)).length)) rfl hi hcl hvl hs hs' (R:=fun x u=>RT w.drew.drew (own K β0 S0.H) x u)
   (fun k j row x u b1 b2 b3=>(hdr _ _ (hrb k j row x u b1 b2 b3)).mono (Ext.drew _ _) fun _ _ h=>h) (fun k j row x u b1 b2 b3=>(hdr _ _ (hrv k j row x u b1 b2 b3)).mono (Ext.drew _ _) fun _ _ h=>h) k j row x u (by rw [←hRe];exact a1) a2 (by rw [hUS];simpa using a3)
  exact h9)
 rw [←hw2] at hmv;refine fin _ _ _ hmv ?_;have hsw:(w.drew.drew).heap.size=w.heap.size:=rfl;have hnew:=bG (w.drew.drew) (.cells US.toArray e);have hv2:RV (β0.put 0 (some (some (w.drew.drew).heap.size,gs+1))) w1 (own K (β0.put 0 (some (some (w.drew.drew).heap.size,gs+1))) (upd S0.H 0 (some (.arr e (gs+1) sz R)))) (.msl 0 (gs+1) sz 0 R.length) (.slice (some ⟨w.heap.size,0*sz,none⟩) R.length GG):=by
  refine .msl 0 (gs+1) sz 0 _ GG w.heap.size (GG*sz) e (by omega) (cW _ _ _) ?_ ?_ (by rw [l4]) (by omega) hGm
  ·rw [hw2];simp
  unfold World.shape?;rw [hw2];rw [show((w.drew.drew).alloc (.cells US.toArray e)).heap[w.heap.size]? =some (.cells US.toArray e) from hnew];simp only [hUl]
 rw [F7,hRl] at hv2;rw [hRl];exact hv2
theorem aKc{P:Program}{G:Glob}{f:FuncId}{t e:TypeId}{u0:TypeDesc}{sz:Nat}{i0:TypeInfo}{z:Value}(call:hJ P f)(raw:InsRaw P f t e sz i0 z)(hu:P.underlying t=some (.slice e))(hi0:P.info? e=some i0)(hz0:i0.zero=some z)(hzs:z.cells.size=sz)(hi3:i0.size=sz)
  (hue:P.underlying e=some u0) (hp:0<sz) (hby:i0.bytes≤140000) {α:Type} (rf:α→List T) (hrf: ∀x,(rf x).length=sz) (s v R:List α) (i gs gv:Nat) (hi:i≤s.length) (hR:app (s.take i++v) (s.drop i)=some R):
  VCC P G f [ar e gs sz rf s,ar e gv sz rf v] [ms 0 gs sz rf s,.t (.int .i64 i),ms 1 gv sz rf v] (ms 0 (gs+1) sz rf R) [ar e (gs+1) sz rf R,ar e gv sz rf v]:=by
 refine aLL call raw hu hi0 hz0 hzs hi3 hue hp hby (s.map rf) (v.map rf) (R.map rf) i gs gv (by simpa using hi) ?_ (Rows.map s hrf) (Rows.map v hrf);unfold app at hR⊢;simp only [List.length_append,List.length_take,List.length_drop,List.length_map] at hR⊢;split at hR
 ·rename_i h;rw [if_pos h];cases hR;simp [List.map_append,List.map_take,List.map_drop]
 cases hR
section runs
variable {P:Program}
open Go.RowKit Go.Lib
theorem uC(w:World)(dT sT ty elem:TypeId)(k b o dLen dCap:Nat)(a:Addr)(sLen sCap m:Nat)(cs:List Value)
  (hu:P.underlying dT=some (.slice elem)) (hs:(P.info? elem).map (·.size)=some k) (hm:m=Nat.min sLen dLen) (hn:cs.length=m*k)
  (hsrc: ∀j v,cs[j]? =some v→w.cell? (a.add j)=some v) (hc: ∀j,j<cs.length→(w.cell? ⟨b,o+j,none⟩).isSome=true) (hf: ∀j,j<cs.length→w.frozen? ⟨b,o+j,none⟩=false) (h1: ∀v∈cs,v.oneCell'=true):
  (Builtin.copy_ #[dT,sT] ty #[.slice (some ⟨b,o,none⟩) dLen dCap,.slice (some a) sLen sCap]).run P w= .ok (goInt m) (w.setCells b o cs):=by
 have hl:=run_loadCells_list (P:=P) w a cs hsrc;have hst:=run_storeCells_cells (P:=P) b o cs 0 w (by simpa using hc) (by simpa using hf) h1;cases hq:P.info? elem with
 |none=>simp [hq] at hs
 |some i=>
  have hi:i.size=k:=by simpa [hq] using hs
  simp [Builtin.copy_,run_underlying hu,Builtin.lenOf,Builtin.firstCells,sizeOf,typeInfo,hq,hi,←hm,←hn,hl,hst]
theorem aAD(w:World){o:Oper}{a:Act}{K:Act→World→Prop}{Q:Exit→Act→World→Prop}(d s:Operand)(t t':TypeId)
  (ho:o.op= .call {callee:= .builtin .copy,args:= #[d,s],argTypes:= #[t,t']}) (v u:Value) (hd:a.eval d=v) (hs:a.eval s=u) {v':Value} {w':World}
  (hr:(Builtin.copy_ #[t,t'] o.type #[v,u]).run P w= .ok v' w') (h:K (a.put o.dst v') w'):o.wp P a w K Q:=by unfold Oper.wp execOp;simp only [ho,resolve,invoke,builtin,Sem.run_bind,Sem.run_pure,Result.andThen_ok,List.map_toArray,List.map_cons,List.map_nil,hd,hs,hr];exact h
theorem kK(w:World){ops:Array Oper}{rest:List Oper}{o:Oper}{a:Act}{Q:Exit→Act→World→Prop}(hgd:o.guard=none)(d s:Operand)(t t':TypeId)
  (ho:o.op= .call {callee:= .builtin .copy,args:= #[d,s],argTypes:= #[t,t']}) (v u:Value) (hd:a.eval d=v) (hs:a.eval s=u) {v':Value} {w':World}
  (hr:(Builtin.copy_ #[t,t'] o.type #[v,u]).run P w= .ok v' w') (h:wpList P ops Q rest (a.put o.dst v') w'):wpList P ops Q (o::rest) a w:=
 wpList_plain hgd fun _ hK=>aAD w d s t t' ho v u hd hs hr (hK _ _ h)
theorem sC{ops:Array Oper}{o:Oper}{a:Act}{w:World}{K:Act→World→Prop}{Q:Exit→Act→World→Prop}{E:Prop}
  (hg:o.guard=none) (d x:Operand) (dT sT:TypeId) (hop:o.op=Op.call {callee:=Callee.builtin Builtin.copy,args:= #[d,x],argTypes:= #[dT,sT]})
  (v u:Value) (hd:a.eval d=v) (hx:a.eval x=u) {v':Value} {w':World} (hr:(Builtin.copy_ #[dT,sT] o.type #[v,u]).run P w= .ok v' w') (hK:K (a.put o.dst v') w'):
  if Region.wanted o (yielded ops a.tmps)=true then Oper.wp P o a w K Q else E:=by
 have hw:Region.wanted o (yielded ops a.tmps)=true:=by simp [Region.wanted,hg]
 rw [if_pos hw];unfold Oper.wp;simp [execOp,hop,resolve,invoke,builtin,hd,hx,hr,Result.andThen];exact hK
theorem pG(b:Nat)(vs:List Value)(o:Nat)(w:World)(h: ∀j,j<vs.length→(w.cell? ⟨b,o+j,none⟩).isSome=true)(k:Nat)(hk:(w.cell? ⟨b,k,none⟩).isSome=true):((w.setCells b o vs).cell? ⟨b,k,none⟩).isSome=true:=by
 by_cases hin:o≤k∧k<o+vs.length
 ·have:=World.cell?_setCells_in b vs o w h (k-o) (by omega);rw [show o+(k-o)=k by omega] at this;rw [this];rfl
 rw [World.cell?_setCells_out b vs o w ⟨b,k,none⟩ fun _ _=>by show k<o∨o+vs.length≤k;omega];exact hk
end runs
end Go.Lift

/- slices.Insert of one owned array into another: from the runs to the contract. -/
import Derived.Test.YtcihigfifglboabGreatELiftZ
import Derived.Shelf.RegionOpenPlain
import Derived.WalkKit
import Derived.Lib.Walk
import Derived.Lib.SliceRun
import Derived.Lib.JoinLaws
import Derived.Lib.AppendZeros
import Derived.Lib.AppendZerosOnto
import Derived.Lib.Overlaps
import Derived.Laws.Externs
import Derived.Laws.IdiomCopy
import Derived.Laws.CopyRow
import Derived.Deep.WholeRow
set_option linter.unusedVariables false
namespace Go.Lift
open Go
theorem aDn{b o:Nat}{vs:List Value}{w:World}{cur:Array Value}{ty:TypeId}(hg:w.heap[b]? =some (.cells cur ty (0,0)))(hl:o+vs.length≤cur.size)(h1: ∀v∈vs,v.oneCell'=true):
  w.setCells b o vs=w.setRow b (cur.toList.take o++vs++cur.toList.drop (o+vs.length)).toArray:=by
 have a:=run_storeCells_at (P:=(default:Program)) b o ty vs 0 cur w hg (by omega) h1;have c:=run_storeCells_cells (P:=(default:Program)) b o vs 0 w (fun j hj=>by
  have:o+j<cur.size:=by omega
  simp [World.cell?,hg,this]) (fun j hj=>by simp [World.frozen?,hg]) h1
 rw [a] at c;simp only [Nat.add_zero] at c;injection c with _ c;exact c.symm
theorem vV{P:Program}{G:Glob}{w w':World}{X:Nat→Prop}{inn out:List E}{β0 β':Map}{nt:Nat}{s':S}{a':Act}{r:V}{u:Value}(hr:Rel (Ctx.vc P G w X inn.length β0 nt) β' s' a' w')(hm:inn.length≤out.length)
  (hv:RV β' w' (own (Ctx.vc P G w X inn.length β0 nt) β' s'.H) r u) (hok:r.ok (cV out.length)=true) (hH:HeapLe s'.H (cV out.length) (listH out 0)): ∃β,Left β0 β inn out w w' X r u:=by
 let s2:S:={t:=nU,H:=listH out 0,u:=cV out.length}
 have hall:kM inn.length s2.u=true:=by
  have: ∀n,n≤inn.length→kM n s2.u=true:=by
   intro n;induction n with
   |zero=>intro _;rfl
   |succ n ih=>intro hn;simp [kM,ih (by omega),show s2.u n=true from cJ.2 (by omega)]
  exact this _ (kH _)
 have hc:=hr.cut (s':=s2) (SlotsLe.nil _ _) hH hall;have ho:=wT (K:=Ctx.vc P G w X inn.length β0 nt) (β:=β') (s:=s') (s':=s2) hH;refine⟨cut β' s2.u,?_⟩;refine⟨hr.ext.weaken fun b _ ⟨id,_,h⟩=>⟨id,h⟩,hc.base,hc.shp,?_,?_,hc.inj,hc.fresh,?_,hv.under ho (fun _ h=>aA6 h) hok⟩
 ·intro k hk;apply hc.dom;cases hx:s2.u k with
  |false=>rfl
  |true=>have:=cJ.1 hx;omega
 ·intro k b hk;apply hc.domn;cases hx:s2.u k with
  |false=>rfl
  |true=>have:=cJ.1 hx;omega
 intro k e he;exact(hc.heap k e (by rw [←pF] at he;exact he)).2
structure InsRaw (P:Program) (f:FuncId) (t e:TypeId) (sz:Nat) (i0:TypeInfo) (z:Value):Prop where
 nothing: ∀(base vbase:Option Addr) (n c i vc:Nat) (w:World),i≤n→n≤c→c≤9223372036854775807→Calls P f #[.slice base n c,.int .i64 i,.slice vbase 0 vc] w fun e w'=>e= .returned (.slice base n c)∧w'=w
 tail: ∀(base vbase:Option Addr) (n c m vc:Nat) (w:World) (v':Value) (w':World),0<m→n≤c→c≤9223372036854775807→(Builtin.append_ #[t,t] t #[.slice base n c,.slice vbase m vc]).run P w= .ok v' w'→
  Calls P f #[.slice base n c,.int .i64 n,.slice vbase m vc] w fun e w1=>e= .returned v'∧w1=w'
 room: ∀(b n c i vb m vc:Nat) (cs vs:List Value) (w:World),i<n→0<m→n+m≤c→c≤9223372036854775807→vb≠b→cs.length=n*sz→vs.length=m*sz→
  (∀j v,cs[j]? =some v→w.cell? ⟨b,j,none⟩=some v)→(∀j,j<(n+m)*sz→(w.cell? ⟨b,j,none⟩).isSome=true)→(∀j,w.frozen? ⟨b,j,none⟩=false)→
  (∀j v,vs[j]? =some v→w.cell? ⟨vb,j,none⟩=some v)→(∀v∈cs,v.oneCell'=true)→(∀v∈vs,v.oneCell'=true)→
  ∀(tA tB:TypeId) (kA kB:Nat),w.shape? vb=some (tA,kA)→w.shape? b=some (tB,kB)→kB≠0→(∀j,w.frozen? ⟨vb,j,none⟩=false)→
  Calls P f #[.slice (some ⟨b,0,none⟩) n c,.int .i64 i,.slice (some ⟨vb,0,none⟩) m vc] w fun e w'=>
   e= .returned (.slice (some ⟨b,0,none⟩) (n+m) c)∧w'=(w.drew.setCells b ((i+m)*sz) (cs.drop (i*sz))).setCells b (i*sz) vs
 grow: ∀(b n c i vb m vc:Nat) (cs vs:List Value) (w:World),i<n→0<m→n≤c→c<n+m→n+m≤1000000000→(n+m)*i0.bytes≤140737488355328→cs.length=n*sz→vs.length=m*sz→
  (∀j v,cs[j]? =some v→w.cell? ⟨b,j,none⟩=some v)→(∀j v,vs[j]? =some v→w.cell? ⟨vb,j,none⟩=some v)→(∀v∈cs,v.oneCell'=true)→(∀v∈vs,v.oneCell'=true)→
  Calls P f #[.slice (some ⟨b,0,none⟩) n c,.int .i64 i,.slice (some ⟨vb,0,none⟩) m vc] w fun e' w'=>
   e'= .returned (.slice (some ⟨w.heap.size,0,none⟩) (n+m) (grownCap w (n+m) c e))∧
   w'=(((w.alloc (.cells ((cs.take (i*sz)).toArray++Builtin.zeroCells z.cells (n+m-i)++Builtin.zeroCells z.cells (grownCap w (n+m) c e-(n+m))) e)).drew.setCells w.heap.size (i*sz) vs).drew).setCells w.heap.size ((i+m)*sz) (cs.drop (i*sz))
theorem aOp{β:Map}{w:World}{X:Nat→Prop}{id gen sz:Nat}{e:TypeId}{rows:List (List T)}{x:Value}(he:RE β w X id (.arr e gen sz rows))(hx:RV β w X (.msl id gen sz 0 rows.length) x):
  (x= .slice none 0 0∧rows=[]∧β id=some (none,gen))∨ ∃(b cap:Nat) (cur:Array Value),x= .slice (some ⟨b,0,none⟩) rows.length cap∧β id=some (some b,gen)∧w.heap[b]? =some (.cells cur e (0,0))∧cur.size=cap*sz∧rows.length≤cap∧cap≤maxLen∧
   ∀(i j:Nat) (row:List T) (y:T) (u:Value),rows[i]? =some row→row[j]? =some y→(cur.toList.take (rows.length*sz))[i*sz+j]? =some u→RT w X y u:=by
 obtain⟨q,hq⟩:=jE he;rcases cA hx hq with ⟨cap,b,n,ty',rfl,rfl,hw,hsh,hnn,hl,hmm⟩|⟨rfl,_,hlr,rfl⟩
 ·rcases he.2 with ⟨g1,_⟩|⟨b',cur,g1,g2,g3,g4,g5⟩
  ·rw [hq] at g1;cases g1
  rw [hq] at g1;cases g1;have hcs:cur.size=cap*sz:=by
   unfold World.shape? at hsh;rw [g2] at hsh;simp at hsh;rw [←hnn] at hsh;rw [nA] at hsh;exact hsh.2
  refine .inr ⟨b,cap,cur,by rw [V2],hq,g2,hcs,hl,hmm,fun i j row y u h1 h2 h3=>?_⟩;rw [V5] at h3;split at h3
  ·exact g5 i j row y u h1 h2 (by simpa using h3)
  cases h3
 exact .inl ⟨rfl,vAB hlr,hq⟩
section runs
variable {P:Program}
open Go.RowKit Go.Lib
end runs
end Go.Lift

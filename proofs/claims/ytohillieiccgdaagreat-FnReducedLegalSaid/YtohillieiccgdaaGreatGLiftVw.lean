/- Views of owned arrays: parts, clear, append of a part behind another part of the same array. -/
import Derived.Test.YtohillieiccgdaaGreatGLiftTs
namespace Go.Lift
open Go
def E.gen?:E→Option Nat
 | .cells _=>none
 | .arr _ gen _ _=>some gen
 | .tree _ _ gen _ _=>some gen
theorem X5{β:Map}{w:World}{X:Nat→Prop}{id g:Nat}{en:E}(hg:en.gen? =some g)(h:RE β w X id en):1≤g∧ ∃q,β id=some (q,g):=by
 cases en with
 |cells cs=>cases hg
 |arr ty gen size rows=>cases hg;exact⟨h.1,kX h⟩
 |tree Γ m gen rows hs=>cases hg;exact⟨h.1,vX h⟩
section yields
variable {P:Program} {H:Nat→Option E} {d:Option Tmp} {ty:TypeId} {pos:String} {af:Array Edge} {g:Option (Nat×Bool)}
variable {t:TypeId} {u:TypeDesc} {z:Value} {size bytes:Nat}
def aEJ(len:Nat)(lo hi:Option Operand)(ρ:Operand→Value)(a b:Nat):Prop:=
 (match lo with|some x=>ρ x= .int .i64 (a:Nat)|none=>a=0)∧(match hi with|some x=>ρ x= .int .i64 (b:Nat)|none=>b=len)
theorem V7{P:Program}{len cap a b:Nat}{lo hi:Option Operand}{ρ:Operand→Value}(h:aEJ len lo hi ρ a b)(h1:a≤b)(h2:b≤cap)(w:World):(Instr.sliceBounds true len cap (lo.map ρ) (hi.map ρ) none).run P w= .ok (a,b,cap) w:=by
 obtain⟨h3,h4⟩:=h
 cases lo with
 |none=>
  have h3:a=0:=h3
  subst h3
  cases hi with
  |none=>
   have h4:b=len:=h4
   subst h4
   simp [Instr.sliceBounds]
  |some y=>
   have h4:ρ y=_:=h4
   simp [Instr.sliceBounds,h4,cY w b cap _ h2]
 |some x=>
  have h3:ρ x=_:=h3
  cases hi with
  |none=>
   have h4:b=len:=h4
   subst h4
   simp [Instr.sliceBounds,h3,cY w a b _ h1]
  |some y=>
   have h4:ρ y=_:=h4
   simp [Instr.sliceBounds,h3,h4,cY w b cap _ h2,cY w a b _ h1]
theorem aIf(x:Operand)(lo hi:Option Operand)(e:TypeId)(id gen off len a b:Nat)(en:E)(hH:H id=some en)(hg:en.gen? =some gen)(ht:P.underlying t=some (.slice e))(he:TI P e u z size bytes)
  (h1:a≤b) (h2:b≤len) (h3:a=0∨a<len) {vals:List V} (hb: ∀β w X (ρ:Operand→Value),RVs β w X vals (lo.toList.map ρ++hi.toList.map ρ)→aEJ len lo hi ρ a b):
  Yield P H ⟨d,.slice t x lo hi none,ty,pos,af,g⟩ (.msl id gen size off len::vals) (.msl id gen size (off+a) (b-a)):=by
 intro β w X ρ hE ha
 obtain⟨hg1,q,hq⟩:=X5 hg (hE id _ hH)
 have ha:RVs β w X (.msl id gen size off len::vals) (ρ x::(lo.toList.map ρ++hi.toList.map ρ)):=by
  cases lo<;>cases hi<;>simpa [Op.operands] using ha
 have hbd:aEJ len lo hi ρ a b:=hb β w X ρ ha.2
 have hx:RV β w X (.msl id gen size off len) (ρ x):=ha.1
 rcases dF hx hq with ⟨cap,b',n,ty',hxe,hb0,hw,hs,hn,hl,hm⟩|⟨hb0,h0,hl0,hxe⟩
 ·subst hb0
  refine⟨.slice (some ⟨b',(off+a)*size,none⟩) (b-a) (cap-a),?_,.msl id gen size (off+a) (b-a) (cap-a) b' n ty' hg1 hq hw hs (by rw [←hn];congr 1;omega) (by omega) (by omega)⟩
  simp only [execOp,Sem.run_bind,Instr.sliceAt,Instr.slice,run_underlying ht,Result.andThen_ok,hxe,Option.map_none,Option.map_some,V7 hbd h1 (show b≤cap by omega),he.run_sizeOf,Sem.run_pure]
  by_cases hc:cap=a
  ·rw [if_pos hc]
   have:a=0:=by omega
   subst this;simp
  ·rw [if_neg hc];simp [d9,Nat.add_mul]
 ·subst hb0;subst h0;subst hl0
  have e1:b=0:=by omega
  have e2:a=0:=by omega
  subst e1;subst e2
  refine⟨.slice none 0 0,?_,.msl0 id gen size hg1 hq⟩
  simp only [execOp,Sem.run_bind,Instr.sliceAt,Instr.slice,run_underlying ht,Result.andThen_ok,hxe,Option.map_none,V7 hbd (Nat.le_refl _) (Nat.le_refl 0),he.run_sizeOf,Sem.run_pure]
  simp
theorem aGR(x:Operand)(lo hi:Option Operand)(e:TypeId)(id gen size0 off len a:Nat)(en:E)(hH:H id=some en)(hg:en.gen? =some gen)(ht:P.underlying t=some (.slice e))(he:TI P e u z size bytes)
  (h2:a≤len) {vals:List V} (hb: ∀β w X (ρ:Operand→Value),RVs β w X vals (lo.toList.map ρ++hi.toList.map ρ)→aEJ len lo hi ρ a a):
  Yield P H ⟨d,.slice t x lo hi none,ty,pos,af,g⟩ (.msl id gen size0 off len::vals) (.t (.sl [])):=by
 intro β w X ρ hE ha
 obtain⟨hg1,q,hq⟩:=X5 hg (hE id _ hH)
 have ha:RVs β w X (.msl id gen size0 off len::vals) (ρ x::(lo.toList.map ρ++hi.toList.map ρ)):=by
  cases lo<;>cases hi<;>simpa [Op.operands] using ha
 have hbd:aEJ len lo hi ρ a a:=hb β w X ρ ha.2
 have hx:RV β w X (.msl id gen size0 off len) (ρ x):=ha.1
 obtain⟨ad,cap,hxe,hcap⟩: ∃ad cap,ρ x= .slice ad len cap∧len≤cap:=by
  rcases dF hx hq with ⟨cap,b',n,ty',hxe,hb0,hw,hs,hn,hl,hm⟩|⟨hb0,h0,hl0,hxe⟩
  ·exact⟨_,cap,hxe,hl⟩
  ·exact⟨none,0,by rw [hl0];exact hxe,by omega⟩
 refine⟨.slice (if cap=a then ad else ad.map (·.add (a*size))) (a-a) (cap-a),?_,.t _ _ (by rw [Nat.sub_self];exact .sl0 _ _)⟩
 simp only [execOp,Sem.run_bind,Instr.sliceAt,Instr.slice,run_underlying ht,Result.andThen_ok,hxe,Option.map_none,V7 hbd (Nat.le_refl _) (show a≤cap by omega),he.run_sizeOf,Sem.run_pure]
theorem aEO(x lo hi mx:Operand)(e:TypeId)(id gen size2 off len a b c:Nat)(en:E)(hH:H id=some en)(hg:en.gen? =some gen)(ht:P.underlying t=some (.slice e))(he:TI P e u z size bytes)
  (h1:a≤b) (h2:b≤c) (h3:c≤len):Yield P H ⟨d,.slice t x (some lo) (some hi) (some mx),ty,pos,af,g⟩ [.msl id gen size2 off len,.t (.int .i64 (a:Nat)),.t (.int .i64 (b:Nat)),.t (.int .i64 (c:Nat))] .junk:=by
 intro β w X ρ hE ha
 obtain⟨hg1,q,hq⟩:=X5 hg (hE id _ hH)
 have hx:RV β w X (.msl id gen size2 off len) (ρ x):=ha.1
 have hl:ρ lo=_:=aY ha.2.1
 have hh:ρ hi=_:=aY ha.2.2.1
 have hm:ρ mx=_:=aY ha.2.2.2.1
 obtain⟨ad,cap,hxe,hcap⟩: ∃ad cap,ρ x= .slice ad len cap∧len≤cap:=by
  rcases dF hx hq with ⟨cap,b',n,ty',hxe,hb0,hw,hs,hn,hl,hm⟩|⟨hb0,h0,hl0,hxe⟩
  ·exact⟨_,cap,hxe,hl⟩
  ·exact⟨none,0,by rw [hl0];exact hxe,by omega⟩
 refine⟨.slice (if c=a then ad else ad.map (·.add (a*size))) (b-a) (c-a),?_,.junk _⟩
 simp [execOp,hxe,hl,hh,hm,Instr.sliceAt,Instr.slice,run_underlying ht,Instr.sliceBounds,cY w c cap _ (by omega),cY w b c _ h2,cY w a b _ h1,he.run_sizeOf]
end yields
section steps
variable {K:Ctx} {s:S} {d:Option Tmp} {ty:TypeId} {pos:String} {af:Array Edge} {g:Option (Nat×Bool)}
variable {t:TypeId} {u:TypeDesc} {z:Value} {size bytes gen:Nat}
theorem aGE{β:Map}{a:Act}{w:World}(hr:Rel K β s a w)(id b:Nat)(e:TypeId)(rows rows':List (List T))(us us':Array Value)(hH:s.H id=some (.arr e gen size rows))(hq:β id=some (some b,gen))(hus:w.heap[b]? =some (.cells us e (0,0)))
  (hsz:us'.size=us.size) (hlen:rows'.length*size≤us.size) (hrow: ∀row,row∈rows'→row.length=size)
  (hc: ∀(i j:Nat) (row:List T) (x:T) (u:Value),rows'[i]? =some row→row[j]? =some x→us'[i*size+j]? =some u→(∃(i':Nat) (row':List T),rows[i']? =some row'∧row'[j]? =some x∧us[i'*size+j]? =some u)∨(∀w X,RT w X x u)):
  Rel K β {s with H:=upd s.H id (some (.arr e gen size rows'))} a (w.setRow b us'):=by
 refine Rel.setRow hr id b (.inl ⟨_,hq⟩) us e hus us' hsz (.arr e gen size rows') (by rw [hH];simp) ?_
 have hb':own K β s.H b:= .inr ⟨id,by rw [hH];simp,.inl ⟨_,hq⟩⟩
 have hre:=(hr.heap id _ hH).2
 refine⟨hre.1,.inr ⟨b,us',hq,setRow_heap _ _ _ _ _ _ hus,by omega,hrow,fun i j row x u a1 a2 a3=> ?_⟩⟩
 rcases hc i j row x u a1 a2 a3 with ⟨i',row',c1,c2,c3⟩|hc
 ·rcases hre.2 with ⟨h1,_⟩|⟨b2,us2,h1,h2,h3,h4,h5⟩
  ·rw [hq] at h1;cases h1
  ·rw [hq] at h1;cases h1
   rw [hus] at h2;cases h2
   exact(h5 i' j row' x u c1 c2 c3).mono ⟨rfl,rfl,rfl,by simp,fun k _ hx=>setRow_other _ _ _ _ (fun e0=>hx (e0▸hb'))⟩ (fun _ _ h=>h)
 ·exact hc _ _
theorem Rel.sameH{β:Map}{a:Act}{w:World}(hr:Rel K β s a w)(id:Nat)(en:E)(hH:s.H id=some en):Rel K β {s with H:=upd s.H id (some en)} a w:=by
 have:upd s.H id (some en)=s.H:=by
  funext i
  by_cases hi:i=id
  ·subst hi;rw [aF,hH]
  ·rw [aC _ _ _ _ hi]
 rw [this];exact hr
end steps
end Go.Lift

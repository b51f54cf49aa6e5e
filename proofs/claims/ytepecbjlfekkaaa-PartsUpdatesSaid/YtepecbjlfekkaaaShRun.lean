import Derived.Test.YtepecbjlfekkaaaShCtl
import Derived.RangeFuncNested
import Derived.LoopNIn
set_option linter.all false
set_option linter.unusedVariables false
set_option linter.unusedSimpArgs false
set_option autoImplicit false
namespace Go.Sh
variable {P:Program}
def Wide (F:Fence):Prop:=(∀ f,F.fn f) ∧ F.depth=none
theorem Wide.inRound {F:Fence} (h:Wide F) (l:Nat):Wide (F.inRound l):=h
theorem Wide.plain {F:Fence} (h:Wide F):Wide F.plain:=h
theorem Wide.depth {F:Fence} (h:Wide F) {n:Nat}:F.depth.isSome=true → 1 ≤ n:=by rw [h.2]; simp
def markOf (r:Nat):Deferred:={ target:=.collected r,args:=#[] }
def MarksP (B:Nat) (w:World) (μ:Mu) (ds:List Deferred):Prop :=
  ∃ rs:List Nat,ds=rs.map markOf ∧ rs.Nodup ∧ ∀ r ∈ rs,B ≤ r ∧ w.heap[r]? = some (.deferred (some [])) ∧ ∀ b x,μ b=some x → x.1 ≠ r
theorem MarksP.nil (B:Nat) (w:World) (μ:Mu):MarksP B w μ []:=⟨[],rfl,List.nodup_nil,fun _ h=>by cases h⟩
theorem MarksP.post {B:Nat} {μ μ':Mu} {m m':Mem} {w w':World} {ds:List Deferred} (h:MarksP B w μ ds) (hp:Post P μ m w μ' m' w'):MarksP B w' μ' ds:=by
  obtain ⟨rs,h1,h2,h3⟩:=h
  refine ⟨rs,h1,h2,fun r hr=>?_⟩
  obtain ⟨hB,hh,hno⟩:=h3 r hr
  have hlt:r < w.heap.size:=(Array.getElem?_eq_some_iff.1 hh).1
  refine ⟨hB,by rw [hp.frm r hlt fun c y hc hy=>absurd hy (hno c y hc)]; exact hh,fun b x hb e=>?_⟩
  rcases hp.new b x hb with q | ⟨_,q | ⟨c,y,hc,hy,_⟩⟩
  · exact hno b x q e
  · omega
  · exact hno c y hc (hy.trans e)
theorem MarksP.on {B:Nat} {μ:Mu} {w:World} {ds:List Deferred} {p:Bk → Bool} (h:MarksP B w μ ds):MarksP B w (μ.on p) ds:=by
  obtain ⟨rs,h1,h2,h3⟩:=h
  exact ⟨rs,h1,h2,fun r hr=>⟨(h3 r hr).1,(h3 r hr).2.1,fun b x hb=>(h3 r hr).2.2 b x (Mu.on_some.1 hb).2⟩⟩
def RoundOk (F:Fence) (μ:Mu) (m:Mem):Prop:=∀ l,F.round=some l → ∃ b base N r,μ b=some (l,base,N) ∧ m.get b=some (.loop r)
theorem RoundOk.post {F:Fence} {μ μ':Mu} {m m':Mem} {w w':World} (h:RoundOk F μ m) (hp:Post P μ m w μ' m' w'):RoundOk F μ' m':=by
  intro l hl
  obtain ⟨b,base,N,r,hb,hg⟩:=h l hl
  obtain ⟨r',hr'⟩:=hp.go.loop b r hg
  exact ⟨b,base,N,r',hp.keep b _ hb,hr'⟩
def SEx.exit':SEx → Exit
  | .normal=>.normal
  | .exit id=>.exit id
  | .ret=>.ret
def QC (P:Program) (B:Nat) (μ:Mu) (m:Mem) (w:World) (sz:Nat) (e:SEx) (fr':Fr) (m':Mem):Exit → Act → World → Prop :=
  fun ex a' w'=>ex=e.exit' ∧ ∃ μ',Post P μ m w μ' m' w' ∧ FrR μ' fr' a'.tmps ∧ a'.tmps.size=sz ∧ MarksP B w' μ' a'.defers
def RetP (P:Program) (μ:Mu) (m:Mem) (w:World) (v:SV) (m':Mem):Ending → World → Prop :=
  fun e w'=>∃ u μ',e=.returned u ∧ VR μ' v u ∧ Post P μ m w μ' m' w'
def callable (P : Program) (f : FuncId) : Prop := ∃ fn, P.funcs[f]? = some fn ∧ fn.body.isSome = true ∧ (fn.name == "runtime.NumGoroutine") = false
def TblOk (P:Program) (Tb:Tbl):Prop:=∀ f sf,Tb f=some sf → ∃ fn oc,P.funcs[f]? = some fn ∧ fnTo P oc fn=some sf.erase
def SC (P:Program) (Tb:Tbl) (n:Nat):Prop :=
  ∀ sc fr m e fr' m',runC Tb n sc fr m=some (e,fr',m') → ∀ cr oc nt,codeT P oc nt cr=some sc.erase → ∀ F,Wide F → ∀ B k μ w a,Sim P μ m w → FrR μ fr a.tmps → nt ≤ a.tmps.size → RoundOk F μ m → MarksP B w μ a.defers → B ≤ w.heap.size →
    cr.wpIn F k P (QC P B μ m w a.tmps.size e fr' m') a w
def SL (P:Program) (Tb:Tbl) (n:Nat):Prop :=
  ∀ kk ks sc fr m e fr' m',runL Tb n kk ks sc fr m=some (e,fr',m') → ∀ cr oc nt,codeT P oc nt cr=some sc.erase → ∀ F,Wide F → ∀ B k μ₀ m₀ w₀ μ w a sz,Sim P μ₀ m₀ w₀ → kk=m₀.lvl.2 → Post P μ₀ m₀ w₀ μ m w →
    FrR μ fr a.tmps → a.tmps.size=sz → nt ≤ sz → RoundOk F μ₀ m₀ → MarksP B w μ a.defers → B ≤ w₀.heap.size → cr.roundsIn F k P (QC P B μ₀ m₀ w₀ sz e fr' m') n a w
def SP (P:Program) (Tb:Tbl) (n:Nat):Prop :=
  ∀ so fr m v m',runP Tb n so fr m=some (v,m') → ∀ o:Oper,opT P o.op=some so.base → ∀ F,Wide F → ∀ k μ w a next Q,Sim P μ m w → OpsR μ fr a.eval o.op →
    (∀ u w' μ',VR μ' v u → Post P μ m w μ' m' w' → next (a.put o.dst u) w') → o.wpIn F k P a w next Q
def SVy (P:Program) (Tb:Tbl) (n:Nat):Prop :=
  ∀ b args m v m',runV Tb n (.yld b) args m=some (v,m') → ∀ F,Wide F → ∀ k μ w rargs r base N,Sim P μ m w → μ b=some (r,base,N) → VRs μ args rargs →
    ∃ L,w.heap[r]? = some (.loop L) ∧ rargs.length=L.params.size ∧ RoundIn F k P r L.fn ((L.params.zip ⟨rargs⟩).foldl (fun tmps (t,a)=>tmps.setIfInBounds t a) L.tmps) L.assign L.body w (RetP P μ m w v m')
def SF (P:Program) (Tb:Tbl) (n:Nat):Prop :=
  ∀ f args m v m',callF Tb n f args m=some (v,m') → ∀ F,Wide F → ∀ k μ w rargs,Sim P μ m w → VRs μ args rargs → callable P f ∧ CallsIn F k P f ⟨rargs⟩ w (RetP P μ m w v m')
def SR (P:Program) (Tb:Tbl) (n:Nat):Prop :=
  ∀ draw l fr m fr' m',runO Tb n draw l fr m=some (fr',m') → ∀ oc nt ops,regionT P oc nt ops draw=some (l.map SOper.erase) → ∀ F,Wide F → ∀ id B k μ w a,Sim P μ m w → FrR μ fr a.tmps → nt ≤ a.tmps.size → MarksP B w μ a.defers →
    (Code.region id ops draw).wpIn F k P (QC P B μ m w a.tmps.size .normal fr' m') a w
theorem callFunc_run {f:FuncId} (h:callable P f) (args:Array Value) (w:World):(callFunc f args).run P w=.ok (.enter f args) w:=by
  obtain ⟨fn,h1,h2,h3⟩:=h
  have h4:fn.body.isNone=false:=by cases hb:fn.body <;> simp [hb] at h2 ⊢
  simp only [callFunc,Sem.run_bind,run_program,Result.andThen_ok,h1]
  rw [if_neg (by rw [h3]; simp),if_neg (by rw [h4]; simp)]
  rfl
theorem Sim.loopOf {μ:Mu} {m:Mem} {w:World} (h:Sim P μ m w) {b:Bk} {r base N:Nat} {l:LoopR} (hb:μ b=some (r,base,N)) (hg:m.get b=some (.loop l)) :
    ∃ L,w.heap[r]? = some (.loop L) ∧ L.state=l.state ∧ L.pending=l.pending.map Jump.code ∧ L.params.toList=l.params ∧ FrR (μ.on (Bk.lv b.room.1 b.room.2)) l.fr L.tmps ∧
      ∃ oc nt,nt ≤ L.tmps.size ∧ (∀ t ∈ l.params,t < nt) ∧ codeT P oc nt L.assign=some l.assign.erase ∧ codeT P oc nt L.body=some l.body.erase:=h.blk b r base N _ hb hg
def AllS (p:SOp → Prop) (x:Option SOp):Prop:=∀ s,x=some s → p s
theorem AllS.none {p:SOp → Prop}:AllS p none:=fun _ h=>by cases h
theorem AllS.some {p:SOp → Prop} {s:SOp} (h:p s):AllS p (some s):=fun _ e=>by cases e; exact h
theorem AllS.bind {α:Type} {p:SOp → Prop} {x:Option α} {f:α → Option SOp} (h:∀ a,AllS p (f a)):AllS p (x.bind f):=fun s e=>by
  obtain ⟨a,_,ha⟩:=Option.bind_eq_some_iff.1 e; exact h a s ha
theorem AllS.map {α:Type} {p:SOp → Prop} {x:Option α} {f:α → SOp} (h:∀ a,p (f a)):AllS p (x.map f):=fun s e=>by
  obtain ⟨a,_,rfl⟩:=Option.map_eq_some_iff.1 e; exact h a
def SOp.isCall:SOp → Bool
  | .call _ _=>true
  | .callv _ _=>true
  | .callL _ _ _=>true
  | .mapsetL _ _ _ _ _ _=>true
  | _=>false
theorem builtinT_nc {b:Builtin} {tys:Array TypeId} {args:List Opd}:AllS (fun s=>s.isCall=false) (builtinT P b tys args):=by
  unfold builtinT
  repeat' (first | exact AllS.none | exact AllS.some rfl | (refine AllS.bind fun _=>?_) | (refine AllS.map fun _=>?_) | rfl | split | (dsimp only))
theorem opT_call {o:Op} {s:SOp} (h:opT P o=some s) (hc:s.isCall=true):∃ c,o=.call c ∧ callT P c=some s:=by
  by_cases hcall:∃ c,o=.call c
  · obtain ⟨c,rfl⟩:=hcall; exact ⟨c,rfl,h⟩
  · exfalso
    have:AllS (fun s=>s.isCall=false) (opT P o):=by
      cases o <;> simp only [opT]
      case call c=>exact absurd ⟨c,rfl⟩ hcall
      case makeFunc f x y=>cases f <;> first | exact AllS.none | exact AllS.bind fun _=>AllS.map fun _=>rfl
      case makeMap t r=>cases r <;> first | exact AllS.none | exact AllS.some rfl
      all_goals repeat' (first | exact AllS.none | exact AllS.some rfl | (refine AllS.bind fun _=>?_) | (refine AllS.map fun _=>?_) | rfl | split | (dsimp only))
    rw [this s h] at hc
    cases hc
theorem opT_base {o:Op} {s:SOp} (h:opT P o=some s):s.base=s:=by
  have : AllS (fun s=>s.base=s) (opT P o):=by
    cases o <;> simp only [opT]
    case call c =>
      unfold callT
      refine AllS.bind fun args=>?_
      split
      · unfold builtinT
        repeat' (first | exact AllS.none | exact AllS.some rfl | (refine AllS.bind fun _=>?_) | (refine AllS.map fun _=>?_) | rfl | split | (dsimp only))
      all_goals repeat' (first | exact AllS.none | exact AllS.some rfl | (refine AllS.bind fun _=>?_) | (refine AllS.map fun _=>?_) | rfl | split | (dsimp only))
    case makeFunc f x y=>cases f <;> first | exact AllS.none | exact AllS.bind fun _=>AllS.map fun _=>rfl
    case makeMap t r=>cases r <;> first | exact AllS.none | exact AllS.some rfl
    all_goals repeat' (first | exact AllS.none | exact AllS.some rfl | (refine AllS.bind fun _=>?_) | (refine AllS.map fun _=>?_) | rfl | split | (dsimp only))
  exact this s h
theorem VR.fn_inv {μ:Mu} {f:FuncId} {a c:List SV} {u:Value} (h:VR μ (.fn f a c) u):∃ x y,u=.func (.func f) ⟨x⟩ ⟨y⟩ ∧ VRs μ a x ∧ VRs μ c y:=by cases h; exact ⟨_,_,rfl,‹_›,‹_›⟩
theorem VR.yld_inv {μ:Mu} {b:Bk} {u:Value} (h:VR μ (.yld b) u):∃ r base N,μ b=some (r,base,N) ∧ u=.func (.yield r) #[] #[]:=by cases h; exact ⟨_,_,_,‹_›,rfl⟩
theorem awayB_some {fr:Fr} {lo:List Opd} {m:Mem} {x y:SV × Mem} (h:awayB fr lo m x=some y):x=y ∧ awayP fr lo m x.2:=by
  unfold awayB at h
  split at h
  · cases h; exact ⟨rfl,‹_›⟩
  · cases h
theorem awayP_mem {fr:Fr} {m m':Mem}:∀ {lo:List Opd},awayP fr lo m m' → ∀ o ∈ lo,away1 (o.ev fr) m m'
  | [],_,o,h=>by cases h
  | a :: r,h,o,ho=>by
    rcases List.mem_cons.1 ho with rfl | ho
    · exact h.1
    · exact awayP_mem h.2 o ho
theorem sp_step {Tb:Tbl} {n:Nat} (hF:SF P Tb n) (hV:SVy P Tb n) (hF':∀ n',n' < n → SF P Tb n'):SP P Tb (n + 1):=by
  intro so fr m v m' h o hop F hw k μ w a next Q hs hr hn
  have habout:∀ f,o.about P w a.eval=some f → F.fn f:=fun f _=>hw.1 f
  refine ⟨habout,?_⟩
  have hnd:∀ c,o.op ≠ .defer c:=by
    intro c e; rw [e] at hop; simp [opT] at hop
  rw [Oper.semAt_eq _ _ _ hnd]
  have plain:memop so fr m=some (v,m') → o.uponIn F k P a next Q ((execOp a.eval o).run P w):=by
    intro hm
    obtain ⟨u,w',μ',h1 | ⟨h1,rfl⟩,h2,h3⟩:=memop_sound hop hm μ w a.eval hr hs
    · rw [h1]; exact hn u w' μ' h2 h3
    · rw [h1]; exact hn undef w' μ' h2 h3
  -- a call with a function's number
  have enter:∀ (f:FuncId) (rargs:List Value),(execOp a.eval o).run P w=.ok (.enter f ⟨rargs⟩) w → CallsIn F (k - 1) P f ⟨rargs⟩ w (RetP P μ m w v m') → o.uponIn F k P a next Q ((execOp a.eval o).run P w):=by
    intro f rargs he hc
    rw [he]
    refine ⟨hw.depth,hc.mono fun e w' ⟨u,μ',h1,h2,h3⟩=>?_⟩
    subst h1
    exact hn u w' μ' h2 h3
  by_cases hcM:∃ lo ag ks mp k x,so=.mapsetL lo ag ks mp k x
  · obtain ⟨lo,ag,ks,mp,k,x,rfl⟩:=hcM
    simp only [runP,Option.bind_eq_some_iff] at h
    obtain ⟨y,h,hy⟩:=h
    obtain ⟨rfl,_⟩:=awayB_some hy
    obtain ⟨u,w',μ',h1 | ⟨h1,rfl⟩,h2,h3⟩:=memop_sound (so:=.mapset ag ks mp k x) hop h μ w a.eval hr hs
    · rw [h1]; exact hn u w' μ' h2 h3
    · rw [h1]; exact hn undef w' μ' h2 h3
  by_cases hcL:∃ lo f args,so=.callL lo f args
  · obtain ⟨lo,f,args,rfl⟩:=hcL
    obtain ⟨c,hoc,hct⟩:=opT_call hop rfl
    obtain ⟨dst,op,ty,pos,after,guard⟩:=o
    dsimp only at hoc
    subst hoc
    unfold callT at hct
    simp only [Option.bind_eq_some_iff] at hct
    obtain ⟨args',hargs,hct⟩:=hct
    have ra:=opdsT_rel hargs fun x y hx=>hr x y (by simp [Op.operands,Call.operands]; exact .inr (by simpa using hx))
    obtain ⟨callee,cargs,tys⟩:=c
    dsimp only at hct hargs ra hr
    have em:Array.map a.eval cargs=⟨cargs.toList.map a.eval⟩:=by apply Array.toList_inj.1; simp
    cases callee with
    | invoke r m=>simp at hct
    | builtin b =>
      exfalso
      simp only at hct
      have:=builtinT_nc _ hct
      cases this
    | value g =>
      cases g with
      | const v=>simp at hct
      | global g=>simp at hct
      | func g =>
        simp only [Option.bind_eq_some_iff] at hct
        obtain ⟨fn,hfn,hct⟩:=hct
        split at hct
        · simp only [SOp.base,Option.some.injEq,SOp.call.injEq] at hct
          obtain ⟨rfl,rfl⟩:=hct
          simp only [runP,Option.bind_eq_some_iff] at h
          obtain ⟨y,h,hy⟩:=h
          obtain ⟨rfl,_⟩:=awayB_some hy
          obtain ⟨hcal,hcall⟩:=hF _ _ _ _ _ h F hw (k - 1) μ w _ hs ra
          refine enter g (cargs.toList.map a.eval) ?_ hcall
          simp only [execOp,resolve,em,Sem.run_bind,Act.eval,Deferred.ofValue,Sem.run_pure,Result.andThen_ok,invoke]
          have:(#[]:Array Value) ++ (⟨cargs.toList.map a.eval⟩:Array Value) ++ #[]=⟨cargs.toList.map a.eval⟩:=by simp
          rw [this]
          exact callFunc_run hcal _ w
        · split at hct
          · split at hct
            · simp only [Option.some.injEq] at hct
              cases hct
            · cases hct
          · cases hct
      | tmp t =>
        simp only [Option.some.injEq] at hct
        cases hct
  by_cases hcs:so.isCall=true
  · have hcb : so.base.isCall=true:=by cases so <;> simp [SOp.isCall] at hcs <;> first | rfl | (exact absurd ⟨_,_,_,_,_,_,rfl⟩ hcM)
    obtain ⟨c,hoc,hct⟩:=opT_call hop hcb
    obtain ⟨dst,op,ty,pos,after,guard⟩:=o
    dsimp only at hoc
    subst hoc
    unfold callT at hct
    simp only [Option.bind_eq_some_iff] at hct
    obtain ⟨args',hargs,hct⟩:=hct
    have ra:=opdsT_rel hargs fun x y hx=>hr x y (by simp [Op.operands,Call.operands]; exact .inr (by simpa using hx))
    obtain ⟨callee,cargs,tys⟩:=c
    dsimp only at hct hargs ra hr
    have em:Array.map a.eval cargs=⟨cargs.toList.map a.eval⟩:=by apply Array.toList_inj.1; simp
    cases callee with
    | invoke r m=>simp at hct
    | builtin b =>
      exfalso
      simp only at hct
      have:=builtinT_nc _ hct
      simp only at this
      rw [this] at hcb; cases hcb
    | value g =>
      cases g with
      | const v=>simp at hct
      | global g=>simp at hct
      | func g =>
        simp only [Option.bind_eq_some_iff] at hct
        obtain ⟨fn,hfn,hct⟩:=hct
        split at hct
        · simp only [Option.some.injEq] at hct
          rcases base_call hct.symm with rfl | ⟨lo,rfl⟩
          case inr=>exact absurd ⟨_,_,_,rfl⟩ hcL
          simp only [runP] at h
          obtain ⟨hcal,hcall⟩:=hF _ _ _ _ _ h F hw (k - 1) μ w _ hs ra
          refine enter g (cargs.toList.map a.eval) ?_ hcall
          simp only [execOp,resolve,em,Sem.run_bind,Act.eval,Deferred.ofValue,Sem.run_pure,Result.andThen_ok,invoke]
          have:(#[]:Array Value) ++ (⟨cargs.toList.map a.eval⟩:Array Value) ++ #[]=⟨cargs.toList.map a.eval⟩:=by simp
          rw [this]
          exact callFunc_run hcal _ w
        · split at hct
          · split at hct
            · simp only [Option.some.injEq] at hct
              rw [← hct] at hcb; cases hcb
            · cases hct
          · cases hct
      | tmp t =>
        simp only [Option.some.injEq] at hct
        obtain rfl:=base_eq hct.symm rfl
        simp only [runP] at h
        have rf:=hr (.tmp t) (.t t) (by simp [Op.operands,Call.operands]) rfl
        cases n with
        | zero=>simp [runV] at h
        | succ n =>
          cases hfv:(Opd.t t).ev fr with
          | fn f first caps =>
            rw [hfv] at h rf
            simp only [runV] at h
            obtain ⟨x,y,hu,hx,hy⟩:=rf.fn_inv
            obtain ⟨hcal,hcall⟩:=hF' n (by omega) _ _ _ _ _ h F hw (k - 1) μ w _ hs ((hx.append ra).append hy)
            refine enter f _ ?_ hcall
            simp only [execOp,resolve,em,Sem.run_bind,hu,Deferred.ofValue,Sem.run_pure,Result.andThen_ok,invoke]
            have:(⟨x⟩:Array Value) ++ (⟨cargs.toList.map a.eval⟩:Array Value) ++ ⟨y⟩=⟨x ++ cargs.toList.map a.eval ++ y⟩:=by simp
            rw [this]
            exact callFunc_run hcal _ w
          | yld b =>
            rw [hfv] at h rf
            obtain ⟨r,base,N,hmu,hu⟩:=rf.yld_inv
            obtain ⟨L,hL,hsz,hround⟩:=hV _ _ _ _ _ h F hw (k - 1) μ w _ r base N hs hmu ra
            have hrun:(execOp a.eval ⟨dst,.call ⟨.value (.tmp t),cargs,tys⟩,ty,pos,after,guard⟩).run P w=.ok (.round r L.fn ((L.params.zip ⟨cargs.toList.map a.eval⟩).foldl (fun tmps (t,a)=>tmps.setIfInBounds t a) L.tmps) L.assign L.body) w:=by
              simp only [execOp,resolve,em,Sem.run_bind,hu,Deferred.ofValue,Sem.run_pure,Result.andThen_ok,invoke]
              have:(#[]:Array Value) ++ (⟨cargs.toList.map a.eval⟩:Array Value)=⟨cargs.toList.map a.eval⟩:=by simp
              rw [this]
              exact run_yield hL (by simpa using hsz)
            rw [hrun]
            refine ⟨hw.depth,hround.mono fun e w' ⟨u,μ',h1,h2,h3⟩=>?_⟩
            subst h1
            exact hn u w' μ' h2 h3
          | _=>rw [hfv] at h; simp [runV] at h
  · refine plain ?_
    cases so <;> first | (exact absurd rfl hcs) | (exact absurd ⟨_,_,_,rfl⟩ hcL) | (exact absurd ⟨_,_,_,_,_,_,rfl⟩ hcM) | (simpa only [runP] using h)
end Go.Sh

import Derived.Test.YtepecbjlfekkaaaShRun
set_option linter.all false
set_option linter.unusedVariables false
set_option linter.unusedSimpArgs false
set_option autoImplicit false
namespace Go.Sh
variable {P:Program}
theorem Post.tweak {μ μ':Mu} {m m':Mem} {w w':World} {r:Nat} (o:Obj) (hp:Post P μ m w μ' m' w') (hr:w.heap.size ≤ r) (hno:∀ b x,μ' b=some x → x.1 ≠ r):Post P μ m w μ' m' (w'.putObj r o) where
  sim:=⟨fun b x hb=>⟨(hp.sim.dom b x hb).1,by rw [World.putObj_size]; exact (hp.sim.dom b x hb).2⟩,
    fun b r' base N x hb hx=>(hp.sim.blk b r' base N x hb hx).sub (fun _ _ h=>h) (World.putObj_heap_other (hno b _ hb)),hp.sim.inj,hp.sim.cl⟩
  go:=hp.go
  keep:=hp.keep
  new:=hp.new
  frm r' hr' hn:=by rw [World.putObj_heap_other (by omega)]; exact hp.frm r' hr' hn
  os:=hp.os
  tape:=hp.tape
  out:=hp.out
  size:=by rw [World.putObj_size]; exact hp.size
  old:=hp.old
theorem leaves_marks {F:Fence} {k:Nat} {fn:Func} {tmps:Array Value} {R:Ending → World → Prop} {μ μ':Mu} {m m':Mem} {w:World}
    (hR:∀ w₂,Post P μ m w μ' m' w₂ → ∃ v,(results fn tmps).run P w₂=.ok v w₂ ∧ R (.returned v) w₂) :
    ∀ (rs:List Nat) (w₁:World),Post P μ m w μ' m' w₁ → rs.Nodup → (∀ r ∈ rs,w.heap.size ≤ r ∧ w₁.heap[r]? = some (.deferred (some [])) ∧ ∀ b x,μ' b=some x → x.1 ≠ r) →
      LeavesInM F k P fn tmps R (rs.map markOf) .returning w₁
  | [],w₁,hp,_,_=>hR w₁ hp
  | r :: rs,w₁,hp,hnd,h=>by
    obtain ⟨h1,h2,h3⟩:=h r List.mem_cons_self
    have hnd':=List.nodup_cons.1 hnd
    refine ⟨by simp,.inl ⟨r,w₁.putObj r (.deferred none),rfl,run_takeDeferred h2,leaves_marks hR rs _ (hp.tweak _ h1 h3) hnd'.2 fun q hq=>?_⟩⟩
    obtain ⟨q1,q2,q3⟩:=h q (List.mem_cons_of_mem _ hq)
    exact ⟨q1,by rw [World.putObj_heap_other (by rintro rfl; exact hnd'.1 hq)]; exact q2,q3⟩
theorem varT_of_resT {r:ResultVar} {sr:SRes} {rest:List ResultVar} {srs:List SRes} (h:resT P (r :: rest)=some (sr :: srs)) :
    resT P rest=some srs ∧ (match r with | .tmp t=>sr=.t t | .cell a t=>∃ n,varT P t=some n ∧ sr=.cell a n):=by
  cases r with
  | tmp t =>
    simp only [resT,Option.map_eq_some_iff,List.cons.injEq] at h
    obtain ⟨x,hx,h1,rfl⟩:=h; exact ⟨hx,h1.symm⟩
  | cell a t =>
    simp only [resT,Option.bind_eq_some_iff,Option.map_eq_some_iff,List.cons.injEq] at h
    obtain ⟨n,hn,x,hx,h1,rfl⟩:=h
    exact ⟨hx,n,hn,h1.symm⟩
theorem resT_nil {rs:List ResultVar} (h:resT P rs=some []):rs=[]:=by
  cases rs with
  | nil=>rfl
  | cons r rs=>cases r <;> simp [resT,Option.bind_eq_some_iff] at h
def resM (tmps:Array Value):ResultVar → Sem Value
  | .tmp t=>pure (tmps.getD t undef)
  | .cell a t=>do loadVar t (← asAddr (tmps.getD a undef))
theorem results_eq (fn:Func) (tmps:Array Value):results fn tmps=(do
    let vs ← fn.results.mapM (resM tmps)
    pure (if h:vs.size=1 then vs[0] else .tuple vs)):=by
  unfold results
  congr 1
theorem res_run {μ:Mu} {m:Mem} {w:World} (hs:Sim P μ m w) {fr:Fr} {tmps:Array Value} (hf:FrR μ fr tmps) :
    ∀ (rs:List ResultVar) (srs:List SRes) (vs:List SV),resT P rs=some srs → resvs fr m srs=some vs → ∃ us,(rs.mapM (resM tmps)).run P w=.ok us w ∧ VRs μ vs us
  | [],srs,vs,h1,h2=>by
    simp [resT] at h1; subst h1
    simp [resvs] at h2; subst h2
    exact ⟨[],by simp,.nil⟩
  | r :: rs,[],vs,h1,h2=>by have:=resT_nil h1; cases this
  | r :: rs, sr :: srs,vs,h1,h2=>by
    obtain ⟨h3,h4⟩:=varT_of_resT h1
    simp only [resvs,Option.bind_eq_some_iff,Option.map_eq_some_iff] at h2
    obtain ⟨v,hv,vs',hvs,rfl⟩:=h2
    obtain ⟨us,hus,hr⟩:=res_run hs hf rs srs vs' h3 hvs
    have : ∃ u,(resM tmps r).run P w=.ok u w ∧ VR μ v u:=by
      cases r with
      | tmp t =>
        simp only at h4
        subst h4
        simp only [resv,Option.some.injEq] at hv
        subst hv
        exact ⟨_,by simp [resM],hf t⟩
      | cell a t =>
        obtain ⟨n,hn,rfl⟩:=h4
        simp only [resv] at hv
        have ha:=hf a
        cases hfa:fr.get a with
        | ptr b off =>
          rw [hfa] at hv ha
          cases hu:tmps.getD a undef with
          | pointer p =>
            rw [hu] at ha
            cases ha with
            | ptr hb =>
              obtain ⟨u,hu',hr'⟩:=hs.load hb hv hn
              exact ⟨u,by simp [resM,hu,asAddr,hu'],hr'⟩
          | _=>rw [hu] at ha; cases ha
        | _=>rw [hfa] at hv; simp at hv
    obtain ⟨u,hu,hur⟩:=this
    exact ⟨u :: us,by simp [List.mapM_cons,hu,hus],.cons hur hr⟩
theorem pack_rel {μ:Mu}:∀ {vs:List SV} {us:List Value},VRs μ vs us → VR μ (pack vs) (if h:(⟨us⟩:Array Value).size=1 then (⟨us⟩:Array Value)[0] else .tuple ⟨us⟩)
  | [],[],_=>by simp [pack]; exact .tup .nil
  | [v],[u],h=>by
    cases h with
    | cons h _=>simpa [pack] using h
  | v :: v' :: vs,u :: u' :: us,h=>by simp [pack]; exact .tup h
  | [],_ :: _,h=>by cases h
  | _ :: _,[],h=>by cases h
  | [_],_ :: _ :: _,h=>by cases h with | cons _ h=>cases h
  | _ :: _ :: _,[_],h=>by cases h with | cons _ h=>cases h
theorem pack_lv {d i:Nat} {vs:List SV} (h:SV.lvs d i vs=true):(pack vs).lv d i=true:=by
  unfold pack
  split
  · simpa [SV.lvs] using h
  · simpa [SV.lv] using h
theorem pack_hx (vs:List SV):(pack vs).hx ≤ SV.hxs vs:=by
  unfold pack
  split
  · simp [SV.hxs]
  · simp [SV.hx]
theorem argFr_get:∀ (k:Nat) (vs:List SV) (t:Nat),(argFr k vs).get t=if k ≤ t then (vs[t - k]?).getD .unk else .unk
  | k,[],t=>by simp [argFr,Fr.get]
  | k, v :: r,t=>by
    simp only [argFr,Fr.get,argFr_get (k + 1) r t]
    by_cases e:t=k
    · subst e; simp
    · simp only [e,if_false]
      by_cases h:k + 1 ≤ t
      · have:t - k=(t - (k + 1)) + 1:=by omega
        rw [if_pos h,if_pos (by omega),this,List.getElem?_cons_succ]
      · rw [if_neg h]
        split
        · omega
        · rfl
theorem argFr_rel {μ:Mu} {args:List SV} {rargs:List Value} (h:VRs μ args rargs) (n:Nat):FrR μ (argFr 0 args) ((⟨rargs⟩:Array Value) ++ Array.replicate n undef):=by
  intro t
  rw [argFr_get]
  simp only [Nat.zero_le,if_true,Nat.sub_zero]
  cases hv:args[t]? with
  | none=>exact .unk _
  | some v =>
    obtain ⟨u,hu,hr⟩:=h.get hv
    have hlt:t < rargs.length:=(List.getElem?_eq_some_iff.1 hu).1
    have:((⟨rargs⟩:Array Value) ++ Array.replicate n undef).getD t undef=u:=by
      rw [Array.getD_eq_getD_getElem?,Array.getElem?_append]
      simp [hlt]
      simpa [List.getElem?_eq_getElem hlt] using hu
    rw [this]
    exact hr
theorem sf_step {Tb:Tbl} (hT:TblOk P Tb) {n:Nat} (hC:SC P Tb n):SF P Tb (n + 1):=by
  intro f args m v m' h F hw k μ w rargs hs ha
  simp only [callF] at h
  cases hf:Tb f with
  | none=>simp [hf] at h
  | some sf =>
    obtain ⟨fn,oc,hfn,ht⟩:=hT f sf hf
    simp only [hf] at h
    split at h
    · rename_i hlen
      unfold fnTo at ht
      simp only [Option.bind_eq_some_iff] at ht
      obtain ⟨c,hc,c',hc',rs,hrs,ht⟩:=ht
      split at ht
      · rename_i hsz
        simp only [SFn.erase,Option.some.injEq,SFn.mk.injEq] at ht
        obtain ⟨e1,e2,e3⟩:=ht
        subst e2
        subst e3
        simp only [Option.bind_eq_some_iff] at h
        obtain ⟨⟨e,fr,m₁⟩,hrun,h⟩:=h
        have hcall:callable P f:=⟨fn,hfn,by rw [hc]; rfl,by simpa using hsz.2⟩
        refine ⟨hcall,?_⟩
        have hx:∃ vs,resvs fr m₁ sf.res=some vs ∧ SV.lvs m.stk.length 0 vs=true ∧ v=pack vs ∧ m'=m₁.back m (SV.hxs vs) ∧ (e=.normal ∨ e=.ret):=by
          cases e with
          | exit id=>simp at h
          | normal =>
            simp only [Option.bind_eq_some_iff] at h
            obtain ⟨vs,h1,h2⟩:=h
            split at h2
            · cases h2; exact ⟨vs,h1,‹_›,rfl,rfl,.inl rfl⟩
            · cases h2
          | ret =>
            simp only [Option.bind_eq_some_iff] at h
            obtain ⟨vs,h1,h2⟩:=h
            split at h2
            · cases h2; exact ⟨vs,h1,‹_›,rfl,rfl,.inr rfl⟩
            · cases h2
        obtain ⟨vs,hvs,hlv,rfl,rfl,he⟩:=hx
        have hla:rargs.length=sf.np:=by rw [← ha.length]; exact hlen
        have hF:CallsIn F.plain k P f ⟨rargs⟩ w (RetP P μ m w (pack vs) (m₁.back m (SV.hxs vs))):=by
          refine callsIn_of_wp_marks hfn hc (hw.1 f) ?_
          have hsize:((⟨rargs⟩:Array Value) ++ Array.replicate (fn.ntmps - rargs.length) undef).size=fn.ntmps:=by simp; omega
          refine wpIn_mono (hC sf.body (argFr 0 args) m.push e fr m₁ hrun c oc fn.ntmps hc' F.plain hw.plain w.heap.size k μ w
            { tmps:=⟨rargs⟩ ++ Array.replicate (fn.ntmps - rargs.length) undef,defers:=[] } hs.push (argFr_rel ha _) (by rw [hsize]; exact Nat.le_refl _) (fun l hl=>by cases hl) (.nil _ _ _) (Nat.le_refl _)) ?_
          intro ex a' w' ⟨hex,μ',hp,hfr,hsz',hm⟩
          obtain ⟨rs',hd,hnd,hmk⟩:=hm
          have key:LeavesInM F.plain k P fn a'.tmps (RetP P μ m w (pack vs) (m₁.back m (SV.hxs vs))) a'.defers .returning w':=by
            rw [hd]
            refine leaves_marks (μ:=μ) (m:=m.push) (μ':=μ') (m':=m₁) (w:=w) (fun w₂ hp₂=>?_) rs' w' hp hnd hmk
            obtain ⟨us,hus,hur⟩:=res_run hp₂.sim hfr _ _ vs hrs hvs
            refine ⟨(if h:(⟨us⟩:Array Value).size=1 then (⟨us⟩:Array Value)[0] else .tuple ⟨us⟩),?_,?_⟩
            · rw [results_eq,Array.mapM_eq_mapM_toList]
              simp only [Sem.run_bind,Sem.run_map,hus,Result.andThen_ok,Sem.run_pure]
            · obtain ⟨μ'',h1,h2⟩:=Post.back hs hp₂ (pack_rel hur) (pack_lv hlv) (pack_hx vs)
              exact ⟨_,μ'',rfl,h1,h2⟩
          rcases he with rfl | rfl <;> (simp only [SEx.exit'] at hex; subst hex; exact key)
        exact hF
      · cases ht
    · cases h
theorem LoopTurn {μ:Mu} {m:Mem} {w:World} {b:Bk} {r base N:Nat} {l:LoopR} {L:Loop} (s:LoopState) (p:Option Jump) (h:Sim P μ m w) (hb:μ b=some (r,base,N)) (hg:m.get b=some (.loop l)) (hmay:m.may b=true)
    (hL:w.heap[r]? = some (.loop L)) :
    Post P μ m w μ (m.set b (.loop { l with state:=s,pending:=p })) (w.putObj r (.loop { L with state:=s,pending:=p.map Jump.code })):=by
  obtain ⟨L',hL',e1,e2,e3,e4,oc,nt,e5,e6,e7,e8⟩:=h.loopOf hb hg
  rw [hL] at hL'
  cases hL'
  have hlt:r < w.heap.size:=(Array.getElem?_eq_some_iff.1 hL).1
  refine h.turn (x:=.loop { l with state:=s,pending:=p }) hb hg rfl hmay (fun c=>Mem.get_set hg) (fun c=>Mem.has_set hg) ?_ ?_ ?_ ?_ ?_ ?_ (fun k hk=>World.putObj_heap_other hk) World.putObj_size rfl rfl rfl (fun _ _=>⟨_,rfl⟩) (fun _ _ _ _ _ hn=>hn)
  · cases b <;> simp [Mem.set,stkSet_length]
  · cases b <;> rfl
  · cases b <;> rfl
  · cases b <;> simp [Mem.set]
  · intro B hB; cases b <;> exact hB
  · exact ⟨_,World.putObj_heap_same hlt,rfl,rfl,e3,e4,oc,nt,e5,e6,e7,e8⟩
theorem foldl_params:∀ (ps:List Nat) (vs:List SV) (us:List Value) (μ:Mu) (fr:Fr) (tmps:Array Value),VRs μ vs us → FrR μ fr tmps → (∀ t ∈ ps,t < tmps.size) → ps.length=vs.length →
    FrR μ (fr.puts ps vs) ((ps.zip us).foldl (fun tmps (t,a)=>tmps.setIfInBounds t a) tmps) ∧ ((ps.zip us).foldl (fun (tmps:Array Value) ((t,a):Nat × Value)=>tmps.setIfInBounds t a) tmps).size=tmps.size
  | [],[],_,_,_,_,_,h,_,_=>⟨by simpa [Fr.puts] using h,by simp⟩
  | [],_ :: _,_,_,_,_,_,_,_,h=>by simp at h
  | _ :: _,[],_,_,_,_,_,_,_,h=>by simp at h
  | t :: ps,v :: vs,us,μ,fr,tmps,hv,hf,ht,hl=>by
    cases us with
    | nil=>cases hv
    | cons u us =>
      cases hv with
      | cons hu hus =>
        have h1:FrR μ ((t,v) :: fr) (tmps.setIfInBounds t u):=FrR.put (a:={ tmps:=tmps,defers:=[] }) (d:=some t) hf hu fun s e=>by cases e; exact ht t List.mem_cons_self
        have h2:=foldl_params ps vs us μ ((t,v) :: fr) (tmps.setIfInBounds t u) hus h1 (fun s hs=>by simpa using ht s (List.mem_cons_of_mem _ hs)) (by simpa using hl)
        simpa [Fr.puts] using h2
theorem zip_params (ps:Array Nat) (us:List Value) (tmps:Array Value) :
    (ps.zip ⟨us⟩).foldl (fun tmps (t,a)=>tmps.setIfInBounds t a) tmps=(ps.toList.zip us).foldl (fun (tmps:Array Value) ((t,a):Nat × Value)=>tmps.setIfInBounds t a) tmps:=by
  rw [← Array.foldl_toList]
  simp
theorem QC.of {B:Nat} {μ₀ μ:Mu} {m₀ m m':Mem} {w₀ w w':World} {sz:Nat} {e:SEx} {fr':Fr} {ex:Exit} {a':Act} (hs:Sim P μ₀ m₀ w₀) (hp:Post P μ₀ m₀ w₀ μ m w) (h:QC P B μ m w sz e fr' m' ex a' w'):QC P B μ₀ m₀ w₀ sz e fr' m' ex a' w':=by
  obtain ⟨h1,μ',h2,h3⟩:=h
  exact ⟨h1,μ',hp.trans h2 hs,h3⟩
theorem svy_step {Tb : Tbl} {n:Nat} (hC:SC P Tb n):SVy P Tb (n + 1):=by
  intro b args m v m' h F hw k μ w rargs r base N hs hb ha
  simp only [runV] at h
  cases hg:m.get b with
  | none=>simp [hg] at h
  | some y =>
    cases y with
    | cells rw c=>simp [hg] at h
    | map es=>simp [hg] at h
    | iter=>simp [hg] at h
    | loop l =>
      simp only [hg] at h
      split at h
      · rename_i hcond
        obtain ⟨hrdy,hlen,hmay⟩:=hcond
        obtain ⟨L,hL,e1,e2,e3,e4,oc,nt,e5,e6,e7,e8⟩:=hs.loopOf hb hg
        have hpl:L.params.size=l.params.length:=by rw [← e3]; simp
        refine ⟨L,hL,by rw [hpl,hlen]; exact ha.length.symm,?_⟩
        simp only [Option.bind_eq_some_iff] at h
        obtain ⟨⟨ea,fr₁,m₁⟩,hrun1,h⟩:=h
        cases ea with
        | exit id=>simp at h
        | ret=>simp at h
        | normal =>
          simp only at h
          cases hg1:m₁.get b with
          | none=>simp [hg1] at h
          | some y1 =>
            cases y1 with
            | cells rw c=>simp [hg1] at h
            | map es=>simp [hg1] at h
            | iter=>simp [hg1] at h
            | loop l₁ =>
              simp only [hg1] at h
              split at h
              · rename_i hrdy1
                simp only [Option.bind_eq_some_iff] at h
                obtain ⟨⟨eb,fr₂,m₂⟩,hrun2,h⟩:=h
                simp only at h
                cases hg2:m₂.get b with
                | none=>simp [hg2] at h
                | some y2 =>
                  cases y2 with
                  | cells rw c=>simp [hg2] at h
                  | map es=>simp [hg2] at h
                  | iter=>simp [hg2] at h
                  | loop l₂ =>
                    simp only [hg2,Option.some.injEq,Prod.mk.injEq] at h
                    obtain ⟨rfl,rfl⟩:=h
                    have hpar:FrR μ (l.fr.puts l.params args) ((L.params.zip ⟨rargs⟩).foldl (fun tmps (t,a)=>tmps.setIfInBounds t a) L.tmps) ∧ ((L.params.zip ⟨rargs⟩).foldl (fun tmps (t,a)=>tmps.setIfInBounds t a) L.tmps).size=L.tmps.size:=by
                      rw [zip_params,e3]
                      exact foldl_params _ _ _ _ _ _ ha (fun t=>(e4 t).off) (fun t ht=>Nat.lt_of_lt_of_le (e6 t ht) e5) hlen
                    have hro:RoundOk (F.inRound r) μ m:=fun x hx=>by
                      have:r=x:=by simpa using hx
                      subst this; exact ⟨b,base,N,l,hb,hg⟩
                    have hmayP:m.push.may b=true:=by rw [Mem.may_eq (m:=m) (m':=m.push) rfl rfl]; exact hmay
                    refine roundIn_of_wpIn (hw.1 _) ?_
                    refine wpIn_mono (hC l.assign _ m.push .normal fr₁ m₁ hrun1 L.assign oc nt e7 (F.inRound r) (hw.inRound r) 0 k μ w
                      { tmps:=(L.params.zip ⟨rargs⟩).foldl (fun tmps (t,a)=>tmps.setIfInBounds t a) L.tmps,defers:=[] } hs.push hpar.1 (by rw [hpar.2]; exact e5)
                      (fun x hx=>by obtain ⟨b',bs,N',r',h1,h2⟩:=hro x hx; exact ⟨b',bs,N',r',h1,by rw [push_get]; exact h2⟩) (.nil _ _ _) (Nat.zero_le _)) ?_
                    intro ex a₁ w₁ ⟨hex,μ₁,hp₁,hfr₁,hsz₁,hm₁⟩
                    simp only [SEx.exit'] at hex
                    subst hex
                    have hb1:=hp₁.keep b _ hb
                    have hmay1:m₁.may b=true:=by rw [Mem.may_eq hp₁.go.hb hp₁.go.db]; exact hmayP
                    obtain ⟨L₁,hL₁,q1,q2,q3,q4,oc₁,nt₁,q5,q6,q7,q8⟩:=hp₁.sim.loopOf hb1 hg1
                    have hbusy:=LoopTurn (.busy) l₁.pending hp₁.sim hb1 hg1 hmay1 hL₁
                    rw [← q2] at hbusy
                    refine ⟨_,run_beginRound hL₁ (q1.trans hrdy1),?_⟩
                    have hlt1:r < w₁.heap.size:=(Array.getElem?_eq_some_iff.1 hL₁).1
                    have hpB:=hp₁.trans hbusy hs.push
                    have hsB:=hpB.sim
                    have hroB:RoundOk (F.inRound r) μ₁ (m₁.set b (.loop { l₁ with state:=.busy })):=fun x hx=>by
                      have:r=x:=by simpa using hx
                      subst this; exact ⟨b,base,N,_,hb1,by rw [Mem.get_set hg1,if_pos rfl]⟩
                    refine wpIn_mono (hC l.body fr₁ _ eb fr₂ m₂ hrun2 L.body oc nt e8 (F.inRound r) (hw.inRound r) 0 k μ₁ _ a₁ hsB hfr₁ (by rw [hsz₁]; show nt ≤ _; rw [hpar.2]; exact e5) hroB (hm₁.post hbusy) (Nat.zero_le _)) ?_
                    intro ex a₂ w₂ ⟨hex,μ₂,hp₂,_,_,_⟩
                    have hb2:=hp₂.keep b _ hb1
                    have hp2':=hpB.trans hp₂ hs.push
                    have hmay2:m₂.may b=true:=by rw [Mem.may_eq hp2'.go.hb hp2'.go.db]; exact hmayP
                    obtain ⟨L₂,hL₂,_⟩:=hp₂.sim.loopOf hb2 hg2
                    have hend:=LoopTurn (if eb=.normal then .ready else .done) eb.jump hp₂.sim hb2 hg2 hmay2 hL₂
                    obtain ⟨μ₃,hv3,hp3⟩:=Post.back (v:=.bool (eb=.normal)) (u:=.bool (eb=.normal)) (h:=0) hs (hp2'.trans hend hs.push) (.bool _) rfl (by simp [SV.hx])
                    have fin:∃ v w',(Instr.endRound r (eb.jump.map Jump.code)).run P w₂=.ok v w' ∧ RetP P μ m w (.bool (eb=.normal)) ((m₂.set b (.loop { l₂ with state:=if eb=.normal then .ready else .done,pending:=eb.jump })).back m 0) (.returned v) w':=by
                      refine ⟨_,_,run_endRound _ hL₂,?_⟩
                      have e1:(eb.jump.map Jump.code).isNone=decide (eb=.normal):=by cases eb <;> simp [SEx.jump]
                      have e2:(if (eb.jump.map Jump.code).isNone=true then LoopState.ready else LoopState.done)=if eb=.normal then .ready else .done:=by cases eb <;> simp [SEx.jump]
                      rw [e2,e1]
                      exact ⟨_,μ₃,rfl,hv3,hp3⟩
                    subst hex
                    cases eb <;> exact fin
              · cases h
      · cases h
end Go.Sh

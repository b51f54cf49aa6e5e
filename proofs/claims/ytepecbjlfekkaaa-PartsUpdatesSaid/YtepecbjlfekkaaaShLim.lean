import Derived.Test.YtepecbjlfekkaaaShEv
set_option linter.all false
set_option linter.unusedVariables false
set_option linter.unusedSimpArgs false
set_option autoImplicit false
namespace Go.Sh
noncomputable def RC (F:Tbl) (c:SCode) (fr:Fr) (m:Mem):Option (SEx × Fr × Mem):=lim fun n=>runC F n c fr m
noncomputable def RL (F:Tbl) (k:Nat) (ks:Option (List Nat)) (c:SCode) (fr:Fr) (m:Mem):Option (SEx × Fr × Mem):=lim fun n=>runL F n k ks c fr m
noncomputable def RO (F:Tbl) (d:Bool) (l:List SOper) (fr:Fr) (m:Mem):Option (Fr × Mem):=lim fun n=>runO F n d l fr m
noncomputable def RP (F:Tbl) (op:SOp) (fr:Fr) (m:Mem):Option (SV × Mem):=lim fun n=>runP F n op fr m
noncomputable def RV (F:Tbl) (fv:SV) (args:List SV) (m:Mem):Option (SV × Mem):=lim fun n=>runV F n fv args m
noncomputable def RF (F:Tbl) (f:FuncId) (args:List SV) (m:Mem):Option (SV × Mem):=lim fun n=>callF F n f args m
variable {F:Tbl}
theorem gC (c:SCode) (fr:Fr) (m:Mem):Grows fun n=>runC F n c fr m:=fun n r h=>(growsAll F n).c c fr m r h
theorem gL (k:Nat) (ks:Option (List Nat)) (c:SCode) (fr:Fr) (m:Mem):Grows fun n=>runL F n k ks c fr m:=fun n r h=>(growsAll F n).l k ks c fr m r h
theorem gO (d:Bool) (l:List SOper) (fr:Fr) (m:Mem):Grows fun n=>runO F n d l fr m:=fun n r h=>(growsAll F n).o d l fr m r h
theorem gP (op:SOp) (fr:Fr) (m:Mem):Grows fun n=>runP F n op fr m:=fun n r h=>(growsAll F n).p op fr m r h
theorem gV (fv:SV) (args:List SV) (m:Mem):Grows fun n=>runV F n fv args m:=fun n r h=>(growsAll F n).v fv args m r h
theorem gF (f:FuncId) (args:List SV) (m:Mem):Grows fun n=>callF F n f args m:=fun n r h=>(growsAll F n).f f args m r h
theorem RF_some {f:FuncId} {args:List SV} {m:Mem} {r:SV × Mem}:RF F f args m=some r ↔ ∃ n,callF F n f args m=some r:=lim_iff (gF f args m)
theorem RC_of {c:SCode} {fr:Fr} {m:Mem} {r:SEx × Fr × Mem} (n:Nat) (h:runC F n c fr m=some r):RC F c fr m=some r:=(lim_iff (gC c fr m)).2 ⟨n,h⟩
theorem RO_of {d:Bool} {l:List SOper} {fr:Fr} {m:Mem} {r:Fr × Mem} (n:Nat) (h:runO F n d l fr m=some r):RO F d l fr m=some r:=(lim_iff (gO d l fr m)).2 ⟨n,h⟩
noncomputable def RM (F:Tbl) (b:Bk) (k it nx more out next pair:Nat) (ks:List Nat) (asg:List SOper) (body:SCode) (es:List (SV × SV)) (fr:Fr) (m:Mem):Option (SEx × Fr × Mem):=lim fun n=>runM F n b k it nx more out next pair ks asg body es fr m
theorem gM (b:Bk) (k it nx more out next pair:Nat) (ks:List Nat) (asg:List SOper) (body:SCode) (es:List (SV × SV)) (fr:Fr) (m:Mem):Grows fun n=>runM F n b k it nx more out next pair ks asg body es fr m:=fun n r h=>(growsAll F n).m _ _ _ _ _ _ _ _ _ _ _ _ _ _ r h
theorem RM_of {b:Bk} {k it nx more out next pair:Nat} {ks:List Nat} {asg:List SOper} {body:SCode} {es:List (SV × SV)} {fr:Fr} {m:Mem} {r:SEx × Fr × Mem} (n:Nat) (h:runM F n b k it nx more out next pair ks asg body es fr m=some r):RM F b k it nx more out next pair ks asg body es fr m=some r:=(lim_iff (gM _ _ _ _ _ _ _ _ _ _ _ _ _ _)).2 ⟨n,h⟩
theorem RC_rangem_of {mp:Opd} {it nx more out next pair:Nat} {ks:List Nat} {pre asg:List SOper} {body:SCode} {fr fr1:Fr} {m m1 m2:Mem} {j v:Nat} {es:List (SV × SV)} {b:Bk} {e:SEx} {fr':Fr} {m3:Mem}
    (hpre:RO F false pre fr m=some (fr1,m1)) (hmp:mp.ev fr1=.map (.hp j v)) (hg:m1.get (.hp j v)=some (.map es)) (hn:m1.shutH.new true .iter=some (b,m2))
    (hM:RM F b m2.lvl.2 it nx more out next pair ks asg body es ((it,.ptr b 0) :: fr1) m2=some (e,fr',m3)):RC F (.rangem mp it nx more out next pair ks pre asg body) fr m=some (e,fr',m3.reopenH m1):=by
  obtain ⟨n1,h1⟩:=(lim_iff (gO _ _ _ _)).1 hpre
  obtain ⟨n2,h2⟩:=(lim_iff (gM _ _ _ _ _ _ _ _ _ _ _ _ _ _)).1 hM
  refine RC_of (max n1 n2 + 1) ?_
  have h1:=(gO (F:=F) _ _ _ _).le (Nat.le_max_left n1 n2) h1
  have h2:=(gM (F:=F) _ _ _ _ _ _ _ _ _ _ _ _ _ _).le (Nat.le_max_right n1 n2) h2
  simp only [runC,h1,Option.bind_some,hmp,hg,hn,h2,Option.map_some]
theorem RM_nil {b:Bk} {k it nx more out next pair:Nat} {ks:List Nat} {asg:List SOper} {body:SCode} {fr frH:Fr} {m mH:Mem} (hh:headM b k it nx more ks fr m=some (frH,mH)) :
    RM F b k it nx more out next pair ks asg body [] fr m=some (.normal,frH,mH) :=
  RM_of (0 + 1) (by rw [runM]; simp only [hh,Option.bind_some])
theorem all_bound {α:Type} (k:Nat) (f:Nat → Nat → Option α) (hg:∀ i,Grows (f i)) (r:α) (h:∀ i,i < k → ∃ n,f i n=some r):∃ n,∀ i,i < k → f i n=some r:=by
  induction k with
  | zero=>exact ⟨0,fun i hi=>by omega⟩
  | succ k ih =>
    obtain ⟨n,hn⟩:=ih fun i hi=>h i (by omega)
    obtain ⟨n',hn'⟩:=h k (by omega)
    refine ⟨max n n',fun i hi=>?_⟩
    by_cases e:i=k
    · subst e; exact (hg i).le (Nat.le_max_right _ _) hn'
    · exact (hg i).le (Nat.le_max_left _ _) (hn i (by omega))
theorem RM_cons {b:Bk} {k it nx more out next pair:Nat} {ks:List Nat} {asg:List SOper} {body:SCode} {es:List (SV × SV)} {fr frH:Fr} {m mH:Mem} {r:SEx × Fr × Mem} (hh:headM b k it nx more ks fr m=some (frH,mH)) (hne:es ≠ [])
    (h:∀ i key val,es[i]? = some (key,val) → ∃ fr1 m1 e2 fr2 m2,RO F false asg ((pair,.tup [key,val]) :: frH) mH=some (fr1,m1) ∧ RC F body fr1 m1=some (e2,fr2,m2) ∧ (e2=.normal ∨ e2=.exit next) ∧
      RM F b k it nx more out next pair ks asg body (es.eraseIdx i) fr2 m2=some r) :
    RM F b k it nx more out next pair ks asg body es fr m=some r:=by
  cases es with
  | nil=>exact absurd rfl hne
  | cons x ys =>
    have key:∃ n,∀ i,i < ys.length + 1 → (fun (i n:Nat)=>(match (x :: ys)[i]? with
        | some (key,val) =>
          (runO F n false asg ((pair,.tup [key,val]) :: frH) mH).bind fun ((fr,m):Fr × Mem) =>
          (runC F n body fr m).bind fun ((e,fr,m):SEx × Fr × Mem) =>
            match e with
            | .normal=>runM F n b k it nx more out next pair ks asg body ((x :: ys).eraseIdx i) fr m
            | .exit id=>if id=next then runM F n b k it nx more out next pair ks asg body ((x :: ys).eraseIdx i) fr m else some (if id=out then .normal else .exit id,fr,m)
            | .ret=>some (.ret,fr,m)
        | none=>none:Option (SEx × Fr × Mem))) i n=some r:=by
      refine all_bound _ _ (fun i=>?_) r fun i hi=>?_
      · intro n r h
        simp only at h ⊢
        split at h
        · refine bind_grow h ((growsAll F n).o _ _ _ _) fun ⟨fr,m⟩ r h=>?_
          refine bind_grow h ((growsAll F n).c _ _ _) fun ⟨e,fr,m⟩ r h=>?_
          cases e with
          | normal=>exact (growsAll F n).m _ _ _ _ _ _ _ _ _ _ _ _ _ _ _ h
          | ret=>exact h
          | exit id =>
            simp only at h ⊢
            split at h
            · rename_i hid; rw [if_pos hid]; exact (growsAll F n).m _ _ _ _ _ _ _ _ _ _ _ _ _ _ _ h
            · rename_i hid; rw [if_neg hid]; exact h
        · cases h
      · have hi':(x :: ys)[i]? = some (x :: ys)[i]:=List.getElem?_eq_getElem (by simpa using hi)
        generalize (x :: ys)[i]=y at hi'
        obtain ⟨key,val⟩:=y
        obtain ⟨fr1,m1,e2,fr2,m2,q1,q2,q3,q4⟩:=h i key val hi'
        obtain ⟨a1,b1⟩:=(lim_iff (gO _ _ _ _)).1 q1
        obtain ⟨a2,b2⟩:=(lim_iff (gC _ _ _)).1 q2
        obtain ⟨a3,b3⟩:=(lim_iff (gM _ _ _ _ _ _ _ _ _ _ _ _ _ _)).1 q4
        refine ⟨max a1 (max a2 a3),?_⟩
        have b1:=(gO (F:=F) _ _ _ _).le (Nat.le_max_left a1 (max a2 a3)) b1
        have b2:=(gC (F:=F) _ _ _).le (Nat.le_trans (Nat.le_max_left a2 a3) (Nat.le_max_right a1 (max a2 a3))) b2
        have b3:=(gM (F:=F) _ _ _ _ _ _ _ _ _ _ _ _ _ _).le (Nat.le_trans (Nat.le_max_right a2 a3) (Nat.le_max_right a1 (max a2 a3))) b3
        simp only [hi',b1,Option.bind_some,b2]
        rcases q3 with rfl | rfl
        · exact b3
        · simp only [if_true]; exact b3
    obtain ⟨n,hn⟩:=key
    refine RM_of (n + 1) ?_
    rw [runM]
    simp only [hh,Option.bind_some]
    exact allI_intro (Nat.succ_pos _) hn
theorem RC_skip (fr:Fr) (m:Mem):RC F .skip fr m=some (.normal,fr,m):=RC_of 1 (by simp [runC])
theorem RC_exit (id:Nat) (fr:Fr) (m:Mem):RC F (.exit id) fr m=some (.exit id,fr,m):=RC_of 1 (by simp [runC])
theorem RC_ret (fr:Fr) (m:Mem):RC F .ret fr m=some (.ret,fr,m):=RC_of 1 (by simp [runC])
theorem RC_region (d:Bool) (ops:List SOper) (fr:Fr) (m:Mem):RC F (.region d ops) fr m=(RO F d ops fr m).map fun (fr,m)=>(.normal,fr,m):=by
  unfold RC RO
  rw [← lim_succ (gC _ _ _)]
  simp only [runC]
  rw [lim_map (gO _ _ _ _)]
theorem RC_seq (a b:SCode) (fr:Fr) (m:Mem):RC F (.seq a b) fr m=(RC F a fr m).bind fun (e,fr,m) =>
    match e with
    | .normal=>RC F b fr m
    | e=>some (e,fr,m):=by
  unfold RC
  rw [← lim_succ (gC _ _ _)]
  simp only [runC]
  have hg:∀ x:SEx × Fr × Mem,Grows fun n=>(match x.1 with | .normal=>runC F n b x.2.1 x.2.2 | e=>some (e,x.2.1,x.2.2):Option (SEx × Fr × Mem)):=by
    rintro ⟨e,fr,m⟩
    cases e
    · exact gC _ _ _
    · exact .const _
    · exact .const _
  refine (lim_bind (g:=fun n (x:SEx × Fr × Mem)=>(match x.1 with | .normal=>runC F n b x.2.1 x.2.2 | e=>some (e,x.2.1,x.2.2):Option (SEx × Fr × Mem))) (gC _ _ _) hg).trans ?_
  congr 1
  funext ⟨e,fr,m⟩
  cases e
  · rfl
  · exact lim_const _
  · exact lim_const _
theorem RC_cond (c:Opd) (a b:SCode) (fr:Fr) (m:Mem):RC F (.cond c a b) fr m=match c.ev fr with
    | .bool t=>if t then RC F a fr m else RC F b fr m
    | _=>none:=by
  unfold RC
  rw [← lim_succ (gC _ _ _)]
  simp only [runC]
  generalize c.ev fr=x
  cases x with
  | bool t=>cases t <;> rfl
  | _=>exact lim_const _
theorem RC_block (id:Nat) (c:SCode) (fr:Fr) (m:Mem):RC F (.block id c) fr m=(RC F c fr m).map fun (e,fr,m)=>(if e=.exit id then .normal else e,fr,m):=by
  unfold RC
  rw [← lim_succ (gC _ _ _)]
  simp only [runC]
  rw [lim_map (gC _ _ _)]
theorem RC_loop (ks:Option (List Nat)) (c:SCode) (fr:Fr) (m:Mem):RC F (.loop ks c) fr m=RL F m.lvl.2 ks c fr m:=by
  unfold RC RL
  rw [← lim_succ (gC _ _ _)]
  simp only [runC]
theorem RC_kp (ks:List Nat) (c:SCode) (fr:Fr) (m:Mem):RC F (.kp ks c) fr m=(RC F c fr m).map fun (e,fr,m)=>(e,if e=.normal then fr.keep ks else fr,m):=by
  unfold RC
  rw [← lim_succ (gC _ _ _)]
  simp only [runC]
  rw [lim_map (gC _ _ _)]
def headL (k:Nat) (ks:Option (List Nat)) (fr:Fr) (m:Mem):Option (Fr × Mem) :=
  match ks with
  | some ks=>if SV.lvs m.lvl.1 k ((fr.keep ks).map Prod.snd) then some (fr.keep ks,m.trim k) else none
  | none=>some (fr,m)
theorem RL_eq (k:Nat) (ks:Option (List Nat)) (c:SCode) (fr:Fr) (m:Mem):RL F k ks c fr m=(headL k ks fr m).bind fun (fr,m)=>(RC F c fr m).bind fun (e,fr,m) =>
    match e with
    | .normal=>RL F k ks c fr m
    | e=>some (e,fr,m):=by
  unfold RL RC
  rw [← lim_succ (gL _ _ _ _ _)]
  have h1:∀ n,runL F (n + 1) k ks c fr m=(headL k ks fr m).bind fun (x:Fr × Mem)=>(runC F n c x.1 x.2).bind fun (y:SEx × Fr × Mem) =>
      match y.1 with
      | .normal=>runL F n k ks c y.2.1 y.2.2
      | e=>some (e,y.2.1,y.2.2):=fun n=>by
    unfold headL; cases ks <;> simp only [runL] <;> rfl
  simp only [h1]
  have hg:∀ y:SEx × Fr × Mem,Grows fun n=>(match y.1 with | .normal=>runL F n k ks c y.2.1 y.2.2 | e=>some (e,y.2.1,y.2.2):Option (SEx × Fr × Mem)):=by
    rintro ⟨e,fr,m⟩
    cases e
    · exact gL _ _ _ _ _
    · exact .const _
    · exact .const _
  refine (lim_bind (f:=fun _=>headL k ks fr m) (g:=fun n x=>(runC F n c x.1 x.2).bind fun y=>match y.1 with | .normal=>runL F n k ks c y.2.1 y.2.2 | e=>some (e,y.2.1,y.2.2)) (.const _) (fun x=>Grows.bind (gC _ _ _) hg)).trans ?_
  rw [lim_const]
  congr 1
  funext ⟨fr,m⟩
  refine (lim_bind (g:=fun n y=>match y.1 with | .normal=>runL F n k ks c y.2.1 y.2.2 | e=>some (e,y.2.1,y.2.2)) (gC _ _ _) hg).trans ?_
  congr 1
  funext ⟨e,fr,m⟩
  cases e
  · rfl
  · exact lim_const _
  · exact lim_const _
theorem RP_call (f:FuncId) (args:List Opd) (fr:Fr) (m:Mem):RP F (.call f args) fr m=RF F f (args.map (·.ev fr)) m:=by
  unfold RP RF
  rw [← lim_succ (gP _ _ _)]
  simp only [runP]
theorem RP_callv (fv:Opd) (args:List Opd) (fr:Fr) (m:Mem):RP F (.callv fv args) fr m=RV F (fv.ev fr) (args.map (·.ev fr)) m:=by
  unfold RP RV
  rw [← lim_succ (gP _ _ _)]
  simp only [runP]
theorem RP_callL (lo:List Opd) (f:FuncId) (args:List Opd) (fr:Fr) (m:Mem):RP F (.callL lo f args) fr m=(RF F f (args.map (·.ev fr)) m).bind (awayB fr lo m):=by
  unfold RP RF
  rw [← lim_succ (gP _ _ _)]
  simp only [runP]
  refine (lim_bind (g:=fun _ x=>awayB fr lo m x) (gF _ _ _) (fun _=>.const _)).trans ?_
  congr 1
  funext x
  exact lim_const _
theorem RP_mapsetL (lo:List Opd) (ag:Bool) (ks:List Kd) (mp k x:Opd) (fr:Fr) (m:Mem):RP F (.mapsetL lo ag ks mp k x) fr m=(memop (.mapset ag ks mp k x) fr m).bind (awayB fr lo m):=by
  unfold RP
  rw [← lim_succ (gP _ _ _)]
  simp only [runP]
  exact lim_const _
theorem RP_mem (op:SOp) (fr:Fr) (m:Mem) (h:op.isCall=false):RP F op fr m=memop op fr m:=by
  unfold RP
  rw [← lim_succ (gP _ _ _)]
  have:∀ n,runP F (n + 1) op fr m=memop op fr m:=fun n=>by cases op <;> first | (simp [SOp.isCall] at h; done) | (simp only [runP])
  simp only [this]
  exact lim_const _
theorem RO_nil (d:Bool) (fr:Fr) (m:Mem):RO F d [] fr m=some (fr,m):=RO_of 1 (by simp [runO])
noncomputable def RS (F:Tbl) (d:Bool) (o:SOper) (fr:Fr) (m:Mem):Option (SV × Mem) :=
  if d && o.quiet then (RP F o.op fr m.shut).map fun (v,m')=>(v,m'.reopen m) else RP F o.op fr m
theorem RO_cons (d:Bool) (o:SOper) (r:List SOper) (fr:Fr) (m:Mem):RO F d (o :: r) fr m=(wantedS fr o.guard).bind fun w =>
    if w then (RS F d o fr m).bind fun (v,m)=>RO F d r (fr.put o.dst v) m else RO F d r (fr.put o.dst (.tup [])) m:=by
  unfold RO RS RP
  rw [← lim_succ (gO _ _ _ _)]
  simp only [runO]
  have hs:∀ w:Bool,Grows fun n=>(if w then ((if d && o.quiet then (runP F n o.op fr { m with hb:=m.heap.length,db:=m.stk.length }).map fun (v,m')=>(v,{ m' with hb:=m.hb,db:=m.db }) else runP F n o.op fr m).bind fun (v,m)=>runO F n d r (fr.put o.dst v) m) else runO F n d r (fr.put o.dst (.tup [])) m):=by
    intro w
    cases w
    · exact gO _ _ _ _
    · refine Grows.bind ?_ fun ⟨v,m⟩=>gO _ _ _ _
      split
      · exact (gP _ _ _).map
      · exact gP _ _ _
  rw [lim_bind (f:=fun _=>wantedS fr o.guard) (.const _) hs,lim_const]
  congr 1
  funext w
  cases w
  · rfl
  · simp only [if_true]
    rw [lim_bind (g:=fun n (x:SV × Mem)=>runO F n d r (fr.put o.dst x.1) x.2) ?_ (fun ⟨v,m⟩=>gO _ _ _ _)]
    · congr 1
      split
      · exact lim_map (gP _ _ _)
      · rfl
    · split
      · exact (gP _ _ _).map
      · exact gP _ _ _
def outF (sf:SFn) (m:Mem):SEx × Fr × Mem → Option (SV × Mem)
  | (.exit _,_,_)=>none
  | (_,fr,m')=>(resvs fr m' sf.res).bind fun vs=>if SV.lvs m.stk.length 0 vs then some (pack vs,m'.back m (SV.hxs vs)) else none
theorem RF_eq {f:FuncId} {sf:SFn} (hf:F f=some sf) (args:List SV) (m:Mem):RF F f args m=if args.length=sf.np then (RC F sf.body (argFr 0 args) m.push).bind (outF sf m) else none:=by
  unfold RF RC
  rw [← lim_succ (gF _ _ _)]
  have h1:∀ n,callF F (n + 1) f args m=if args.length=sf.np then (runC F n sf.body (argFr 0 args) m.push).bind (outF sf m) else none:=fun n=>by
    simp only [callF,hf]
    split
    · congr 1
      funext ⟨e,fr,m'⟩
      cases e <;> rfl
    · rfl
  simp only [h1]
  split
  · rw [lim_bind (g:=fun _ x=>outF sf m x) (gC _ _ _) (fun _=>.const _)]
    congr 1
    funext x
    exact lim_const _
  · exact lim_const _
theorem RC_rangef (f:Opd) (ps:List Nat) (assign body:SCode) (fr:Fr) (m:Mem):RC F (.rangef f ps assign body) fr m =
    (m.new true (.loop { state:=.ready,pending:=none,fr:=fr,params:=ps,assign:=assign,body:=body })).bind fun (b,m) =>
      (match f.ev fr with
       | .fn g first caps=>RF F g (first ++ [SV.yld b] ++ caps) m
       | _ => none).bind fun ((_,m):SV × Mem) =>
        match m.get b with
        | some (SBk.loop r) =>
          if r.state=LoopState.busy ∨ m.may b=false then none else
            some ((match r.pending with | none=>.normal | some j=>j.ex),fr,m.set b (.loop { r with state:=.exhausted }))
        | _=>none:=by
  unfold RC RF
  rw [← lim_succ (gC _ _ _)]
  simp only [runC]
  have h1:∀ x:Bk × Mem,Grows fun n=>((match f.ev fr with
       | .fn g first caps=>callF F n g (first ++ [SV.yld x.1] ++ caps) x.2
       | _=>none:Option (SV × Mem))):=fun x=>by
    generalize f.ev fr=y
    cases y with
    | fn g a c=>exact gF _ _ _
    | _=>exact .const _
  refine (lim_bind (f:=fun _=>m.new true (.loop { state:=.ready,pending:=none,fr:=fr,params:=ps,assign:=assign,body:=body }))
    (g := fun n (x:Bk × Mem)=>(match f.ev fr with
       | .fn g first caps=>callF F n g (first ++ [SV.yld x.1] ++ caps) x.2
       | _ => none:Option (SV × Mem)).bind fun (y:SV × Mem) =>
        (match y.2.get x.1 with
        | some (SBk.loop r) =>
          if r.state=LoopState.busy ∨ y.2.may x.1=false then none else
            some ((match r.pending with | none=>.normal | some j=>j.ex),fr,y.2.set x.1 (.loop { r with state:=.exhausted }))
        | _=>none:Option (SEx × Fr × Mem))) (.const _) (fun x=>Grows.bind (h1 x) fun _=>.const _)).trans ?_
  rw [lim_const]
  congr 1
  funext ⟨b,m1⟩
  refine (lim_bind (g:=fun n (y:SV × Mem) =>
        (match y.2.get b with
        | some (SBk.loop r) =>
          if r.state=LoopState.busy ∨ y.2.may b=false then none else
            some ((match r.pending with | none=>.normal | some j=>j.ex),fr,y.2.set b (.loop { r with state:=.exhausted }))
        | _=>none:Option (SEx × Fr × Mem))) (h1 (b,m1)) fun _=>.const _).trans ?_
  congr 1
  · generalize f.ev fr=y
    cases y with
    | fn g a c=>rfl
    | _=>exact lim_const _
  · funext y
    exact lim_const _
def outR (m:Mem) (b:Bk):SEx × Fr × Mem → Option (SV × Mem)
  | (e,_,m2)=>match m2.get b with
    | some (.loop r)=>some (.bool (e=.normal),(m2.set b (.loop { r with state:=if e=.normal then .ready else .done,pending:=e.jump })).back m 0)
    | _=>none
theorem RV_yld (b:Bk) (args:List SV) (m:Mem) {l:LoopR} (hg:m.get b=some (.loop l)):RV F (.yld b) args m =
    if l.state=.ready ∧ l.params.length=args.length ∧ m.may b then
      (RC F l.assign (l.fr.puts l.params args) m.push).bind fun (e,fr,m1) =>
        match e with
        | .normal =>
          match m1.get b with
          | some (.loop r1)=>if r1.state=.ready then (RC F l.body fr (m1.set b (.loop { r1 with state:=.busy }))).bind (outR m b) else none
          | _=>none
        | _=>none
    else none:=by
  unfold RV RC
  rw [← lim_succ (gV _ _ _)]
  simp only [runV,hg]
  split
  · have hg2 : ∀ x:SEx × Fr × Mem,Grows fun n=>((match x.1 with
        | .normal =>
          match x.2.2.get b with
          | some (.loop r1)=>if r1.state=.ready then (runC F n l.body x.2.1 (x.2.2.set b (.loop { r1 with state:=.busy }))).bind (outR m b) else none
          | _=>none
        | _=>none:Option (SV × Mem))):=by
      rintro ⟨e,fr,m1⟩
      cases e with
      | normal =>
        simp only
        generalize m1.get b=y
        cases y with
        | none=>exact .const _
        | some y =>
          cases y with
          | loop r1 =>
            simp only
            split
            · exact Grows.bind (gC _ _ _) fun _=>.const _
            · exact .const _
          | _=>exact .const _
      | _=>exact .const _
    have e1 : (fun n=>(runC F n l.assign (l.fr.puts l.params args) m.push).bind fun (e,fr,m1) =>
        match e with
        | .normal =>
          match m1.get b with
          | some (.loop r1) =>
            if r1.state=.ready then
              (runC F n l.body fr (m1.set b (.loop { r1 with state:=.busy }))).bind fun (e,_,m2) =>
                match m2.get b with
                | some (.loop r)=>some (SV.bool (e=.normal),(m2.set b (.loop { r with state:=if e=.normal then .ready else .done,pending:=e.jump })).back m 0)
                | _=>none
            else none
          | _=>none
        | _=>none)=fun n=>(runC F n l.assign (l.fr.puts l.params args) m.push).bind fun (x:SEx × Fr × Mem) =>
        match x.1 with
        | .normal =>
          match x.2.2.get b with
          | some (.loop r1)=>if r1.state=.ready then (runC F n l.body x.2.1 (x.2.2.set b (.loop { r1 with state:=.busy }))).bind (outR m b) else none
          | _=>none
        | _=>none:=by
      funext n
      rfl
    refine (congrArg lim e1).trans ?_
    rw [lim_bind (gC _ _ _) hg2]
    congr 1
    funext ⟨e,fr,m1⟩
    cases e with
    | normal =>
      simp only
      generalize m1.get b=y
      cases y with
      | none=>exact lim_const _
      | some y =>
        cases y with
        | loop r1 =>
          simp only
          split
          · rw [lim_bind (g:=fun _ x=>outR m b x) (gC _ _ _) (fun _=>.const _)]
            congr 1
            funext x
            exact lim_const _
          · exact lim_const _
        | _=>exact lim_const _
    | _=>exact lim_const _
  · exact lim_const _
theorem call_lim {P:Program} (hm:P.follows .mixedOrders=true) (hT:TblOk P F) {f:FuncId} {args:List SV} {m:Mem} {v:SV} {m':Mem} (h:RF F f args m=some (v,m')) {μ:Mu} {w:World} {rargs:List Value} (hs:Sim P μ m w) (ha:VRs μ args rargs) :
    Calls P f ⟨rargs⟩ w (RetP P μ m w v m'):=by
  obtain ⟨n,hn⟩:=RF_some.1 h
  exact call_sound hm hT hn hs ha
end Go.Sh

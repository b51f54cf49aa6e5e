import Derived.Test.YtepecbjlfekkaaaShDraw4
set_option linter.all false
set_option linter.unusedVariables false
set_option linter.unusedSimpArgs false
set_option autoImplicit false
namespace Go.Sh
variable {P:Program}
theorem load_of_BR {μ:Mu} {w:World} {r base N off:Nat} {rw:Bool} {c:List SV} {n:Option Nat} {v:SV} {t:TypeId} (h:BR P μ w r base N (.cells rw c)) (hl:partv c off n=some v) (ht:varT P t=some n) :
    ∃ u,(loadVar t ⟨r,base + off,none⟩).run P w=.ok u w ∧ VR μ v u:=by
  obtain ⟨C,e,lo,hi,hh,hN,hle,hr,_⟩:=h
  unfold varT at ht
  simp only [Option.bind_eq_some_iff,Option.map_eq_some_iff] at ht
  obtain ⟨a,ha,s,hs,rfl⟩:=ht
  cases a with
  | true =>
    simp only [partv,if_true] at hl
    split at hl
    · rename_i hos
      cases hl
      refine ⟨.agg ⟨(C.toList.drop (base + off)).take s⟩,?_,?_⟩
      · simp only [loadVar,Sem.run_bind,r_agg ha,Result.andThen_ok,if_true,r_sz hs]
        rw [run_loadCells' P hh (by omega)]
        simp
      · rw [← take_drop_take C.toList base c.length off s hos]
        exact .agg ((hr.drop off).take s)
    · cases hl
  | false =>
    simp only [partv,Bool.false_eq_true,if_false] at hl
    obtain ⟨u,hu,hur⟩:=hr.get hl
    refine ⟨u,?_,hur⟩
    have hlt:off < c.length:=(List.getElem?_eq_some_iff.1 hl).1
    rw [List.getElem?_take,if_pos hlt,List.getElem?_drop] at hu
    have hc:w.cell? ⟨r,base + off,none⟩=some u:=by rw [cell_of hh]; simpa using hu
    simp [loadVar,r_agg ha,hc]
theorem load_of_opT {op:Op} {z:Option Nat} {x:Opd} (h:opT P op=some (.load z x)):∃ t a,op=.load t a ∧ opdT a=some x ∧ varT P t=some z:=by
  have key:∃ t a,op=.load t a:=by
    refine Classical.byContradiction fun hcon=>?_
    have : AllS (fun s=>s.isLoad1=false) (opT P op):=by
      cases op <;> simp only [opT]
      case load t a=>exact absurd ⟨t,a,rfl⟩ hcon
      case makeFunc f x y=>cases f <;> first | exact AllS.none | exact AllS.bind fun _=>AllS.map fun _=>rfl
      case makeMap t r=>cases r <;> first | exact AllS.none | exact AllS.some rfl
      case call c =>
        unfold callT
        refine AllS.bind fun args=>?_
        split
        · unfold builtinT
          repeat' (first | exact AllS.none | exact AllS.some rfl | (refine AllS.bind fun _=>?_) | (refine AllS.map fun _=>?_) | rfl | split | (dsimp only))
        all_goals repeat' (first | exact AllS.none | exact AllS.some rfl | (refine AllS.bind fun _=>?_) | (refine AllS.map fun _=>?_) | rfl | split | (dsimp only))
      all_goals repeat' (first | exact AllS.none | exact AllS.some rfl | (refine AllS.bind fun _=>?_) | (refine AllS.map fun _=>?_) | rfl | split | (dsimp only))
    have:=this _ h
    simp [SOp.isLoad1] at this
  obtain ⟨t,a,rfl⟩:=key
  simp only [opT,Option.bind_eq_some_iff,Option.map_eq_some_iff,SOp.load.injEq] at h
  obtain ⟨y,hy,n,hn,rfl,rfl⟩:=h
  exact ⟨t,a,rfl,hy,hn⟩
section
variable {oc:Bool} {Tb:Tbl} {n nt N:Nat} {ops:Array Oper} {o:Nat → Oper} {s:Nat → SOper} {lo:Nat → List Opd} {anc:Nat → Nat → Prop} {frs:Nat → Fr} {ms:Nat → Mem} {bs:Nat → Bool} {vs:Nat → SV}
variable {μ₀:Mu} {w₀:World} {S:Nat → Prop} {p:Nat} {w:World} {μ:Mu}
theorem Told.slotAt (T:Told P oc Tb n nt N ops o s lo anc frs ms bs vs) (t:Nat):∀ j,j ≤ N →
    (∃ k,k < j ∧ (s k).dst=some t ∧ (frs j).get t=vs k) ∨ ((∀ k,k < j → (s k).dst ≠ some t) ∧ (frs j).get t=(frs 0).get t)
  | 0,_=>.inr ⟨fun k hk=>by omega,rfl⟩
  | j + 1,hj=>by
    have hput:=(T.step j (by omega)).put
    rw [hput,Fr.get_put]
    by_cases e:some t=(s j).dst
    · rw [if_pos e]; exact .inl ⟨j,by omega,e.symm,rfl⟩
    · rw [if_neg e]
      rcases Told.slotAt T t j (by omega) with ⟨k,h1,h2,h3⟩ | ⟨h1,h2⟩
      · exact .inl ⟨k,by omega,h2,h3⟩
      · refine .inr ⟨fun k hk=>?_,h2⟩
        by_cases e':k=j
        · subst e'; exact fun h=>e h.symm
        · exact h1 k (by omega)
theorem Told.slotSame (T:Told P oc Tb n nt N ops o s lo anc frs ms bs vs) (t:Nat) {j:Nat}:∀ {l:Nat},j ≤ l → l ≤ N → (∀ k,j ≤ k → k < l → (s k).dst ≠ some t) → (frs l).get t=(frs j).get t:=by
  intro l
  induction l with
  | zero => intro h _ _; have:j=0:=by omega
            subst this; rfl
  | succ l ih =>
    intro h hN hno
    by_cases e:j=l + 1
    · subst e; rfl
    · rw [(T.step l (by omega)).put,Fr.get_put,if_neg (fun h'=>hno l (by omega) (by omega) h'.symm)]
      exact ih (by omega) (by omega) fun k h1 h2=>hno k h1 (by omega)
structure VInv (N:Nat) (s:Nat → SOper) (frs:Nat → Fr) (vs:Nat → SV) (sz:Nat) (ds:List Deferred) (S:Nat → Prop) (μ:Mu) (a:Act):Prop where
  val:∀ t,(∃ k,k < N ∧ S k ∧ (s k).dst=some t ∧ VR μ (vs k) (a.tmps.getD t undef)) ∨ ((∀ k,k < N → S k → (s k).dst ≠ some t) ∧ VR μ ((frs 0).get t) (a.tmps.getD t undef))
  size:a.tmps.size=sz
  defers:a.defers=ds
variable {sz:Nat} {ds:List Deferred} {a:Act}
theorem Told.one_dst (T:Told P oc Tb n nt N ops o s lo anc frs ms bs vs) {i k:Nat} (hi:i < N) (hk:k < N) {t:Nat} (h1:(s i).dst=some t) (h2:(s k).dst=some t):i=k:=by
  by_cases e:i=k
  · exact e
  · exact absurd h2 (T.tidy i k hi hk e t h1).1
theorem VInv.takes (T:Told P oc Tb n nt N ops o s lo anc frs ms bs vs) (V:VInv N s frs vs sz ds S μ a) (hcl:∀ i k,i < N → k < N → anc i k → S k → S i) {j:Nat} (hj:j < N) (hn:¬ S j) (hanc:∀ i,i < N → anc i j → S i) {t:Nat} (ht:takes (o j) (s j) t=true) :
    VR μ ((frs j).get t) (a.tmps.getD t undef):=by
  rcases T.slotAt t j (by omega) with ⟨k,h1,h2,h3⟩ | ⟨h1,h2⟩
  · rw [h3]
    have hk:k < N:=by omega
    have hSk:S k:=by
      rcases ((T.tidy k j hk hj (by omega) t h2).2 ht).1 with h | h
      · exact hanc k hk h
      · have:=T.anc_lt j k hj hk h; omega
    rcases V.val t with ⟨k',q1,q2,q3,q4⟩ | ⟨q1,_⟩
    · rw [T.one_dst hk q1 h2 q3]; exact q4
    · exact absurd h2 (q1 k hk hSk)
  · rw [h2]
    rcases V.val t with ⟨k',q1,q2,q3,q4⟩ | ⟨_,q2⟩
    · exfalso
      have hne:k' ≠ j:=fun e=>hn (e ▸ q2)
      have hlt:j < k':=by
        refine Nat.lt_of_not_le fun hle=>?_
        exact h1 k' (by omega) q3
      rcases ((T.tidy k' j q1 hj hne t q3).2 ht).1 with h | h
      · have:=T.anc_lt k' j q1 hj h; omega
      · exact hn (hcl j k' hj q1 h q2)
    · exact q2
theorem takes_use {oo:Oper} {ss:SOper} {t:Nat} (h:Operand.tmp t ∈ oo.op.operands):takes oo ss t=true:=by
  have:t ∈ usesT oo:=by
    simp only [usesT,List.mem_filterMap]
    exact ⟨.tmp t,by simpa using h,rfl⟩
  simp [takes,this]
theorem takes_guard {oo:Oper} {ss:SOper} {t:Nat} {x:Bool} (h:ss.guard=some (t,x)):takes oo ss t=true:=by
  simp [takes,h]
theorem VInv.opsR (T:Told P oc Tb n nt N ops o s lo anc frs ms bs vs) (V:VInv N s frs vs sz ds S μ a) (hcl:∀ i k,i < N → k < N → anc i k → S k → S i) {j:Nat} (hj:j < N) (hn:¬ S j) (hanc:∀ i,i < N → anc i j → S i):OpsR μ (frs j) a.eval (o j).op:=by
  intro x y hx hy
  cases x with
  | tmp t =>
    simp only [opdT,Option.some.injEq] at hy
    subst hy
    exact V.takes T hcl hj hn hanc (takes_use hx)
  | const c =>
    simp only [opdT,Option.map_eq_some_iff] at hy
    obtain ⟨v,hv,rfl⟩:=hy
    exact ofV_rel _ _ _ hv
  | func f =>
    simp only [opdT,Option.some.injEq] at hy
    subst hy
    exact .fn .nil .nil
  | global g=>simp [opdT] at hy
theorem opsR_on (W:Way N s frs ms bs) {j:Nat} (hj:j < N) {ρ:Operand → Value} {op:Op} (h:OpsR μ (frs j) ρ op):OpsR (μ.on (fun b=>(ms j).has b)) (frs j) ρ op:=by
  intro x y hx hy
  have:=h x y hx hy
  cases x with
  | tmp t =>
    simp only [opdT,Option.some.injEq] at hy
    subst hy
    exact this.restrict _ (W.frs j (by omega) t)
  | const c =>
    simp only [opdT,Option.map_eq_some_iff] at hy
    obtain ⟨v,hv,rfl⟩:=hy
    have h1:=(ofV_rel (μ:=fun _=>none) _ _ _ hv).named
    exact this.restrict _ (SV.all_mono (fun b hb=>by simp at hb) v h1)
  | func f =>
    simp only [opdT,Option.some.injEq] at hy
    subst hy
    exact this.restrict _ (by simp [Opd.ev,SV.all,SV.alls])
  | global g=>simp [opdT] at hy
theorem VInv.put (T:Told P oc Tb n nt N ops o s lo anc frs ms bs vs) (V:VInv N s frs vs sz ds S μ a) (hsz:nt ≤ sz) {j:Nat} (hj:j < N) {μ':Mu} (hsub:∀ b x,μ b=some x → μ' b=some x) {u:Value} (hv:VR μ' (vs j) u) :
    VInv N s frs vs sz ds (fun k=>S k ∨ k=j) μ' (a.put (o j).dst u):=by
  refine ⟨fun t=>?_,by rw [put_size]; exact V.size,by rw [put_defers]; exact V.defers⟩
  rw [← T.dst j hj]
  by_cases e:(s j).dst=some t
  · have hlt:t < a.tmps.size:=by rw [V.size]; exact Nat.lt_of_lt_of_le (T.slot j hj t e) hsz
    refine .inl ⟨j,hj,.inr rfl,e,?_⟩
    rw [e]
    simp [Act.put,hlt]
    exact hv
  · have hkeep:(a.put (s j).dst u).tmps.getD t undef=a.tmps.getD t undef:=by
      cases hd:(s j).dst with
      | none=>rfl
      | some d =>
        have hne:d ≠ t:=fun h=>e (by rw [hd,h])
        simp [Act.put,Array.getD_eq_getD_getElem?,Array.getElem?_setIfInBounds_ne hne]
    rw [hkeep]
    rcases V.val t with ⟨k,q1,q2,q3,q4⟩ | ⟨q1,q2⟩
    · exact .inl ⟨k,q1,.inl q2,q3,q4.sub hsub⟩
    · refine .inr ⟨fun k hk h=>?_,q2.sub hsub⟩
      rcases h with h | rfl
      · exact q1 k hk h
      · exact e
theorem Told.loadGet (W:Way N s frs ms bs) (T:Told P oc Tb n nt N ops o s lo anc frs ms bs vs) (I:MInv P N s ms bs μ₀ w₀ S p w μ) (hcl:∀ i k,i < N → k < N → anc i k → S k → S i) {j:Nat} (hjp:j < p) (hn:¬ S j) (hq:(s j).quiet=true)
    {z:Option Nat} {x:Opd} (hl:(s j).op=.load z x) {b:Bk} {off:Nat} (hx:x.ev (frs j)=.ptr b off) {y:SBk} (hy:(ms j).get b=some y) (huse:∀ t,x=.t t → t ∈ usesT (o j)):(ms p).get b=some y:=by
  have hj:j < N:=Nat.lt_of_lt_of_le hjp I.pN
  have hload:(s j).op.isLoad1=true:=by rw [hl]; rfl
  rw [← hy]
  refine W.stay (Nat.le_of_lt hjp) I.pN (Mem.get_has hy) fun l h1 h2 h3 h4=>?_
  have hlN:l < N:=Nat.lt_of_lt_of_le h2 I.pN
  by_cases hwr:Wr s l
  · have hlj : l ≠ j:=fun e=>by subst e; rw [hwr.1] at hq; cases hq
    rcases T.writer l j hlN hj hlj hwr.1 (load_impure hload) with h | h | ⟨h,_⟩ | ⟨⟨so,hso,hput⟩,_,_,hmem⟩
    · have:=T.anc_lt l j hlN hj h; omega
    · exact absurd (hcl j l hj hlN h (I.bef l h2 hwr)) hn
    · rw [alloc_noload h] at hload; cases hload
    · cases hb:bs l with
      | false=>exact W.calm l hlN (.inl hb) b h3
      | true =>
        obtain ⟨n',_,hrun⟩:=(T.step l hlN).loud hb hwr.1
        have hxe:x.ev (frs l)=.ptr b off:=by
          rw [← hx]
          cases x with
          | v c=>rfl
          | t t =>
            refine T.slotSame t h1 (by omega) fun k hk1 hk2=>?_
            have ht:=huse t rfl
            intro hd
            by_cases e:k=j
            · subst e; exact T.own k hj hload t hd ht
            · have htk:Sh.takes (o j) (s j) t=true:=by simp [Sh.takes,ht]
              have:=T.anc_lt k j (by omega) hj (((T.tidy k j (by omega) hj e t hd).2 htk).2 hload)
              omega
        by_cases hcc:∃ f args,so=.call f args
        · obtain ⟨f,args,rfl⟩:=hcc
          have hoc:oc=true:=hput
          have hne:lo l ≠ []:=fun e=>by have:=hmem z x hl; rw [e] at this; cases this
          have hsl:(s l).op=.callL (lo l) f args:=by
            rw [hso]
            simp only [looseO,callO,hoc,Bool.true_and]
            rw [if_pos]
            cases hlo:lo l with
            | nil=>exact absurd hlo hne
            | cons q r=>rfl
          rw [hsl] at hrun
          cases n' with
          | zero=>simp [runP] at hrun
          | succ n' =>
            simp only [runP,Option.bind_eq_some_iff] at hrun
            obtain ⟨y',_,hy'⟩:=hrun
            obtain ⟨rfl,haw⟩:=awayB_some hy'
            have hb2:=awayP_mem haw x (hmem z x hl)
            rw [hxe] at hb2
            exact hb2
        by_cases hcm:∃ ag ks mp k x,so=.mapset ag ks mp k x
        · obtain ⟨ag,ks,mp,k,q,rfl⟩:=hcm
          have hoc:oc=true:=hput
          have hne:lo l ≠ []:=fun e=>by have:=hmem z x hl; rw [e] at this; cases this
          have hsl:(s l).op=.mapsetL (lo l) ag ks mp k q:=by
            rw [hso]
            simp only [looseO,mapO,hoc,Bool.true_and]
            rw [if_pos]
            cases hlo:lo l with
            | nil=>exact absurd hlo hne
            | cons q r=>rfl
          rw [hsl] at hrun
          cases n' with
          | zero=>simp [runP] at hrun
          | succ n' =>
            simp only [runP,Option.bind_eq_some_iff] at hrun
            obtain ⟨y',_,hy'⟩:=hrun
            obtain ⟨rfl,haw⟩:=awayB_some hy'
            have hb2:=awayP_mem haw x (hmem z x hl)
            rw [hxe] at hb2
            exact hb2
        · have hput':so.isPut=true:=by cases so <;> first | rfl | (exact absurd ⟨_,_,rfl⟩ hcc) | (exact absurd ⟨_,_,_,_,_,rfl⟩ hcm) | (simp [SOp.isPutC] at hput)
          have hlo:looseO oc (lo l) so=looseP (lo l) so:=by cases so <;> first | rfl | (exact absurd ⟨_,_,rfl⟩ hcc) | (exact absurd ⟨_,_,_,_,_,rfl⟩ hcm)
          have hnc:(s l).op.isCall=false:=by rw [hso,hlo]; cases so <;> first | rfl | (simp [SOp.isPut] at hput')
          have hmo:=runP_mem hrun hnc
          rw [hso,hlo] at hmo
          rw [h4,hy]
          exact put_away hput' hmo (hmem z x hl) hxe (by rw [h4,hy])
  · exact W.calmNW hlN hwr b h3
theorem Told.one (W : Way N s frs ms bs) (T:Told P oc Tb n nt N ops o s lo anc frs ms bs vs) (hs₀:Sim P μ₀ (ms 0) w₀) (I:MInv P N s ms bs μ₀ w₀ S p w μ) (hat:p < N → Wr s p ∧ ¬ S p) (V:VInv N s frs vs sz ds S μ a) (hsz:nt ≤ sz)
    (hcl:∀ i k,i < N → k < N → anc i k → S k → S i) {j:Nat} (hj:j < N) (hn:¬ S j) (hanc:∀ i,i < N → anc i j → S i) {F:Fence} (hw:Wide F) {k:Nat} {Q:Exit → Act → World → Prop} {K:Act → World → Prop}
    (hK:∀ a' w' μ' p',VInv N s frs vs sz ds (fun k=>S k ∨ k=j) μ' a' → MInv P N s ms bs μ₀ w₀ (fun k=>S k ∨ k=j) p' w' μ' → (p' < N → Wr s p' ∧ ¬ (S p' ∨ p'=j)) → K a' w') :
    if Region.wanted (o j) (yielded ops a.tmps) then (o j).wpIn F k P a w K Q else (∀ f,(o j).about P w a.eval=some f → F.fn f) ∧ K (a.put (o j).dst undef) w:=by
  have hst:=T.step j hj
  have hwant:=wanted_rel (a:=a) (fun t x hg=>V.takes T hcl hj hn hanc (takes_guard hg)) (T.guard j hj) hst.want
  rw [hwant]
  have hem:∀ k,(S k ∨ k=j) ∨ ¬ (S k ∨ k=j):=fun k=>Classical.em _
  have fin:∀ {q:Nat} {w':World} {μ':Mu} {u:Value},MInv P N s ms bs μ₀ w₀ (fun k=>S k ∨ k=j) q w' μ' → (∀ b x,μ b=some x → μ' b=some x) → VR μ' (vs j) u → K (a.put (o j).dst u) w':=by
    intro q w' μ' u hI hsub hv
    obtain ⟨p',hI',hat'⟩:=hI.advance W hem
    exact hK _ _ μ' p' (V.put T hsz hj hsub hv) hI' hat'
  cases hb:bs j with
  | false =>
    obtain ⟨hv,_⟩:=hst.skip hb
    simp only [Bool.false_eq_true,if_false]
    exact ⟨fun f _=>hw.1 f,fin (I.noop fun _=>.inl hb) (fun _ _ h=>h) (by rw [hv]; exact .tup .nil)⟩
  | true =>
    simp only [if_true]
    have hops:=V.opsR T hcl hj hn hanc
    have hnd:∀ {so:SOp},opT P (o j).op=some so → ∀ c,(o j).op ≠ .defer c:=by
      intro so hop c e; rw [e] at hop; simp [opT] at hop
    have value:∀ {so:SOp} {u:Value} {w':World},opT P (o j).op=some so → (execOp a.eval (o j)).run P w=.ok (.value u) w' → K (a.put (o j).dst u) w' → (o j).wpIn F k P a w K Q:=by
      intro so u w' hop hrun hk
      refine ⟨fun f _=>hw.1 f,?_⟩
      rw [Oper.semAt_eq _ _ _ (hnd hop),hrun]
      exact hk
    have hopT:opT P (o j).op=some (s j).op.base:=by
      cases hq:(s j).quiet with
      | true=>obtain ⟨n',m₂,_,hr,_⟩:=hst.quiet hb hq; exact opT_of_run (T.op j hj) hr
      | false=>obtain ⟨n',_,hr⟩:=hst.loud hb hq; exact opT_of_run (T.op j hj) hr
    by_cases hpu:(s j).op.pure=true
    · obtain ⟨_,hv⟩:=hst.pure hpu hb
      obtain ⟨u,h1,h2⟩:=pure_sound hopT hv μ w a.eval hops
      exact value hopT h1 (fin (I.noop fun _=>.inr (.inl hpu)) (fun _ _ h=>h) h2)
    · have hpu' : (s j).op.pure=false:=by simpa using hpu
      by_cases hal:(s j).op.isAlloc=true
      · obtain ⟨bk,y,h1,h2,_,h4⟩:=hst.alloc hal hb (T.op j hj)
        obtain ⟨obj,u,M,h5,h6,h7⟩:=h4 μ w a.eval hops
        obtain ⟨q1,q2,q3⟩:=I.lay W T hcl hj hn hal h1 h2 h6
        exact value hopT h5 (fin q1 q2 (h7 _ q3))
      · have hal' : (s j).op.isAlloc=false:=by simpa using hal
        have hlt:j ≠ p → j < p:=by
          intro hne
          refine Nat.lt_of_not_le fun hle=>?_
          have hpN:p < N:=by omega
          obtain ⟨hwp,hnp⟩:=hat hpN
          rcases T.writer p j hpN hj (fun e=>hne e.symm) hwp.1 hpu' with h | h | ⟨h,_⟩ | ⟨_,_,h,_⟩
          · exact hnp (hanc p hpN h)
          · have:=T.anc_lt j p hj hpN h; omega
          · rw [hal'] at h; cases h
          · omega
        cases hq:(s j).quiet with
        | true =>
          have hne:j ≠ p:=fun e=>by
            have:=(hat (e ▸ hj)).1.1
            rw [← e,hq] at this; cases this
          have hjp:=hlt hne
          obtain ⟨n',m₂,hn',hr,hms⟩:=hst.quiet hb hq
          by_cases hld:(s j).op.isLoad1=true
          · -- a bare load
            obtain ⟨z,x,hlx⟩:∃ z x,(s j).op=.load z x:=by
              cases hso:(s j).op <;> rw [hso] at hld <;> first | exact ⟨_,_,rfl⟩ | (simp [SOp.isLoad1] at hld)
            have hbase:opT P (o j).op=some (.load z x):=by rw [hopT,hlx]; rfl
            obtain ⟨t,ao,hop,hao,hvt⟩:=load_of_opT hbase
            have hmo:=runP_mem hr (load_nocall hld)
            rw [hlx] at hmo
            simp only [memop] at hmo
            have hmem:ao ∈ (o j).op.operands:=by rw [hop]; simp [Op.operands]
            have rx:=hops ao x hmem hao
            cases hxe:x.ev (frs j) with
            | ptr b off =>
              rw [hxe] at rx
              simp only [hxe,Option.map_eq_some_iff,Prod.mk.injEq] at hmo
              obtain ⟨v,hv,hv',_⟩:=hmo
              unfold Mem.load at hv
              rw [shut_get] at hv
              cases hg:(ms j).get b with
              | none=>simp [hg] at hv
              | some y =>
                rw [hg] at hv
                cases y with
                | map es=>simp at hv
                | loop l=>simp at hv
                | iter=>simp at hv
                | cells rw' c =>
                  simp only at hv
                  have hgp:=T.loadGet W I hcl hjp hn hq hlx hxe hg fun t' ht'=>by
                    rw [ht'] at hao
                    have hat:ao=.tmp t':=by
                      cases ao with
                      | tmp q=>simp only [opdT,Option.some.injEq,Opd.t.injEq] at hao; rw [hao]
                      | const q=>simp [opdT] at hao
                      | func q=>simp [opdT] at hao
                      | global q=>simp [opdT] at hao
                    rw [hat] at hmem
                    simp only [usesT,List.mem_filterMap]
                    exact ⟨.tmp t',by simpa using hmem,rfl⟩
                  obtain ⟨r,base,M,hmu,hk⟩:=rx.ptr_inv
                  obtain ⟨u,hu,hur⟩:=load_of_BR (I.blk b r base M _ hmu hgp) hv hvt
                  refine value (u:=u) hopT ?_ (fin (I.noop fun h=>by omega) (fun _ _ h=>h) (hv' ▸ hur.off))
                  generalize hoj:o j=oj at *
                  obtain ⟨dst,op',ty,pos,after,guard⟩:=oj
                  dsimp only at hop
                  subst hop
                  simp [execOp,Instr.loadAt,hk,Instr.sureAddr,hu]
            | _=>simp [hxe] at hmo
          · -- anything else that turns nothing
            have hnw:∀ l,j ≤ l → l < p → ¬ Wr s l:=fun l h1 h2=>by
              by_cases e:l=j
              · subst e; intro h; rw [h.1] at hq; cases hq
              · exact T.noWr I hcl hj hn hpu' (by simpa using hld) (by omega) h2
            have hsim:=I.sim W (Nat.le_of_lt hjp) hnw
            refine T.hP n' hn' _ _ _ _ _ hr (o j) hopT F hw k _ w a K Q hsim.shut (opsR_on W hj hops) ?_
            intro u w' μ' hv hp
            obtain ⟨h1,h2,h3,h4⟩:=hp.reopen hsim
            rw [← hms] at h1
            exact fin (I.quiet W hjp hn hnw h1 h3 h4) (fun b x h=>Mu.or_left h) (hv.sub fun b x h=>I.or_right W hj hn h1 h)
        | false =>
          have hjp:j=p:=by
            refine Classical.byContradiction fun hne=>?_
            exact hn (I.bef j (hlt hne) ⟨hq,hpu'⟩)
          subst hjp
          obtain ⟨n',hn',hr⟩:=hst.loud hb hq
          have hsim:=I.sim W (Nat.le_refl j) (fun l h1 h2=>by omega)
          refine T.hP n' hn' _ _ _ _ _ hr (o j) hopT F hw k _ w a K Q hsim (opsR_on W hj hops) ?_
          intro u w' μ' hv hp
          exact fin (I.turn W hs₀ hj hn hp) (fun b x h=>Mu.or_left h) (hv.sub fun b x h=>I.or_right W hj hn hp h)
end
end Go.Sh

import Derived.Test.YtepecbjlfekkaaaShRun2
import Derived.TacticsIn
set_option linter.all false
set_option linter.unusedVariables false
set_option linter.unusedSimpArgs false
set_option autoImplicit false
namespace Go.Sh
variable {P:Program}
theorem erase_base (s:SOp):s.erase.base=s.base:=by cases s <;> rfl
theorem operT_inv {nt:Nat} {ops:Array Oper} {o:Oper} {s:SOper} (h:operT P nt ops o=some s) :
    (∀ d,o.dst=some d → d < nt) ∧ guardT ops o.guard=some s.guard ∧ s.dst=o.dst ∧ s.op=(opT P o.op).getD .bad ∧ s.quiet=false:=by
  unfold operT at h
  rw [Option.ite_none_right_eq_some,Option.map_eq_some_iff] at h
  obtain ⟨hd,g,hg,rfl⟩:=h
  refine ⟨fun d e=>?_,hg,rfl,rfl,rfl⟩
  rw [e] at hd
  simpa using hd
theorem wanted_rel {μ:Mu} {fr:Fr} {a:Act} {ops:Array Oper} {o:Oper} {g:Option (Nat × Bool)} {b:Bool} (hf:∀ t x,g=some (t,x) → VR μ (fr.get t) (a.tmps.getD t undef)) (hg:guardT ops o.guard=some g) (hw:wantedS fr g=some b) :
    Region.wanted o (yielded ops a.tmps)=b:=by
  unfold Region.wanted
  cases ho:o.guard with
  | none =>
    simp only [ho,guardT,Option.some.injEq] at hg
    subst hg
    simp only [wantedS,Option.some.injEq] at hw
    exact hw
  | some p =>
    obtain ⟨j,want⟩:=p
    simp only [ho,guardT,Option.map_eq_some_iff] at hg
    obtain ⟨t,ht,rfl⟩:=hg
    have hr:=hf t want rfl
    show (yielded ops a.tmps j == some want)=b
    have hy:yielded ops a.tmps j=match a.tmps[t]? with | some (.bool b)=>some b | _=>none:=by
      unfold yielded
      rw [ht]
      rfl
    simp only [wantedS] at hw
    cases hv:fr.get t with
    | bool x =>
      simp only [hv,Option.some.injEq] at hw
      rw [hv] at hr
      cases hu:a.tmps[t]? with
      | none =>
        rw [Array.getD_eq_getD_getElem?,hu] at hr
        simp [undef] at hr
        cases hr
      | some u =>
        rw [Array.getD_eq_getD_getElem?,hu] at hr
        simp only [Option.getD_some] at hr
        cases hr
        rw [hy,hu,← hw]
        cases x <;> cases want <;> rfl
    | tup l =>
      simp only [hv,Option.some.injEq] at hw
      rw [hv] at hr
      rw [← hw,hy]
      cases hu:a.tmps[t]? with
      | none=>simp
      | some u =>
        rw [Array.getD_eq_getD_getElem?,hu] at hr
        simp only [Option.getD_some] at hr
        cases hr
        simp
    | _=>simp [hv] at hw
theorem put_size (a:Act) (d:Option Nat) (v:Value):(a.put d v).tmps.size=a.tmps.size:=by cases d <;> simp [Act.put]
theorem put_defers (a:Act) (d:Option Nat) (v:Value):(a.put d v).defers=a.defers:=by cases d <;> rfl
theorem list_stepT {Tb:Tbl} {F:Fence} (hw:Wide F) {k nt:Nat} {ops:Array Oper} {Q:Exit → Act → World → Prop}:∀ (n:Nat) (_:∀ n',n' < n → SP P Tb n') (l:List SOper) (r tl:List Oper) (fr:Fr) (m:Mem) (fr':Fr) (m':Mem),
    runO Tb n false l fr m=some (fr',m') → opersT P nt ops r=some (l.map SOper.erase) → ∀ μ w a,Sim P μ m w → FrR μ fr a.tmps → nt ≤ a.tmps.size →
      (∀ a' w' μ',Post P μ m w μ' m' w' → FrR μ' fr' a'.tmps → a'.tmps.size=a.tmps.size → a'.defers=a.defers → wpListIn F k P ops Q tl a' w') → wpListIn F k P ops Q (r ++ tl) a w:=by
  intro n
  induction n with
  | zero=>intro _ l r tl fr m fr' m' h; simp [runO] at h
  | succ n ih =>
    intro hP l r tl fr m fr' m' h hT μ w a hs hf hnt hQ
    cases l with
    | nil =>
      cases r with
      | nil =>
        simp only [runO,Option.some.injEq,Prod.mk.injEq] at h
        obtain ⟨rfl,rfl⟩:=h
        exact hQ a w μ (.refl hs) hf rfl rfl
      | cons o r=>simp [opersT,Option.bind_eq_some_iff] at hT
    | cons s l =>
      cases r with
      | nil=>simp [opersT] at hT
      | cons o r =>
        simp only [opersT,Option.bind_eq_some_iff,Option.map_eq_some_iff,List.map_cons,List.cons.injEq] at hT
        obtain ⟨s',hs',l',hl',e1,e2⟩:=hT
        subst e2
        obtain ⟨hd,hg,hdst,hop,hq⟩:=operT_inv hs'
        have hdst':s.dst=o.dst:=by rw [← hdst,e1]; rfl
        have hg':guardT ops o.guard=some s.guard:=by rw [hg,e1]; rfl
        have hop':s.op.erase=(opT P o.op).getD .bad:=by rw [← hop,e1]; rfl
        simp only [runO,Option.bind_eq_some_iff] at h
        obtain ⟨b,hb,h⟩:=h
        have hwant:=wanted_rel (fun t _ _=>hf t) hg' hb
        simp only [List.cons_append,wpListIn,hwant]
        have hd':∀ t,s.dst=some t → t < a.tmps.size:=fun t e=>Nat.lt_of_lt_of_le (hd t (hdst' ▸ e)) hnt
        cases b with
        | true =>
          simp only [if_true,Bool.false_and,Bool.false_eq_true,if_false,Option.bind_eq_some_iff] at h ⊢
          obtain ⟨⟨v,m₁⟩,hrun,h⟩:=h
          have hopT:opT P o.op=some s.op.base:=by
            cases ho:opT P o.op with
            | none =>
              rw [ho] at hop'
              simp only [Option.getD_none] at hop'
              have:s.op=.bad:=by cases hs:s.op <;> simp [hs,SOp.erase] at hop' <;> rfl
              rw [this] at hrun
              cases n with
              | zero=>simp [runP] at hrun
              | succ n=>simp [runP,memop,pev] at hrun
            | some x =>
              rw [ho] at hop'
              simp only [Option.getD_some] at hop'
              rw [← erase_base,hop',opT_base ho]
          refine hP n (by omega) s.op fr m v m₁ hrun o hopT F hw k μ w a _ Q hs (fun x y _ hxy=>opdT_rel hf hxy) ?_
          intro u w' μ' hv hp
          have hf':FrR μ' (fr.put s.dst v) (a.put o.dst u).tmps:=by
            rw [← hdst']; exact FrR.put (hf.sub hp.keep) hv hd'
          refine ih (fun n' hn'=>hP n' (by omega)) l r tl _ m₁ fr' m' h hl' μ' w' _ hp.sim hf' (by rw [put_size]; exact hnt) ?_
          intro a' w'' μ'' hp' hf'' hsz hdf
          exact hQ a' w'' μ'' (hp.trans hp' hs) hf'' (by rw [hsz,put_size]) (by rw [hdf,put_defers])
        | false =>
          simp only [Bool.false_eq_true,if_false] at h ⊢
          have hf':FrR μ (fr.put s.dst (.tup [])) (a.put o.dst undef).tmps:=by
            rw [← hdst']; exact FrR.put hf (.tup .nil) hd'
          refine ⟨fun f _=>hw.1 f,ih (fun n' hn'=>hP n' (by omega)) l r tl _ m fr' m' h hl' μ w _ hs hf' (by rw [put_size]; exact hnt) ?_⟩
          intro a' w'' μ'' hp' hf'' hsz hdf
          exact hQ a' w'' μ'' hp' hf'' (by rw [hsz,put_size]) (by rw [hdf,put_defers])
theorem list_step {Tb:Tbl} {F:Fence} (hw:Wide F) {k nt:Nat} {ops:Array Oper} {Q:Exit → Act → World → Prop} (n:Nat) (hP:∀ n',n' < n → SP P Tb n') (l:List SOper) (r:List Oper) (fr:Fr) (m:Mem) (fr':Fr) (m':Mem)
    (h:runO Tb n false l fr m=some (fr',m')) (hT:opersT P nt ops r=some (l.map SOper.erase)) (μ:Mu) (w:World) (a:Act) (hs:Sim P μ m w) (hf:FrR μ fr a.tmps) (hnt:nt ≤ a.tmps.size)
    (hQ:∀ a' w' μ',Post P μ m w μ' m' w' → FrR μ' fr' a'.tmps → a'.tmps.size=a.tmps.size → a'.defers=a.defers → Q .normal a' w'):wpListIn F k P ops Q r a w:=by
  have:=list_stepT (Q:=Q) (k:=k) hw n hP l r [] fr m fr' m' h hT μ w a hs hf hnt hQ
  rwa [List.append_nil] at this
theorem sr_plain {Tb:Tbl} {n:Nat} (hP:∀ n',n' < n → SP P Tb n') {l:List SOper} {fr fr':Fr} {m m':Mem} (h:runO Tb n false l fr m=some (fr',m')) {oc:Bool} {nt:Nat} {ops:Array Oper} (hT:regionT P oc nt ops false=some (l.map SOper.erase))
    {F:Fence} (hw:Wide F) {id B k:Nat} {μ:Mu} {w:World} {a:Act} (hs:Sim P μ m w) (hf:FrR μ fr a.tmps) (hnt:nt ≤ a.tmps.size) (hm:MarksP B w μ a.defers) :
    (Code.region id ops false).wpIn F k P (QC P B μ m w a.tmps.size .normal fr' m') a w:=by
  unfold regionT at hT
  simp only [Bool.false_eq_true,if_false,Option.bind_eq_some_iff] at hT
  obtain ⟨l',hl',e⟩:=hT
  cases e
  refine wpIn_region_list (list_step hw n hP l ops.toList fr m fr' m' h hl' μ w a hs hf hnt ?_)
  intro a' w' μ' hp hf' hsz hd
  exact ⟨rfl,μ',hp,hf',hsz,by rw [hd]; exact hm.post hp⟩
theorem lvs_mem {d i:Nat}:∀ {l:List SV},SV.lvs d i l=true → ∀ v ∈ l,v.lv d i=true
  | [],_,v,h=>by cases h
  | a :: l,h,v,hv=>by
    simp only [SV.lvs,Bool.and_eq_true] at h
    rcases List.mem_cons.1 hv with rfl | hv
    · exact h.1
    · exact lvs_mem h.2 v hv
theorem FrR.keepOn {μ:Mu} {fr:Fr} {tmps:Array Value} {ks:List Nat} {d i:Nat} (h:FrR μ fr tmps) (hl:SV.lvs d i ((fr.keep ks).map Prod.snd)=true):FrR (μ.on (Bk.lv d i)) (fr.keep ks) tmps:=by
  intro t
  rw [Fr.get_keep]
  split
  · rename_i ht
    refine (h t).restrict _ ?_
    rw [← SV.lv_all]
    exact lvs_mem hl _ (List.mem_map.2 ⟨(t,fr.get t),by simp only [Fr.keep,List.mem_map]; exact ⟨t,ht,rfl⟩,rfl⟩)
  · exact .unk _
theorem sl_step {Tb:Tbl} {n:Nat} (hC:SC P Tb n) (hL:SL P Tb n):SL P Tb (n + 1):=by
  intro kk ks sc fr m e fr' m' h cr oc nt hc F hw B k μ₀ m₀ w₀ μ w a sz hs hkk hp hf hsz hnt hro hm hB
  unfold runL at h
  simp only [Option.bind_eq_some_iff] at h
  obtain ⟨⟨fr₁,m₁⟩,htrim,h⟩:=h
  obtain ⟨⟨e₂,fr₂,m₂⟩,hrun,h⟩:=h
  obtain ⟨μ₁,hp₁,hf₁,hm₁⟩:∃ μ₁,Post P μ₀ m₀ w₀ μ₁ m₁ w ∧ FrR μ₁ fr₁ a.tmps ∧ MarksP B w μ₁ a.defers:=by
    cases ks with
    | none=>simp only [Option.some.injEq,Prod.mk.injEq] at htrim; obtain ⟨rfl,rfl⟩:=htrim; exact ⟨μ,hp,hf,hm⟩
    | some ks =>
      simp only at htrim
      split at htrim
      · rename_i hlv
        simp only [Option.some.injEq,Prod.mk.injEq] at htrim
        obtain ⟨rfl,rfl⟩:=htrim
        subst hkk
        exact ⟨_,hp.trim hs,hf.keepOn hlv,hm.on⟩
      · cases htrim
  rw [roundsIn_succ]
  refine wpIn_mono (hC sc fr₁ m₁ e₂ fr₂ m₂ hrun cr oc nt hc F hw B k μ₁ w a hp₁.sim hf₁ (hsz ▸ hnt) (hro.post hp₁) hm₁ (Nat.le_trans hB hp₁.size)) ?_
  intro ex a' w' hq
  obtain ⟨hex,μ₂,hp₂,hf₂,hsz₂,hm₂⟩:=hq
  have hp02:=hp₁.trans hp₂ hs
  cases e₂ with
  | normal =>
    simp only [SEx.exit'] at hex
    subst hex
    exact hL kk ks sc fr₂ m₂ e fr' m' h cr oc nt hc F hw B k μ₀ m₀ w₀ μ₂ w' a' sz hs hkk hp02 hf₂ (hsz₂.trans hsz) hnt hro hm₂ hB
  | exit id =>
    simp only [Option.some.injEq,Prod.mk.injEq] at h
    obtain ⟨rfl,rfl,rfl⟩:=h
    subst hex
    exact ⟨rfl,μ₂,hp02,hf₂,hsz₂.trans hsz,hm₂⟩
  | ret =>
    simp only [Option.some.injEq,Prod.mk.injEq] at h
    obtain ⟨rfl,rfl,rfl⟩:=h
    subst hex
    exact ⟨rfl,μ₂,hp02,hf₂,hsz₂.trans hsz,hm₂⟩
end Go.Sh

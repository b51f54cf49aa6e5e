import Derived.Test.YtepecbjlfekkaaaShDraw2
set_option linter.all false
set_option linter.unusedVariables false
set_option linter.unusedSimpArgs false
set_option autoImplicit false
namespace Go.Sh
variable {P:Program}
structure Told (P:Program) (oc:Bool) (Tb:Tbl) (n nt N:Nat) (ops:Array Oper) (o:Nat → Oper) (s:Nat → SOper) (lo:Nat → List Opd) (anc:Nat → Nat → Prop) (frs:Nat → Fr) (ms:Nat → Mem) (bs:Nat → Bool) (vs:Nat → SV):Prop where
  hP:∀ n',n' < n → SP P Tb n'
  step:∀ k,k < N → Step Tb n (s k) (frs k) (ms k) (bs k) (vs k) (frs (k + 1)) (ms (k + 1))
  op:∀ k,k < N → (s k).op.erase=looseO oc (lo k) ((opT P (o k).op).getD .bad)
  dst:∀ k,k < N → (s k).dst=(o k).dst
  slot:∀ k,k < N → ∀ d,(s k).dst=some d → d < nt
  guard:∀ k,k < N → guardT ops (o k).guard=some (s k).guard
  anc_lt:∀ i j,i < N → j < N → anc i j → i < j
  tidy:∀ i j,i < N → j < N → i ≠ j → ∀ d,(s i).dst=some d → (s j).dst ≠ some d ∧ (takes (o j) (s j) d=true → (anc i j ∨ anc j i) ∧ ((s j).op.isLoad1=true → anc i j))
  own:∀ j,j < N → (s j).op.isLoad1=true → ∀ d,(s j).dst=some d → d ∉ usesT (o j)
  writer:∀ p j,p < N → j < N → p ≠ j → (s p).quiet=false → (s j).op.pure=false → anc p j ∨ anc j p ∨ ((s j).op.isAlloc=true ∧ p < j) ∨
    ((∃ so,(s p).op=looseO oc (lo p) so ∧ so.isPutC oc=true) ∧ (s j).op.isLoad1=true ∧ j < p ∧ ∀ z x,(s j).op=.load z x → x ∈ lo p)
structure Way (N:Nat) (s:Nat → SOper) (frs:Nat → Fr) (ms:Nat → Mem) (bs:Nat → Bool):Prop where
  go:∀ k,k < N → MGo (ms k) (ms (k + 1))
  calm:∀ k,k < N → (bs k=false ∨ (s k).quiet=true ∨ (s k).op.pure=true ∨ (s k).op.isAlloc=true) → ∀ c,(ms k).has c=true → (ms (k + 1)).get c=(ms k).get c
  cl:∀ k,k ≤ N → ∀ b y,(ms k).get b=some y → y.names ((ms k).knows b)
  frs:∀ k,k ≤ N → ∀ t,((frs k).get t).all (fun c=>(ms k).has c)=true
section
variable {oc:Bool} {Tb:Tbl} {n nt N:Nat} {ops:Array Oper} {o:Nat → Oper} {s:Nat → SOper} {lo:Nat → List Opd} {anc:Nat → Nat → Prop} {frs:Nat → Fr} {ms:Nat → Mem} {bs:Nat → Bool} {vs:Nat → SV}
theorem runP_mem {n':Nat} {so:SOp} {fr:Fr} {m:Mem} {x:SV × Mem} (h:runP Tb n' so fr m=some x) (hc:so.isCall=false):memop so fr m=some x:=by
  cases n' with
  | zero=>simp [runP] at h
  | succ n'=>cases so <;> first | (simpa only [runP] using h) | (simp [SOp.isCall] at hc)
theorem pure_nocall {so:SOp} (h:so.pure=true):so.isCall=false:=by cases so <;> first | rfl | (cases h)
theorem alloc_nocall {so:SOp} (h:so.isAlloc=true):so.isCall=false:=by cases so <;> first | rfl | (cases h)
theorem load_nocall {so:SOp} (h:so.isLoad1=true):so.isCall=false:=by cases so <;> first | rfl | (cases h)
theorem Step.pure {fr fr':Fr} {m m':Mem} {b:Bool} {v:SV} {so:SOper} (h:Step Tb n so fr m b v fr' m') (hp:so.op.pure=true) (hb:b=true):m'=m ∧ pev so.op fr=some v:=by
  have key:∀ n' m₁ m₂,runP Tb n' so.op fr m₁=some (v,m₂) → m₂=m₁ ∧ pev so.op fr=some v:=by
    intro n' m₁ m₂ hr
    have:=runP_mem hr (pure_nocall hp)
    rw [memop_pure fr m₁ hp] at this
    simp only [Option.map_eq_some_iff,Prod.mk.injEq] at this
    obtain ⟨v',hv,rfl,rfl⟩:=this
    exact ⟨rfl,hv⟩
  cases hq:so.quiet with
  | true =>
    obtain ⟨n',m₂,_,hr,rfl⟩:=h.quiet hb hq
    obtain ⟨rfl,hv⟩:=key _ _ _ hr
    exact ⟨rfl,hv⟩
  | false =>
    obtain ⟨n',_,hr⟩:=h.loud hb hq
    exact key _ _ _ hr
theorem Step.alloc {fr fr':Fr} {m m':Mem} {b:Bool} {v:SV} {so:SOper} {o:Oper} {oc:Bool} {lo:List Opd} (h:Step Tb n so fr m b v fr' m') (ha:so.op.isAlloc=true) (hb:b=true) (he:so.op.erase=looseO oc lo ((opT P o.op).getD .bad)) :
    ∃ bk y,m.has bk=false ∧ m'.get bk=some y ∧ (∀ c,m.has c=true → m'.get c=m.get c) ∧
      ∀ μ w ρ,OpsR μ fr ρ o.op → ∃ obj u N,(execOp ρ o).run P w=.ok (.value u) (w.alloc obj) ∧ BR P (μ.on (Bk.lv bk.room.1 bk.room.2)) (w.alloc obj) w.heap.size 0 N y ∧ ∀ μ':Mu,μ' bk=some (w.heap.size,0,N) → VR μ' v u:=by
  have key:∀ n' m₁ m₂,runP Tb n' so.op fr m₁=some (v,m₂) → ∃ bk y,m₁.has bk=false ∧ m₂.get bk=some y ∧ (∀ c,m₁.has c=true → m₂.get c=m₁.get c) ∧
      ∀ μ w ρ,OpsR μ fr ρ o.op → ∃ obj u N,(execOp ρ o).run P w=.ok (.value u) (w.alloc obj) ∧ BR P (μ.on (Bk.lv bk.room.1 bk.room.2)) (w.alloc obj) w.heap.size 0 N y ∧ ∀ μ':Mu,μ' bk=some (w.heap.size,0,N) → VR μ' v u:=by
    intro n' m₁ m₂ hr
    obtain ⟨st,bk,y,hn,hall⟩:=alloc_sound (P:=P) (opT_of_run he hr) ha (runP_mem hr (alloc_nocall ha))
    obtain ⟨hf,hget,_⟩:=Mem.new_spec hn
    exact ⟨bk,y,hf,by rw [hget,if_pos rfl],fun c hc=>by rw [hget,if_neg (fun e=>by subst e; rw [hf] at hc; cases hc)],hall⟩
  cases hq:so.quiet with
  | true =>
    obtain ⟨n',m₂,_,hr,rfl⟩:=h.quiet hb hq
    obtain ⟨bk,y,h1,h2,h3,h4⟩:=key _ _ _ hr
    exact ⟨bk,y,by rw [← shut_has]; exact h1,by rw [reopen_get]; exact h2,fun c hc=>by rw [reopen_get,h3 c (by rw [shut_has]; exact hc),shut_get],h4⟩
  | false =>
    obtain ⟨n',_,hr⟩:=h.loud hb hq
    exact key _ _ _ hr
theorem has_of_named {μ:Mu} {m:Mem} {w:World} (hs:Sim P μ m w) {v:SV} {u:Value} (hv:VR μ v u):v.all (fun c=>m.has c)=true :=
  SV.all_mono (fun b hb=>by cases hx:μ b with
    | none=>simp [hx] at hb
    | some x=>exact (hs.dom b x hx).1) v hv.named
theorem Told.way (T:Told P oc Tb n nt N ops o s lo anc frs ms bs vs) {F:Fence} (hw:Wide F) {μ:Mu} {w:World} {a:Act} (hs:Sim P μ (ms 0) w) (hf:FrR μ (frs 0) a.tmps) (hnt:nt ≤ a.tmps.size) :
    Way N s frs ms bs ∧ ∃ μ' w',Post P μ (ms 0) w μ' (ms N) w':=by
  have key:∀ k,k ≤ N → ∃ (μ':Mu) (w':World) (a':Act),Post P μ (ms 0) w μ' (ms k) w' ∧ FrR μ' (frs k) a'.tmps ∧ a'.tmps.size=a.tmps.size:=by
    intro k
    induction k with
    | zero=>intro _; exact ⟨μ,w,a,.refl hs,hf,rfl⟩
    | succ k ih =>
      intro hk
      obtain ⟨μ₁,w₁,a₁,h1,h2,h3⟩:=ih (by omega)
      obtain ⟨μ₂,w₂,a₂,q1,q2,q3,_⟩:=(T.step k (by omega)).go T.hP (T.op k (by omega)) (T.slot k (by omega)) hw h1.sim h2 (by rw [h3]; exact hnt)
      exact ⟨μ₂,w₂,a₂,h1.trans q1 hs,q2,q3.trans h3⟩
  refine ⟨⟨fun k hk=>?_,fun k hk hc=>?_,fun k hk=>?_,fun k hk t=>?_⟩,?_⟩
  · obtain ⟨μ₁,w₁,a₁,h1,h2,h3⟩:=key k (by omega)
    obtain ⟨μ₂,w₂,a₂,q1,_⟩:=(T.step k hk).go T.hP (T.op k hk) (T.slot k hk) hw h1.sim h2 (by rw [h3]; exact hnt)
    exact q1.go
  · obtain ⟨μ₁,w₁,a₁,h1,h2,h3⟩:=key k (by omega)
    obtain ⟨μ₂,w₂,a₂,q1,_,_,q4⟩:=(T.step k hk).go T.hP (T.op k hk) (T.slot k hk) hw h1.sim h2 (by rw [h3]; exact hnt)
    cases hb:bs k with
    | false=>exact q4 (.inl hb)
    | true =>
      rcases hc with h | h | h | h
      · rw [hb] at h; cases h
      · exact q4 (.inr h)
      · have:=((T.step k hk).pure h hb).1
        intro c _; rw [this]
      · obtain ⟨_,_,_,_,h5,_⟩:=(T.step k hk).alloc h hb (T.op k hk)
        exact h5
  · obtain ⟨μ₁,w₁,a₁,h1,h2,h3⟩:=key k hk
    exact h1.sim.cl
  · obtain ⟨μ₁,w₁,a₁,h1,h2,h3⟩:=key k hk
    exact has_of_named h1.sim (h2 t)
  · obtain ⟨μ₁,w₁,a₁,h1,_⟩:=key N (Nat.le_refl N)
    exact ⟨μ₁,w₁,h1⟩
theorem Way.mono (W:Way N s frs ms bs) {i k:Nat} (hik:i ≤ k) (hk:k ≤ N) {c:Bk} (h:(ms i).has c=true):(ms k).has c=true:=by
  induction k with
  | zero => have:i=0:=by omega
            subst this; exact h
  | succ k ih =>
    by_cases e:i=k + 1
    · subst e; exact h
    · exact (W.go k (by omega)).has c (ih (by omega) (by omega))
theorem Way.stay (W:Way N s frs ms bs) {i k:Nat} (hik:i ≤ k) (hk:k ≤ N) {c:Bk} (h:(ms i).has c=true)
    (hc:∀ l,i ≤ l → l < k → (ms l).has c=true → (ms l).get c=(ms i).get c → (ms (l + 1)).get c=(ms l).get c):(ms k).get c=(ms i).get c:=by
  induction k with
  | zero => have:i=0:=by omega
            subst this; rfl
  | succ k ih =>
    by_cases e:i=k + 1
    · subst e; rfl
    · have h1:=ih (by omega) (by omega) fun l h1 h2=>hc l h1 (by omega)
      rw [hc k (by omega) (by omega) (W.mono (by omega) (by omega) h) h1]
      exact h1
def creates (ms:Nat → Mem) (k:Nat) (b:Bk):Prop:=(ms k).has b=false ∧ (ms (k + 1)).has b=true
theorem Way.once (W:Way N s frs ms bs) {i k:Nat} (hi:i < N) (hk:k < N) {b:Bk} (h1:creates ms i b) (h2:creates ms k b):i=k:=by
  have key:∀ i k,k < N → i < k → creates ms i b → creates ms k b → False:=fun i k hk hik h1 h2=>by
    have:=W.mono (show i + 1 ≤ k by omega) (by omega) h1.2
    rw [h2.1] at this; cases this
  by_cases e:i=k
  · exact e
  · exfalso
    rcases Nat.lt_or_gt_of_ne e with h | h
    · exact key i k hk h h1 h2
    · exact key k i hi h h2 h1
def Wr (s:Nat → SOper) (k:Nat):Prop:=(s k).quiet=false ∧ (s k).op.pure=false
structure MInv (P:Program) (N:Nat) (s:Nat → SOper) (ms:Nat → Mem) (bs:Nat → Bool) (μ₀:Mu) (w₀:World) (S:Nat → Prop) (p:Nat) (w:World) (μ:Mu):Prop where
  pN:p ≤ N
  bef:∀ k,k < p → Wr s k → S k
  aft:∀ k,p ≤ k → k < N → S k → bs k=false ∨ (s k).op.pure=true ∨ (s k).op.isAlloc=true
  dom:∀ b x,μ b=some x → x.1 < w.heap.size ∧ ((ms 0).has b=true ∨ ∃ i,i < N ∧ S i ∧ creates ms i b)
  keep:∀ b x,μ₀ b=some x → μ b=some x
  new:∀ b x,μ b=some x → μ₀ b=some x ∨ ((ms 0).has b=false ∧ (w₀.heap.size ≤ x.1 ∨ ∃ c y,μ₀ c=some y ∧ y.1=x.1 ∧ (ms 0).wr c))
  frm:∀ r,r < w₀.heap.size → (∀ c y,μ₀ c=some y → y.1=r → ¬ (ms 0).wr c) → w.heap[r]? = w₀.heap[r]?
  os:w.os=w₀.os
  tape:w.tape=w₀.tape
  out:w.output=w₀.output
  size:w₀.heap.size ≤ w.heap.size
  blk:∀ b r base M y,μ b=some (r,base,M) → (ms p).get b=some y → BR P (μ.on (Bk.lv b.room.1 b.room.2)) w r base M y
  inj:∀ b c x z y u,μ b=some x → μ c=some z → x.1=z.1 → (ms p).get b=some y → (ms p).get c=some u → b ≠ c → y.ro=true ∧ u.ro=true
  late:∀ b x,μ b=some x → (ms p).has b=false → ∃ i y,p ≤ i ∧ i < N ∧ S i ∧ creates ms i b ∧ (ms (i + 1)).get b=some y ∧ BR P (μ.on (Bk.lv b.room.1 b.room.2)) w x.1 x.2.1 x.2.2 y ∧ ∀ c z,μ c=some z → z.1=x.1 → c=b
theorem MInv.advance (W:Way N s frs ms bs) {μ₀:Mu} {w₀:World} {S:Nat → Prop} (hS:∀ k,S k ∨ ¬ S k) {q:Nat} {w:World} {μ:Mu} (I:MInv P N s ms bs μ₀ w₀ S q w μ) :
    ∃ p,MInv P N s ms bs μ₀ w₀ S p w μ ∧ (p < N → Wr s p ∧ ¬ S p):=by
  obtain ⟨d,hd⟩:∃ d,d=N - q:=⟨_,rfl⟩
  induction d generalizing q with
  | zero=>exact ⟨q,I,fun h=>by omega⟩
  | succ d ih =>
    have hq:q < N:=by omega
    by_cases hst:Wr s q ∧ ¬ S q
    · exact ⟨q,I,fun _=>hst⟩
    · have hcalm:∀ c,(ms q).has c=true → (ms (q + 1)).get c=(ms q).get c:=by
        refine W.calm q hq ?_
        rcases hS q with h | h
        · rcases I.aft q (Nat.le_refl q) hq h with h | h | h
          · exact .inl h
          · exact .inr (.inr (.inl h))
          · exact .inr (.inr (.inr h))
        · by_cases h1:(s q).quiet=true
          · exact .inr (.inl h1)
          · by_cases h2:(s q).op.pure=true
            · exact .inr (.inr (.inl h2))
            · exact absurd ⟨⟨by simpa using h1,by simpa using h2⟩,h⟩ hst
      have hcr:∀ b x y,μ b=some x → (ms (q + 1)).get b=some y → (ms q).has b=true ∨ ((ms q).has b=false ∧ BR P (μ.on (Bk.lv b.room.1 b.room.2)) w x.1 x.2.1 x.2.2 y ∧ ∀ c z,μ c=some z → z.1=x.1 → c=b):=by
        intro b x y hb hy
        cases hh:(ms q).has b with
        | true=>exact .inl rfl
        | false =>
          obtain ⟨i,y',h1,h2,h3,h4,h5,h6,h7⟩:=I.late b x hb hh
          have:i=q:=W.once h2 hq h4 ⟨hh,Mem.get_has hy⟩
          subst this
          rw [hy] at h5; cases h5
          exact .inr ⟨rfl,h6,h7⟩
      refine ih (q:=q + 1) { I with pN:=hq,bef:=?_,aft:=fun k hk=>I.aft k (by omega),blk:=?_,inj:=?_,late:=?_ } (by omega)
      · intro k hk hwr
        by_cases e:k=q
        · subst e
          rcases hS k with h | h
          · exact h
          · exact absurd ⟨hwr,h⟩ hst
        · exact I.bef k (by omega) hwr
      · intro b r base M y hb hy
        rcases hcr b _ y hb hy with h | ⟨_,h,_⟩
        · rw [hcalm b h] at hy; exact I.blk b r base M y hb hy
        · exact h
      · intro b c x z y u hb hc e hy hu hne
        rcases hcr b x y hb hy with h | ⟨_,_,h⟩
        · rcases hcr c z u hc hu with h' | ⟨_,_,h'⟩
          · rw [hcalm b h] at hy
            rw [hcalm c h'] at hu
            exact I.inj b c x z y u hb hc e hy hu hne
          · exact absurd (h' b x hb e) hne
        · exact absurd (h c z hc e.symm).symm hne
      · intro b x hb hh
        have hq':(ms q).has b=false:=by
          cases h:(ms q).has b with
          | false=>rfl
          | true=>rw [(W.go q hq).has b h] at hh; cases hh
        obtain ⟨i,y',h1,h2,h3,h4,h5,h6,h7⟩:=I.late b x hb hq'
        refine ⟨i,y',?_,h2,h3,h4,h5,h6,h7⟩
        by_cases e:i=q
        · subst e; rw [h4.2] at hh; cases hh
        · omega
theorem MInv.noop {μ₀:Mu} {w₀:World} {S:Nat → Prop} {p:Nat} {w:World} {μ:Mu} (I:MInv P N s ms bs μ₀ w₀ S p w μ) {j:Nat} (hj:p ≤ j → bs j=false ∨ (s j).op.pure=true ∨ (s j).op.isAlloc=true) :
    MInv P N s ms bs μ₀ w₀ (fun k=>S k ∨ k=j) p w μ :=
  { I with
    bef:=fun k hk hw=>.inl (I.bef k hk hw)
    aft:=fun k hk hN h=>by rcases h with h | rfl; exact I.aft k hk hN h; exact hj hk
    dom:=fun b x hb=>by
      obtain ⟨h1,h2⟩:=I.dom b x hb
      exact ⟨h1,h2.imp id fun ⟨i,q1,q2,q3⟩=>⟨i,q1,.inl q2,q3⟩⟩
    late:=fun b x hb hh=>by
      obtain ⟨i,y',h1,h2,h3,h4⟩:=I.late b x hb hh
      exact ⟨i,y',h1,h2,.inl h3,h4⟩ }
end
end Go.Sh

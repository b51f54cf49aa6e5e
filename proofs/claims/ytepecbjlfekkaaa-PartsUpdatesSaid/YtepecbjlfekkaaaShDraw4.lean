import Derived.Test.YtepecbjlfekkaaaShDraw3
set_option linter.all false
set_option linter.unusedVariables false
set_option linter.unusedSimpArgs false
set_option autoImplicit false
namespace Go.Sh
variable {P:Program}
section
variable {oc:Bool} {Tb:Tbl} {n nt N:Nat} {ops:Array Oper} {o:Nat → Oper} {s:Nat → SOper} {lo:Nat → List Opd} {anc:Nat → Nat → Prop} {frs:Nat → Fr} {ms:Nat → Mem} {bs:Nat → Bool} {vs:Nat → SV}
variable {μ₀:Mu} {w₀:World} {S:Nat → Prop} {p:Nat} {w:World} {μ:Mu}
theorem alloc_impure {so:SOp} (h:so.isAlloc=true):so.pure=false:=by cases so <;> first | rfl | (simp [SOp.isAlloc] at h)
theorem load_impure {so:SOp} (h:so.isLoad1=true):so.pure=false:=by cases so <;> first | rfl | (simp [SOp.isLoad1] at h)
theorem alloc_noload {so:SOp} (h:so.isAlloc=true):so.isLoad1=false:=by cases so <;> first | rfl | (simp [SOp.isAlloc] at h)
theorem Way.goTo (W:Way N s frs ms bs) {k:Nat} (hk:k ≤ N):MGo (ms 0) (ms k):=by
  induction k with
  | zero=>exact .refl _
  | succ k ih=>exact (ih (by omega)).trans (W.go k (by omega))
theorem Way.calmNW (W:Way N s frs ms bs) {k:Nat} (hk:k < N) (h:¬ Wr s k):∀ c,(ms k).has c=true → (ms (k + 1)).get c=(ms k).get c:=by
  refine W.calm k hk ?_
  by_cases h1:(s k).quiet=true
  · exact .inr (.inl h1)
  · by_cases h2:(s k).op.pure=true
    · exact .inr (.inr (.inl h2))
    · exact absurd ⟨by simpa using h1,by simpa using h2⟩ h
theorem Told.noWr (T:Told P oc Tb n nt N ops o s lo anc frs ms bs vs) (I:MInv P N s ms bs μ₀ w₀ S p w μ) (hcl:∀ i k,i < N → k < N → anc i k → S k → S i) {j:Nat} (hj:j < N) (hn:¬ S j) (hi:(s j).op.pure=false) (hl:(s j).op.isLoad1=false)
    {l:Nat} (h1:j < l) (h2:l < p):¬ Wr s l:=by
  intro hwr
  have hlN:l < N:=Nat.lt_of_lt_of_le h2 I.pN
  rcases T.writer l j hlN hj (by omega) hwr.1 hi with h | h | ⟨_,h⟩ | ⟨_,h,_⟩
  · have:=T.anc_lt l j hlN hj h; omega
  · exact hn (hcl j l hj hlN h (I.bef l h2 hwr))
  · omega
  · rw [hl] at h; cases h
theorem MInv.fresh (W:Way N s frs ms bs) (I:MInv P N s ms bs μ₀ w₀ S p w μ) {j:Nat} (hj:j < N) (hn:¬ S j) {b:Bk} (hb:creates ms j b):μ b=none:=by
  cases hm:μ b with
  | none=>rfl
  | some x =>
    exfalso
    rcases (I.dom b x hm).2 with h | ⟨i,h1,h2,h3⟩
    · have:=W.mono (Nat.zero_le j) (by omega) h
      rw [hb.1] at this; cases this
    · exact hn (W.once h1 hj h3 hb ▸ h2)
theorem MInv.lay (W:Way N s frs ms bs) (T:Told P oc Tb n nt N ops o s lo anc frs ms bs vs) (I:MInv P N s ms bs μ₀ w₀ S p w μ) (hcl:∀ i k,i < N → k < N → anc i k → S k → S i) {j:Nat} (hj:j < N) (hn:¬ S j) (ha:(s j).op.isAlloc=true)
    {bk:Bk} {y:SBk} {obj:Obj} {M:Nat} (h1:(ms j).has bk=false) (h2:(ms (j + 1)).get bk=some y) (hbr:BR P (μ.on (Bk.lv bk.room.1 bk.room.2)) (w.alloc obj) w.heap.size 0 M y) :
    MInv P N s ms bs μ₀ w₀ (fun k=>S k ∨ k=j) p (w.alloc obj) (μ.up bk (w.heap.size,0,M)) ∧ (∀ b x,μ b=some x → μ.up bk (w.heap.size,0,M) b=some x) ∧ μ.up bk (w.heap.size,0,M) bk=some (w.heap.size,0,M):=by
  have hcr:creates ms j bk:=⟨h1,Mem.get_has h2⟩
  have hmu:=I.fresh W hj hn hcr
  have hk:=Mu.up_keep (x:=(w.heap.size,0,M)) hmu
  have hold:∀ r,r < w.heap.size → (w.alloc obj).heap[r]? = w.heap[r]? := fun r hr=>by
    show (w.heap.push obj)[r]? = _
    rw [Array.getElem?_push,if_neg (by omega)]
  have hsz:(w.alloc obj).heap.size=w.heap.size + 1:=by show (w.heap.push obj).size=_; simp
  have hon:∀ (q:Bk → Bool) b x,(μ.on q) b=some x → ((μ.up bk (w.heap.size,0,M)).on q) b=some x:=fun q b x hb=>by
    rw [Mu.on_some] at *; exact ⟨hb.1,hk _ _ hb.2⟩
  have hget:j < p → (ms p).get bk=some y:=fun hjp=>by
    rw [W.stay (i:=j + 1) hjp I.pN hcr.2 fun l h3 h4 h5 _=>W.calmNW (Nat.lt_of_lt_of_le h4 I.pN) (T.noWr I hcl hj hn (alloc_impure ha) (alloc_noload ha) (by omega) h4) bk h5]
    exact h2
  have hlt:∀ y',(ms p).get bk=some y' → j < p:=fun y' hy=>by
    refine Nat.lt_of_not_le fun hpj=>?_
    have:=W.mono hpj (by omega) (Mem.get_has hy)
    rw [h1] at this; cases this
  refine ⟨{ pN:=I.pN,bef:=fun k hk hw=>.inl (I.bef k hk hw),aft:=fun k hk hN h=>?_,dom:=fun b x hb=>?_,keep:=fun b x hb=>hk b x (I.keep b x hb),new:=fun b x hb=>?_,frm:=fun r hr hno=>?_,os:=I.os,tape:=I.tape,out:=I.out,size:=by have:=I.size; omega,
            blk:=fun b r base M' y' hb hy=>?_,inj:=fun b c x z y' u hb hc e hy hu hne=>?_,late:=fun b x hb hh=>?_ },hk,by simp [Mu.up]⟩
  · rcases h with h | rfl
    · exact I.aft k hk hN h
    · exact .inr (.inr ha)
  · unfold Mu.up at hb
    split at hb
    · rename_i e; subst e; cases hb; exact ⟨by show w.heap.size < _; omega,.inr ⟨j,hj,.inr rfl,hcr⟩⟩
    · obtain ⟨q1,q2⟩:=I.dom b x hb
      exact ⟨by omega,q2.imp id fun ⟨i,a,b,c⟩=>⟨i,a,.inl b,c⟩⟩
  · unfold Mu.up at hb
    split at hb
    · rename_i e; subst e; cases hb
      refine .inr ⟨?_,.inl I.size⟩
      cases hh:(ms 0).has b with
      | false=>rfl
      | true=>have:=W.mono (Nat.zero_le j) (by omega) hh; rw [h1] at this; cases this
    · exact I.new b x hb
  · rw [hold r (by have:=I.size; omega)]; exact I.frm r hr hno
  · unfold Mu.up at hb
    split at hb
    · rename_i e; subst e; cases hb
      rw [hget (hlt _ hy)] at hy
      cases hy
      exact hbr.sub (hon _) rfl
    · exact (I.blk b r base M' y' hb hy).sub (hon _) (hold r (I.dom b _ hb).1)
  · unfold Mu.up at hb hc
    split at hb <;> split at hc
    · rename_i e1 e2; exact absurd (e1.trans e2.symm) hne
    · cases hb; have:=(I.dom c z hc).1; simp at e; omega
    · cases hc; have:=(I.dom b x hb).1; simp at e; omega
    · exact I.inj b c x z y' u hb hc e hy hu hne
  · unfold Mu.up at hb
    split at hb
    · rename_i e; subst e; cases hb
      have hpj:p ≤ j:=Nat.le_of_not_lt fun hjp=>by
        have:=Mem.get_has (hget hjp); rw [hh] at this; cases this
      refine ⟨j,y,hpj,hj,.inr rfl,hcr,h2,hbr.sub (hon _) rfl,fun c z hc e=>?_⟩
      unfold Mu.up at hc
      split at hc
      · assumption
      · have:=(I.dom c z hc).1; simp at e; omega
    · obtain ⟨i,y',q1,q2,q3,q4,q5,q6,q7⟩:=I.late b x hb hh
      refine ⟨i,y',q1,q2,.inl q3,q4,q5,q6.sub (hon _) (hold _ (I.dom b x hb).1),fun c z hc e=>?_⟩
      unfold Mu.up at hc
      split at hc
      · cases hc; have:=(I.dom b x hb).1; simp at e; omega
      · exact q7 c z hc e
def Mu.or (μ μ':Mu):Mu:=fun b=>match μ b with
  | some x=>some x
  | none=>μ' b
theorem Mu.or_left {μ μ':Mu} {b:Bk} {x:Nat × Nat × Nat} (h:μ b=some x):(μ.or μ') b=some x:=by simp [Mu.or,h]
theorem Mu.or_inv {μ μ':Mu} {b:Bk} {x:Nat × Nat × Nat} (h:(μ.or μ') b=some x):μ b=some x ∨ (μ b=none ∧ μ' b=some x):=by
  unfold Mu.or at h
  split at h
  · rename_i e; cases h; exact .inl e
  · rename_i e; exact .inr ⟨e,h⟩
theorem MInv.sim (W:Way N s frs ms bs) (I:MInv P N s ms bs μ₀ w₀ S p w μ) {j:Nat} (hjp:j ≤ p) (hc:∀ l,j ≤ l → l < p → ¬ Wr s l):Sim P (μ.on (fun b=>(ms j).has b)) (ms j) w:=by
  have hget:∀ b,(ms j).has b=true → (ms p).get b=(ms j).get b:=fun b hb =>
    W.stay hjp I.pN hb fun l h3 h4 h5 _=>W.calmNW (Nat.lt_of_lt_of_le h4 I.pN) (hc l h3 h4) b h5
  have hjN:j ≤ N:=Nat.le_trans hjp I.pN
  refine ⟨fun b x hb=>?_,fun b r base M y hb hy=>?_,fun b c x z y u hb hc' e hy hu hne=>?_,W.cl j hjN⟩
  · obtain ⟨h1,h2⟩:=Mu.on_some.1 hb
    exact ⟨h1,(I.dom b x h2).1⟩
  · obtain ⟨h1,h2⟩:=Mu.on_some.1 hb
    have h3:=I.blk b r base M y h2 (by rw [hget b h1]; exact hy)
    have h4:=h3.restrict (fun c=>(ms j).has c) (SBk.names_mono (fun c hc=>by simp only [Mem.knows,Bool.and_eq_true] at hc; exact hc.2) (W.cl j hjN b y hy))
    refine h4.sub (fun c z hcz=>?_) rfl
    obtain ⟨q1,q2⟩:=Mu.on_some.1 hcz
    obtain ⟨q3,q4⟩:=Mu.on_some.1 q2
    exact Mu.on_some.2 ⟨q3,Mu.on_some.2 ⟨q1,q4⟩⟩
  · obtain ⟨h1,h2⟩:=Mu.on_some.1 hb
    obtain ⟨h3,h4⟩:=Mu.on_some.1 hc'
    exact I.inj b c x z y u h2 h4 e (by rw [hget b h1]; exact hy) (by rw [hget c h3]; exact hu) hne
theorem MInv.or_right (W:Way N s frs ms bs) (I:MInv P N s ms bs μ₀ w₀ S p w μ) {j:Nat} (hj:j < N) (hn:¬ S j) {μ':Mu} {w':World} (hp:Post P (μ.on (fun b=>(ms j).has b)) (ms j) w μ' (ms (j + 1)) w') {b:Bk} {x:Nat × Nat × Nat} (hb:μ' b=some x) :
    (μ.or μ') b=some x:=by
  cases hm:μ b with
  | none=>simp [Mu.or,hm,hb]
  | some z =>
    cases hh:(ms j).has b with
    | true =>
      have:=hp.keep b z (Mu.on_some.2 ⟨hh,hm⟩)
      rw [hb] at this; cases this
      exact Mu.or_left hm
    | false =>
      have:=I.fresh W hj hn ⟨hh,(hp.sim.dom b x hb).1⟩
      rw [hm] at this; cases this
theorem MInv.quiet (W:Way N s frs ms bs) (I:MInv P N s ms bs μ₀ w₀ S p w μ) {j:Nat} (hjp:j < p) (hn:¬ S j) (hc:∀ l,j ≤ l → l < p → ¬ Wr s l) {μ':Mu} {w':World}
    (hp:Post P (μ.on (fun b=>(ms j).has b)) (ms j) w μ' (ms (j + 1)) w') (hsame:∀ r,r < w.heap.size → w'.heap[r]? = w.heap[r]?)
    (hnew:∀ b x,μ' b=some x → (μ.on (fun b=>(ms j).has b)) b=some x ∨ ((ms j).has b=false ∧ w.heap.size ≤ x.1)) :
    MInv P N s ms bs μ₀ w₀ (fun k=>S k ∨ k=j) p w' (μ.or μ'):=by
  have hj:j < N:=Nat.lt_of_lt_of_le hjp I.pN
  have hr:∀ b x,μ' b=some x → (μ.or μ') b=some x:=fun b x hb=>I.or_right W hj hn hp hb
  have hon:∀ (q:Bk → Bool) b x,(μ.on q) b=some x → ((μ.or μ').on q) b=some x:=fun q b x hb=>by
    rw [Mu.on_some] at *; exact ⟨hb.1,Mu.or_left hb.2⟩
  have hon':∀ (q:Bk → Bool) b x,(μ'.on q) b=some x → ((μ.or μ').on q) b=some x:=fun q b x hb=>by
    rw [Mu.on_some] at *; exact ⟨hb.1,hr _ _ hb.2⟩
  have hnew':∀ b x,μ b=none → μ' b=some x → (ms j).has b=false ∧ w.heap.size ≤ x.1:=fun b x h1 h2=>by
    rcases hnew b x h2 with h | h
    · have:=(Mu.on_some.1 h).2; rw [h1] at this; cases this
    · exact h
  have hget:∀ b,(ms (j + 1)).has b=true → (ms p).get b=(ms (j + 1)).get b:=fun b hb =>
    W.stay hjp I.pN hb fun l h3 h4 h5 _=>W.calmNW (Nat.lt_of_lt_of_le h4 I.pN) (hc l (by omega) h4) b h5
  have hsz:=I.size
  have hsz':=hp.size
  refine { pN:=I.pN,bef:=fun k hk hw=>.inl (I.bef k hk hw),aft:=fun k hk hN h=>?_,dom:=fun b x hb=>?_,keep:=fun b x hb=>Mu.or_left (I.keep b x hb),new:=fun b x hb=>?_,frm:=fun r hr hno=>?_,os:=hp.os.trans I.os,tape:=hp.tape.trans I.tape,out:=hp.out.trans I.out,size:=by omega,
            blk:=fun b r base M' y' hb hy=>?_,inj:=fun b c x z y' u hb hc e hy hu hne=>?_,late:=fun b x hb hh=>?_ }
  · rcases h with h | rfl
    · exact I.aft k hk hN h
    · omega
  · rcases Mu.or_inv hb with h | ⟨h1,h2⟩
    · obtain ⟨q1,q2⟩:=I.dom b x h
      exact ⟨by omega,q2.imp id fun ⟨i,a,b,c⟩=>⟨i,a,.inl b,c⟩⟩
    · have:=hp.sim.dom b x h2
      exact ⟨this.2,.inr ⟨j,hj,.inr rfl,(hnew' b x h1 h2).1,this.1⟩⟩
  · rcases Mu.or_inv hb with h | ⟨h1,h2⟩
    · exact I.new b x h
    · obtain ⟨q1,q2⟩:=hnew' b x h1 h2
      refine .inr ⟨?_,.inl (by omega)⟩
      cases hh:(ms 0).has b with
      | false=>rfl
      | true=>have:=W.mono (Nat.zero_le j) (by omega) hh; rw [q1] at this; cases this
  · rw [hsame r (by omega)]; exact I.frm r hr hno
  · rcases Mu.or_inv hb with h | ⟨h1,h2⟩
    · exact (I.blk b r base M' y' h hy).sub (hon _) (hsame r (I.dom b _ h).1)
    · rw [hget b (hp.sim.dom b _ h2).1] at hy
      exact (hp.sim.blk b r base M' y' h2 hy).sub (hon' _) rfl
  · rcases Mu.or_inv hb with h | ⟨h1,h2⟩
    · rcases Mu.or_inv hc with h' | ⟨h1',h2'⟩
      · exact I.inj b c x z y' u h h' e hy hu hne
      · have:=(I.dom b x h).1; have:=(hnew' c z h1' h2').2; omega
    · rcases Mu.or_inv hc with h' | ⟨h1',h2'⟩
      · have:=(I.dom c z h').1; have:=(hnew' b x h1 h2).2; omega
      · rw [hget b (hp.sim.dom b _ h2).1] at hy
        rw [hget c (hp.sim.dom c _ h2').1] at hu
        exact hp.sim.inj b c x z y' u h2 h2' e hy hu hne
  · rcases Mu.or_inv hb with h | ⟨h1,h2⟩
    · obtain ⟨i,y',q1,q2,q3,q4,q5,q6,q7⟩:=I.late b x h hh
      refine ⟨i,y',q1,q2,.inl q3,q4,q5,q6.sub (hon _) (hsame _ (I.dom b x h).1),fun c z hc e=>?_⟩
      rcases Mu.or_inv hc with h' | ⟨h1',h2'⟩
      · exact q7 c z h' e
      · have:=(I.dom b x h).1; have:=(hnew' c z h1' h2').2; omega
    · have:=W.mono (show j + 1 ≤ p by omega) I.pN (hp.sim.dom b _ h2).1
      rw [hh] at this; cases this
theorem MInv.turn (W:Way N s frs ms bs) (hs₀:Sim P μ₀ (ms 0) w₀) (I:MInv P N s ms bs μ₀ w₀ S p w μ) (hpN:p < N) (hn:¬ S p) {μ':Mu} {w':World} (hp:Post P (μ.on (fun b=>(ms p).has b)) (ms p) w μ' (ms (p + 1)) w') :
    MInv P N s ms bs μ₀ w₀ (fun k=>S k ∨ k=p) (p + 1) w' (μ.or μ'):=by
  have hr:∀ b x,μ' b=some x → (μ.or μ') b=some x:=fun b x hb=>I.or_right W hpN hn hp hb
  have hon':∀ (q:Bk → Bool) b x,(μ'.on q) b=some x → ((μ.or μ').on q) b=some x:=fun q b x hb=>by
    rw [Mu.on_some] at *; exact ⟨hb.1,hr _ _ hb.2⟩
  have hon:∀ (q:Bk → Bool) b x,(μ.on q) b=some x → ((μ.or μ').on q) b=some x:=fun q b x hb=>by
    rw [Mu.on_some] at *; exact ⟨hb.1,Mu.or_left hb.2⟩
  have hgo:=W.goTo (show p ≤ N by omega)
  have hsz:=I.size
  have hsz':=hp.size
  have hnew':∀ b x,μ b=none → μ' b=some x → (ms p).has b=false ∧ (w.heap.size ≤ x.1 ∨ ∃ c y,μ c=some y ∧ y.1=x.1 ∧ (ms p).has c=true ∧ (ms p).wr c):=fun b x h1 h2=>by
    rcases hp.new b x h2 with h | ⟨h,h'⟩
    · have:=(Mu.on_some.1 h).2; rw [h1] at this; cases this
    · refine ⟨h,h'.imp id fun ⟨c,y,q1,q2,q3⟩=>⟨c,y,(Mu.on_some.1 q1).2,q2,(Mu.on_some.1 q1).1,q3⟩⟩
  have hat:∀ b x,(μ.or μ') b=some x → (ms (p + 1)).has b=true → μ' b=some x:=fun b x hb hh=>by
    rcases Mu.or_inv hb with h | ⟨_,h⟩
    · cases hhp:(ms p).has b with
      | true=>exact hp.keep b x (Mu.on_some.2 ⟨hhp,h⟩)
      | false =>
        exfalso
        obtain ⟨i,y',q1,q2,q3,q4,_⟩:=I.late b x h hhp
        have:i=p:=W.once q2 hpN q4 ⟨hhp,hh⟩
        exact hn (this ▸ q3)
    · exact h
  refine { pN:=hpN,bef:=fun k hk hw=>?_,aft:=fun k hk hN h=>?_,dom:=fun b x hb=>?_,keep:=fun b x hb=>Mu.or_left (I.keep b x hb),new:=fun b x hb=>?_,frm:=fun r hr hno=>?_,os:=hp.os.trans I.os,tape:=hp.tape.trans I.tape,out:=hp.out.trans I.out,size:=by omega,
            blk:=fun b r base M' y' hb hy=>?_,inj:=fun b c x z y' u hb hc e hy hu hne=>?_,late:=fun b x hb hh=>?_ }
  · by_cases e:k=p
    · exact .inr e
    · exact .inl (I.bef k (by omega) hw)
  · rcases h with h | rfl
    · exact I.aft k (by omega) hN h
    · omega
  · rcases Mu.or_inv hb with h | ⟨h1,h2⟩
    · obtain ⟨q1,q2⟩:=I.dom b x h
      exact ⟨by omega,q2.imp id fun ⟨i,a,b,c⟩=>⟨i,a,.inl b,c⟩⟩
    · have:=hp.sim.dom b x h2
      exact ⟨this.2,.inr ⟨p,hpN,.inr rfl,(hnew' b x h1 h2).1,this.1⟩⟩
  · rcases Mu.or_inv hb with h | ⟨h1,h2⟩
    · exact I.new b x h
    · obtain ⟨q1,q2⟩:=hnew' b x h1 h2
      refine .inr ⟨?_,?_⟩
      · cases hh:(ms 0).has b with
        | false=>rfl
        | true=>have:=W.mono (Nat.zero_le p) (by omega) hh; rw [q1] at this; cases this
      · rcases q2 with q2 | ⟨c,y,hc,hy,hhc,hwc⟩
        · exact .inl (by omega)
        · rcases I.new c y hc with h3 | ⟨_,h3 | ⟨c',y',h4,h5,h6⟩⟩
          · exact .inr ⟨c,y,h3,hy,hgo.wr c (hs₀.dom c y h3).1 hwc⟩
          · exact .inl (hy ▸ h3)
          · exact .inr ⟨c',y',h4,h5.trans hy,h6⟩
  · rw [hp.frm r (by omega) ?_,I.frm r hr hno]
    intro c y hc hy hwc
    have hc:=(Mu.on_some.1 hc).2
    rcases I.new c y hc with h3 | ⟨_,h3 | ⟨c',y',h4,h5,h6⟩⟩
    · exact hno c y h3 hy (hgo.wr c (hs₀.dom c y h3).1 hwc)
    · omega
    · exact hno c' y' h4 (h5.trans hy) h6
  · exact (hp.sim.blk b r base M' y' (hat b _ hb (Mem.get_has hy)) hy).sub (hon' _) rfl
  · exact hp.sim.inj b c x z y' u (hat b x hb (Mem.get_has hy)) (hat c z hc (Mem.get_has hu)) e hy hu hne
  · rcases Mu.or_inv hb with h | ⟨h1,h2⟩
    · have hhp:(ms p).has b=false:=by
        cases hq:(ms p).has b with
        | false=>rfl
        | true=>rw [(W.go p hpN).has b hq] at hh; cases hh
      obtain ⟨i,y',q1,q2,q3,q4,q5,q6,q7⟩:=I.late b x h hhp
      have hip:p + 1 ≤ i:=by
        by_cases e:i=p
        · exact absurd (e ▸ q3) hn
        · omega
      have hal:∀ c z,μ c=some z → z.1=x.1 → (ms p).has c=true → False:=fun c z hc e hh'=>by
        have:=q7 c z hc e
        subst this
        rw [hhp] at hh'; cases hh'
      have hx:=(I.dom b x h).1
      refine ⟨i,y',hip,q2,.inl q3,q4,q5,q6.sub (hon _) (hp.frm _ hx fun c z hc e _=>hal c z (Mu.on_some.1 hc).2 e (Mu.on_some.1 hc).1),fun c z hc e=>?_⟩
      rcases Mu.or_inv hc with h' | ⟨h1',h2'⟩
      · exact q7 c z h' e
      · exfalso
        rcases (hnew' c z h1' h2').2 with h3 | ⟨c',y'',h4,h5,h6,_⟩
        · omega
        · exact hal c' y'' h4 (h5.trans e) h6
    · have:=(hp.sim.dom b x h2).1
      rw [hh] at this; cases this
end
end Go.Sh

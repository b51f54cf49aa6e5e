import Derived.Test.YtepecbjlfekkaaaShAll
set_option linter.all false
set_option linter.unusedVariables false
set_option linter.unusedSimpArgs false
set_option autoImplicit false
namespace Go.Sh
def Grows {α:Type} (f:Nat → Option α):Prop:=∀ n r,f n=some r → f (n + 1)=some r
theorem Grows.le {α:Type} {f:Nat → Option α} (h:Grows f) {n m:Nat} (hnm:n ≤ m) {r:α} (hr:f n=some r):f m=some r:=by
  induction m with
  | zero => have:n=0:=by omega
            subst this; exact hr
  | succ m ih =>
    by_cases e:n=m + 1
    · subst e; exact hr
    · exact h m r (ih (by omega))
open Classical in
noncomputable def lim {α:Type} (f:Nat → Option α):Option α:=if h:∃ n r,f n=some r then f (Classical.choose h) else none
theorem lim_iff {α:Type} {f:Nat → Option α} (h:Grows f) {r:α}:lim f=some r ↔ ∃ n,f n=some r:=by
  unfold lim
  constructor
  · intro hl
    split at hl
    · exact ⟨_,hl⟩
    · cases hl
  · rintro ⟨n,hn⟩
    have hex:∃ n r,f n=some r:=⟨n,r,hn⟩
    rw [dif_pos hex]
    obtain ⟨r',hr'⟩:=Classical.choose_spec hex
    have h1:=h.le (Nat.le_max_left n (Classical.choose hex)) hn
    have h2:=h.le (Nat.le_max_right n (Classical.choose hex)) hr'
    rw [hr',← h2,h1]
theorem lim_ext {α:Type} {x y:Option α} (h:∀ r,x=some r ↔ y=some r):x=y:=by
  cases hx:x with
  | none =>
    cases hy:y with
    | none=>rfl
    | some r=>have:=(h r).2 hy; rw [hx] at this; cases this
  | some r=>exact ((h r).1 hx).symm
theorem lim_const {α:Type} (x:Option α):lim (fun _=>x)=x:=lim_ext fun r=>by
  rw [lim_iff (f:=fun _=>x) (fun _ _ h=>h)]
  exact ⟨fun ⟨_,h⟩=>h,fun h=>⟨0,h⟩⟩
theorem lim_succ {α:Type} {f:Nat → Option α} (h:Grows f):lim (fun n=>f (n + 1))=lim f:=lim_ext fun r=>by
  rw [lim_iff (f:=fun n=>f (n + 1)) (fun n r hr=>h _ r hr),lim_iff h]
  exact ⟨fun ⟨n,hn⟩=>⟨n + 1,hn⟩,fun ⟨n,hn⟩=>⟨n,h n r hn⟩⟩
theorem Grows.bind {α β:Type} {f:Nat → Option α} {g:Nat → α → Option β} (hf:Grows f) (hg:∀ a,Grows fun n=>g n a):Grows fun n=>(f n).bind (g n):=by
  intro n r h
  simp only [Option.bind_eq_some_iff] at h ⊢
  obtain ⟨a,h1,h2⟩:=h
  exact ⟨a,hf n a h1,hg a n r h2⟩
theorem Grows.map {α β:Type} {f:Nat → Option α} {g:α → β} (hf:Grows f):Grows fun n=>(f n).map g:=by
  intro n r h
  simp only [Option.map_eq_some_iff] at h ⊢
  obtain ⟨a,h1,h2⟩:=h
  exact ⟨a,hf n a h1,h2⟩
theorem Grows.const {α:Type} (x:Option α):Grows fun _=>x:=fun _ _ h=>h
theorem lim_bind {α β:Type} {f:Nat → Option α} {g:Nat → α → Option β} (hf:Grows f) (hg:∀ a,Grows fun n=>g n a):lim (fun n=>(f n).bind (g n))=(lim f).bind fun a=>lim fun n=>g n a:=lim_ext fun r=>by
  rw [lim_iff (hf.bind hg)]
  simp only [Option.bind_eq_some_iff,lim_iff hf,lim_iff (hg _)]
  constructor
  · rintro ⟨n,a,h1,h2⟩; exact ⟨a,⟨n,h1⟩,⟨n,h2⟩⟩
  · rintro ⟨a,⟨n,h1⟩,⟨m,h2⟩⟩
    exact ⟨max n m,a,hf.le (Nat.le_max_left _ _) h1,(hg a).le (Nat.le_max_right _ _) h2⟩
theorem lim_map {α β:Type} {f:Nat → Option α} {g:α → β} (hf:Grows f):lim (fun n=>(f n).map g)=(lim f).map g:=lim_ext fun r=>by
  rw [lim_iff hf.map]
  simp only [Option.map_eq_some_iff,lim_iff hf]
  constructor
  · rintro ⟨n,a,h1,h2⟩; exact ⟨a,⟨n,h1⟩,h2⟩
  · rintro ⟨a,⟨n,h1⟩,h2⟩; exact ⟨n,a,h1,h2⟩
structure GrowsAll (F:Tbl) (n:Nat):Prop where
  c:∀ c fr m r,runC F n c fr m=some r → runC F (n + 1) c fr m=some r
  l:∀ k ks c fr m r,runL F n k ks c fr m=some r → runL F (n + 1) k ks c fr m=some r
  o:∀ d l fr m r,runO F n d l fr m=some r → runO F (n + 1) d l fr m=some r
  p:∀ op fr m r,runP F n op fr m=some r → runP F (n + 1) op fr m=some r
  v:∀ fv args m r,runV F n fv args m=some r → runV F (n + 1) fv args m=some r
  f:∀ f args m r,callF F n f args m=some r → callF F (n + 1) f args m=some r
  m:∀ b k it nx more out next pair ks asg body es fr m r,runM F n b k it nx more out next pair ks asg body es fr m=some r → runM F (n + 1) b k it nx more out next pair ks asg body es fr m=some r
theorem bind_grow {α β:Type} {x x':Option α} {g g':α → Option β} {r:β} (h:x.bind g=some r) (hx:∀ a,x=some a → x'=some a) (hg:∀ a r,g a=some r → g' a=some r):x'.bind g'=some r:=by
  simp only [Option.bind_eq_some_iff] at h ⊢
  obtain ⟨a,h1,h2⟩:=h
  exact ⟨a,hx a h1,hg a r h2⟩
theorem map_grow {α β:Type} {x x':Option α} {g:α → β} {r:β} (h:x.map g=some r) (hx:∀ a,x=some a → x'=some a):x'.map g=some r:=by
  simp only [Option.map_eq_some_iff] at h ⊢
  obtain ⟨a,h1,h2⟩:=h
  exact ⟨a,hx a h1,h2⟩
theorem allI_grow {α:Type} {n:Nat} {f g:Nat → Option α} {r:α} (hn:0 < n) (h:allI n f=some r) (hg:∀ i r,f i=some r → g i=some r):allI n g=some r :=
  allI_intro hn fun i hi=>hg i r (allI_some h i hi)
theorem growsAll (F:Tbl):∀ n,GrowsAll F n:=by
  intro n
  induction n with
  | zero=>refine ⟨?_,?_,?_,?_,?_,?_,?_⟩ <;> intros <;> rename_i h <;> simp [runC,runL,runO,runP,runV,callF,runM] at h
  | succ n ih =>
    refine ⟨?_,?_,?_,?_,?_,?_,?_⟩
    · intro c fr m r h
      cases c with
      | skip=>rw [runC] at h ⊢; exact h
      | region d ops=>rw [runC] at h ⊢; exact map_grow h (ih.o _ _ _ _)
      | seq a b =>
        rw [runC] at h ⊢
        refine bind_grow h (ih.c _ _ _) fun ⟨e,fr,m⟩ r h=>?_
        cases e with
        | normal=>exact ih.c _ _ _ _ h
        | exit id=>exact h
        | ret=>exact h
      | cond c a b =>
        rw [runC] at h ⊢
        generalize c.ev fr=x at h ⊢
        cases x with
        | bool t=>cases t <;> exact ih.c _ _ _ _ h
        | _=>exact h
      | block id c=>rw [runC] at h ⊢; exact map_grow h (ih.c _ _ _)
      | loop ks c=>rw [runC] at h ⊢; exact ih.l _ _ _ _ _ _ h
      | rangef f ps a b =>
        rw [runC] at h ⊢
        refine bind_grow h (fun _ h=>h) fun ⟨b',m'⟩ r h=>?_
        refine bind_grow h (fun a h=>?_) fun _ _ h=>h
        generalize f.ev fr=x at h ⊢
        cases x with
        | fn g first caps=>exact ih.f _ _ _ _ h
        | _=>exact h
      | exit id=>rw [runC] at h ⊢; exact h
      | ret=>rw [runC] at h ⊢; exact h
      | kp ks c=>rw [runC] at h ⊢; exact map_grow h (ih.c _ _ _)
      | rangem mp it nx more out next pair ks pre asg body =>
        rw [runC] at h ⊢
        refine bind_grow h (ih.o _ _ _ _) fun ⟨fr,m⟩ r h=>?_
        simp only at h ⊢
        split at h
        · split at h
          · exact bind_grow h (fun _ h=>h) fun ⟨b,m1⟩ r h=>map_grow h (ih.m _ _ _ _ _ _ _ _ _ _ _ _ _ _)
          · cases h
        · cases h
    · intro k ks c fr m r h
      unfold runL at h ⊢
      refine bind_grow h (fun _ h=>h) fun ⟨fr,m⟩ r h=>?_
      refine bind_grow h (ih.c _ _ _) fun ⟨e,fr,m⟩ r h=>?_
      cases e with
      | normal=>exact ih.l _ _ _ _ _ _ h
      | exit id=>exact h
      | ret=>exact h
    · intro d l fr m r h
      cases l with
      | nil=>rw [runO] at h ⊢; exact h
      | cons o l =>
        rw [runO] at h ⊢
        refine bind_grow h (fun _ h=>h) fun w r h=>?_
        cases w with
        | false=>exact ih.o _ _ _ _ _ h
        | true =>
          refine bind_grow h (fun a h=>?_) fun ⟨v,m⟩ r h=>ih.o _ _ _ _ _ h
          split at h
          · rename_i hq; rw [if_pos hq]; exact map_grow h (ih.p _ _ _)
          · rename_i hq; rw [if_neg hq]; exact ih.p _ _ _ _ h
    · intro op fr m r h
      cases op with
      | call f args=>simp only [runP] at h ⊢; exact ih.f _ _ _ _ h
      | callv fv args=>simp only [runP] at h ⊢; exact ih.v _ _ _ _ h
      | callL lo f args =>
        simp only [runP] at h ⊢
        exact bind_grow h (ih.f _ _ _) fun _ _ h=>h
      | _=>simp only [runP] at h ⊢; exact h
    · intro fv args m r h
      cases fv with
      | fn f first caps=>simp only [runV] at h ⊢; exact ih.f _ _ _ _ h
      | yld b =>
        simp only [runV] at h ⊢
        split at h
        · split at h
          · rename_i hg hc
            simp only [hg,if_pos hc]
            refine bind_grow h (ih.c _ _ _) fun ⟨e,fr,m1⟩ r h=>?_
            cases e with
            | exit id=>exact h
            | ret=>exact h
            | normal =>
              simp only at h ⊢
              split at h
              · split at h
                · rename_i hr; rw [if_pos hr]; exact bind_grow h (ih.c _ _ _) fun _ _ h=>h
                · cases h
              · cases h
          · cases h
        · cases h
      | _=>simp [runV] at h
    · intro f args m r h
      rw [callF] at h ⊢
      split at h
      · split at h
        · rename_i hc; rw [if_pos hc]; exact bind_grow h (ih.c _ _ _) fun _ _ h=>h
        · cases h
      · cases h
    · intro b k it nx more out next pair ks asg body es fr m r h
      rw [runM] at h ⊢
      refine bind_grow h (fun _ h=>h) fun ⟨fr,m⟩ r h=>?_
      cases es with
      | nil=>exact h
      | cons x ys =>
        simp only at h ⊢
        refine allI_grow (Nat.succ_pos _) h fun i r h=>?_
        split at h
        · refine bind_grow h (ih.o _ _ _ _) fun ⟨fr,m⟩ r h=>?_
          refine bind_grow h (ih.c _ _ _) fun ⟨e,fr,m⟩ r h=>?_
          cases e with
          | normal=>exact ih.m _ _ _ _ _ _ _ _ _ _ _ _ _ _ _ h
          | ret=>exact h
          | exit id =>
            simp only at h ⊢
            split at h
            · rename_i hid; rw [if_pos hid]; exact ih.m _ _ _ _ _ _ _ _ _ _ _ _ _ _ _ h
            · rename_i hid; rw [if_neg hid]; exact h
        · cases h
end Go.Sh

import Derived.Test.YtepecbjlfekkaaaShMo6
set_option linter.all false
set_option linter.unusedVariables false
set_option linter.unusedSimpArgs false
set_option autoImplicit false
namespace Go.Sh
variable {P:Program}
theorem push_get (m:Mem) (b:Bk):m.push.get b=m.get b:=by
  cases b with
  | hp n v=>rfl
  | st d i =>
    simp only [Mem.push,Mem.get,stkGet]
    split
    · rename_i e
      subst e
      cases h:stkGet m.stk m.stk.length i with
      | none=>simp
      | some x=>have:=stkGet_lt h; omega
    · rfl
theorem push_has (m:Mem) (b:Bk):m.push.has b=m.has b:=by
  cases b with
  | hp n v=>rfl
  | st d i =>
    have:=push_get m (.st d i)
    simp only [Mem.get] at this
    simp only [Mem.has,this]
theorem push_wr (m:Mem) (b:Bk):m.push.wr b ↔ m.wr b:=by
  unfold Mem.wr
  rw [push_get]
  have:m.push.may b=m.may b:=Mem.may_eq rfl rfl b
  rw [this]
theorem Sim.push {μ:Mu} {m:Mem} {w:World} (h:Sim P μ m w):Sim P μ m.push w :=
  ⟨fun b x hb=>by rw [push_has]; exact h.dom b x hb,fun b r base N x hb hx=>h.blk b r base N x hb (by rw [push_get] at hx; exact hx),
   fun b c x z y u hb hc e hy hu hne=>h.inj b c x z y u hb hc e (by rw [push_get] at hy; exact hy) (by rw [push_get] at hu; exact hu) hne,
   fun b y hy=>SBk.names_mono (Mem.knows_mono fun c hc=>by rw [push_has]; exact hc) (h.cl b y (by rw [push_get] at hy; exact hy))⟩
theorem Old.push {B D:Nat} {m:Mem} (h:Old B D m):Old B D m.push:=fun b y ho hy=>h b y ho (by rw [push_get] at hy; exact hy)
def stay (tr:Bool) (B D:Nat):Bk → Bool
  | .hp n _=>!tr || decide (n < B)
  | .st d _=>decide (d < D)
theorem has_stay {m:Mem} {b:Bk} (h:m.has b=true) (tr:Bool):stay tr m.heap.length m.stk.length b=true:=by
  cases b with
  | hp n v =>
    simp only [Mem.has] at h
    cases hh:m.heap[n]? with
    | none=>simp [hh] at h
    | some y=>have:=(List.getElem?_eq_some_iff.1 hh).1; simp [stay,this]
  | st d i =>
    simp only [Mem.has] at h
    cases hg:stkGet m.stk d i with
    | none=>simp [hg] at h
    | some x=>have:=stkGet_lt hg; simp [stay,this]
theorem escMin_ok {B:Nat} {a b:Option Nat} (h:escOk B (escMin a b)=true):escOk B a=true ∧ escOk B b=true:=by
  cases a <;> cases b <;> simp [escMin,escOk] at h ⊢ <;> omega
theorem lv_st {d i e j:Nat}:(Bk.st e j).lv d i=true ↔ e < d ∨ (e=d ∧ j < i):=by simp [Bk.lv]
theorem stay_st {tr:Bool} {B D e j:Nat}:stay tr B D (.st e j)=true ↔ e < D:=by simp [stay]
theorem stay_hp {tr:Bool} {B D n v:Nat}:stay tr B D (.hp n v)=true ↔ (tr=true → n < B):=by cases tr <;> simp [stay]
theorem Mem.lvl_cons {m:Mem} {f:List SBk} {r:List (List SBk)} (h:m.stk=f :: r):m.lvl=(r.length,f.length):=by simp [Mem.lvl,h]
theorem Post.back {μ μ₁:Mu} {m m₁:Mem} {w w₁:World} {v:SV} {u:Value} {h:Nat} (hs:Sim P μ m w) (hp:Post P μ m.push w μ₁ m₁ w₁) (hv:VR μ₁ v u) (hl:v.lv m.stk.length 0=true) (hh:v.hx ≤ h) :
    ∃ μ',VR μ' v u ∧ Post P μ m w μ' (m₁.back m h) w₁:=by
  have hdep:m₁.stk.length=m.stk.length + 1:=by rw [hp.go.depth]; simp [Mem.push]
  have hheap:m.heap.length ≤ m₁.heap.length:=hp.go.heap
  obtain ⟨tr,htr⟩:∃ tr:Bool,tr=decide (h ≤ m.heap.length ∧ escOk m.heap.length m₁.esc=true):=⟨_,rfl⟩
  have hbh:(m₁.back m h).heap=if tr then m₁.heap.take m.heap.length else m₁.heap:=by
    simp only [Mem.back,htr,decide_eq_true_eq]
  have hbs:(m₁.back m h).stk=m₁.stk.tail:=rfl
  have hget:∀ b,stay tr m.heap.length m.stk.length b=true → (m₁.back m h).get b=m₁.get b:=by
    intro b hb
    cases b with
    | hp n v =>
      simp only [Mem.get,hbh]
      cases tr with
      | false=>rfl
      | true =>
        have hn:n < m.heap.length:=by simpa [stay] using hb
        simp [List.getElem?_take,hn]
    | st d i =>
      have hd:d < m.stk.length:=by simpa [stay] using hb
      simp only [Mem.get,hbs]
      cases hst:m₁.stk with
      | nil=>simp [hst] at hdep
      | cons f r =>
        have:r.length=m.stk.length:=by simp [hst] at hdep; exact hdep
        simp only [List.tail_cons,stkGet]
        rw [if_neg (by omega)]
  have hget':∀ b y,(m₁.back m h).get b=some y → stay tr m.heap.length m.stk.length b=true:=by
    intro b y hy
    cases b with
    | hp n v =>
      simp only [Mem.get,hbh] at hy
      cases tr with
      | false=>rfl
      | true =>
        by_cases hn:n < m.heap.length
        · simp [stay,hn]
        · simp [List.getElem?_take,hn] at hy
    | st d i =>
      simp only [Mem.get,hbs] at hy
      have:=stkGet_lt hy
      have:m₁.stk.tail.length=m.stk.length:=by simp; omega
      simp [stay]; omega
  have hhas:∀ b,stay tr m.heap.length m.stk.length b=true → (m₁.back m h).has b=m₁.has b:=by
    intro b hb
    cases b with
    | hp n v =>
      simp only [Mem.has,hbh]
      cases tr with
      | false=>rfl
      | true =>
        have hn:n < m.heap.length:=by simpa [stay] using hb
        simp [List.getElem?_take,hn]
    | st d i=>have:=hget _ hb; simp only [Mem.get] at this; simp only [Mem.has,this]
  have hwr:∀ b,(m₁.back m h).wr b → m₁.wr b:=by
    intro b ⟨y,hy,h1,h2⟩
    exact ⟨y,(hget b (hget' b y hy)).symm.trans hy,h1,(Mem.may_eq (m:=m₁) rfl rfl b) ▸ h2⟩
  have hold:tr=true → Old m.heap.length m.stk.length m₁:=by
    intro ht
    rw [htr,decide_eq_true_eq] at ht
    exact hp.old _ _ (Nat.le_refl _) (by simp [Mem.push]) ((hs.oldNow _).push) ht.2
  have hnames:∀ b x,stay tr m.heap.length m.stk.length b=true → m₁.get b=some x → x.names (fun c=>m₁.knows b c && stay tr m.heap.length m.stk.length c):=by
    intro b x h1 hx
    have hkn:=hp.sim.cl b x hx
    have hst:∀ c:Bk,m₁.knows b c=true → (∀ n v,c=.hp n v → tr=true → n < m.heap.length) → (m₁.knows b c && stay tr m.heap.length m.stk.length c)=true:=by
      intro c hc hn
      rw [hc,Bool.true_and]
      simp only [Mem.knows,Bool.and_eq_true] at hc
      have hc:=hc.1
      cases c with
      | hp n v =>
        cases tr with
        | false=>rfl
        | true=>simpa [stay] using hn n v rfl rfl
      | st d i =>
        cases b with
        | hp n v=>simp [Bk.room,Bk.lv] at hc
        | st e j=>rw [lv_st] at hc; rw [stay_st] at h1 ⊢; simp only [Bk.room] at hc; omega
    cases tr with
    | false=>exact SBk.names_mono (fun c hc=>hst c hc (fun _ _ _ h=>by cases h)) hkn
    | true =>
      have hb2:b.old m.heap.length m.stk.length=true:=by cases b <;> simpa [stay,Bk.old] using h1
      have hlow:=hold rfl b _ hb2 hx
      have both:x.names (fun c=>m₁.knows b c && lowB m.heap.length c):=by
        cases x with
        | cells rw c=>show SV.alls _ _=true; rw [SV.alls_and]; simp [show SV.alls (m₁.knows b) c=true from hkn,show SV.alls (lowB m.heap.length) c=true from hlow]
        | map es=>exact fun e he=>⟨by rw [SV.all_and]; simp [(hkn e he).1,(hlow e he).1],by rw [SV.all_and]; simp [(hkn e he).2,(hlow e he).2]⟩
        | loop l=>exact fun t=>by rw [SV.all_and]; simp [hkn t,hlow t]
        | iter=>trivial
      refine SBk.names_mono (fun c hc=>?_) both
      simp only [Bool.and_eq_true] at hc
      refine hst c hc.1 (fun n v e _=>?_)
      subst e
      have h5:n + 1 ≤ m.heap.length:=of_decide_eq_true hc.2
      omega
  refine ⟨μ₁.on (stay tr m.heap.length m.stk.length),hv.restrict _ ?_,?_⟩
  · -- the result
    have h1:v.all (Bk.lv m.stk.length 0)=true:=by rw [← SV.lv_all]; exact hl
    cases tr with
    | false=>exact SV.all_mono (fun b hb=>by
        cases b with
        | hp n v=>rw [stay_hp]; intro h; cases h
        | st e j=>rw [lv_st] at hb; rw [stay_st]; omega) v h1
    | true =>
      rw [eq_comm,decide_eq_true_eq] at htr
      have h2:v.all (fun b=>decide (b.hx ≤ m.heap.length))=true:=(SV.hx_all _ v).1 (by omega)
      have h3:v.all (fun b=>b.lv m.stk.length 0 && decide (b.hx ≤ m.heap.length))=true:=by rw [SV.all_and]; simp [h1,h2]
      exact SV.all_mono (fun b hb=>by
        simp only [Bool.and_eq_true,decide_eq_true_eq] at hb
        cases b with
        | hp n v=>rw [stay_hp]; intro _; have:=hb.2; simp only [Bk.hx] at this; omega
        | st e j=>rw [lv_st] at hb; rw [stay_st]; omega) v h3
  · refine { sim:=⟨?_,?_,?_,?_⟩,go:=⟨?_,hp.go.hb,hp.go.db,?_,?_,?_,?_,fun B hB=>(escMin_ok hB).1,?_⟩,keep:=?_,new:=?_,frm:=?_,os:=hp.os,tape:=hp.tape,out:=hp.out,size:=hp.size,old:=?_ }
    · intro b x hb
      obtain ⟨h1,h2⟩:=Mu.on_some.1 hb
      have:=hp.sim.dom b x h2
      exact ⟨by rw [hhas b h1]; exact this.1,this.2⟩
    · intro b r base N x hb hx
      obtain ⟨h1,h2⟩:=Mu.on_some.1 hb
      rw [hget b h1] at hx
      have hbr:=hp.sim.blk b r base N x h2 hx
      have hnm:x.names (stay tr m.heap.length m.stk.length):=SBk.names_mono (fun c hc=>by simp only [Bool.and_eq_true] at hc; exact hc.2) (hnames b x h1 hx)
      refine (hbr.restrict _ hnm).sub (fun c z hc=>?_) rfl
      rw [Mu.on_some,Mu.on_some] at *
      exact ⟨hc.2.1,hc.1,hc.2.2⟩
    · intro b c x z y u' hb hc e hy hu hne
      exact hp.sim.inj b c x z y u' (Mu.on_some.1 hb).2 (Mu.on_some.1 hc).2 e (by rw [← hget b (Mu.on_some.1 hb).1]; exact hy) (by rw [← hget c (Mu.on_some.1 hc).1]; exact hu) hne
    · intro b y hy
      have hb:=hget' b y hy
      rw [hget b hb] at hy
      refine SBk.names_mono (fun c hc=>?_) (hnames b y hb hy)
      simp only [Bool.and_eq_true,Mem.knows] at hc ⊢
      exact ⟨hc.1.1,by rw [hhas c hc.2]; exact hc.1.2⟩
    · rw [hbs,List.length_tail]; omega
    · rw [hbh]
      split
      · rw [List.length_take]; omega
      · exact hheap
    · intro b hb
      rw [hhas b (has_stay hb tr)]
      exact hp.go.has b (by rw [push_has]; exact hb)
    · intro b r hb
      obtain ⟨r',hr'⟩:=hp.go.loop b r (by rw [push_get]; exact hb)
      exact ⟨r',by rw [hget b (has_stay (Mem.get_has hb) tr)]; exact hr'⟩
    · intro b hb hw
      exact (push_wr m b).1 (hp.go.wr b (by rw [push_has]; exact hb) (hwr b hw))
    · intro b hb hm
      rw [hget b (has_stay hb tr),hp.go.same b (by rw [push_has]; exact hb) (by rw [Mem.may_eq (m:=m) (m':=m.push) rfl rfl]; exact hm),push_get]
    · intro b x hb
      exact Mu.on_some.2 ⟨has_stay (hs.dom b x hb).1 tr,hp.keep b x hb⟩
    · intro b x hb
      rcases hp.new b x (Mu.on_some.1 hb).2 with h1 | ⟨h1,h2⟩
      · exact .inl h1
      · rw [push_has] at h1
        rcases h2 with h2 | ⟨c,y,hc,hy,hw⟩
        · exact .inr ⟨h1,.inl h2⟩
        · exact .inr ⟨h1,.inr ⟨c,y,hc,hy,(push_wr m c).1 hw⟩⟩
    · intro r hr hno
      exact hp.frm r hr fun c y hc hy hw=>hno c y hc hy ((push_wr m c).1 hw)
    · intro B D hB hD ho he b y hbo hy
      rw [hget b (hget' b y hy)] at hy
      exact hp.old B D hB (by simp [Mem.push]; omega) ho.push (escMin_ok he).2 b y hbo hy
theorem Post.trimK {μ μ₁:Mu} {m m₁:Mem} {w w₁:World} (hs:Sim P μ m w) (hp:Post P μ m w μ₁ m₁ w₁) {kk:Nat} (hkk:m.lvl.2 ≤ kk) :
    Post P μ m w (μ₁.on (Bk.lv m₁.lvl.1 kk)) (m₁.trim kk) w₁:=by
  have hdep:=hp.go.depth
  have hl1:m₁.lvl.1=m.lvl.1:=by rw [Mem.lvl_length,Mem.lvl_length,hdep]
  have hget:∀ b,b.lv m₁.lvl.1 kk=true → (m₁.trim kk).get b=m₁.get b:=by
    intro b hb
    cases b with
    | hp n v=>unfold Mem.trim; split <;> rfl
    | st d i =>
      unfold Mem.trim
      split
      · rename_i f r hst
        simp only [Mem.get,hst,stkGet]
        split
        · rename_i e
          subst e
          have:i < kk:=by rw [lv_st,Mem.lvl_cons hst] at hb; simp only at hb; omega
          simp [List.getElem?_take,this]
        · rfl
      · rfl
  have hget':∀ b y,(m₁.trim kk).get b=some y → b.lv m₁.lvl.1 kk=true:=by
    intro b y hy
    cases b with
    | hp n v=>rfl
    | st d i =>
      unfold Mem.trim at hy
      split at hy
      · rename_i f r hst
        simp only [Mem.get,stkGet] at hy
        split at hy
        · rename_i e
          subst e
          by_cases hi:i < kk
          · rw [lv_st,Mem.lvl_cons hst]; exact .inr ⟨rfl,hi⟩
          · simp [List.getElem?_take,hi] at hy
        · have:=stkGet_lt hy
          rw [lv_st,Mem.lvl_cons hst]; exact .inl this
      · rename_i hst
        simp [Mem.get,hst,stkGet] at hy
  have hhas:∀ b,b.lv m₁.lvl.1 kk=true → (m₁.trim kk).has b=m₁.has b:=by
    intro b hb
    cases b with
    | hp n v=>unfold Mem.trim; split <;> rfl
    | st d i=>have:=hget _ hb; simp only [Mem.get] at this; simp only [Mem.has,this]
  have hml:∀ b,m.has b=true → b.lv m₁.lvl.1 kk=true:=fun b hb=>by
    have h1:=Mem.has_lv hb
    rw [hl1]
    cases b with
    | hp n v=>rfl
    | st d i=>rw [lv_st] at h1 ⊢; omega
  have hfld:(m₁.trim kk).hb=m₁.hb ∧ (m₁.trim kk).db=m₁.db ∧ (m₁.trim kk).esc=m₁.esc ∧ (m₁.trim kk).heap=m₁.heap ∧ (m₁.trim kk).stk.length=m₁.stk.length:=by
    unfold Mem.trim; split <;> simp_all
  obtain ⟨f1,f2,f3,f4,f5⟩:=hfld
  have hwr:∀ b,(m₁.trim kk).wr b → m₁.wr b:=by
    intro b ⟨y,hy,h1,h2⟩
    exact ⟨y,(hget b (hget' b y hy)).symm.trans hy,h1,(Mem.may_eq (m:=m₁) f1 f2 b) ▸ h2⟩
  refine { sim:=⟨?_,?_,?_,?_⟩,go:=⟨by rw [f5]; exact hdep,by rw [f1]; exact hp.go.hb,by rw [f2]; exact hp.go.db,by rw [f4]; exact hp.go.heap,?_,?_,?_,fun B hB=>hp.go.esc B (f3 ▸ hB),fun b hb hm=>by rw [hget b (hml b hb)]; exact hp.go.same b hb hm⟩,keep:=?_,new:=?_,frm:=hp.frm,os:=hp.os,tape:=hp.tape,out:=hp.out,size:=hp.size,old:=?_ }
  · intro b x hb
    obtain ⟨h1,h2⟩:=Mu.on_some.1 hb
    have:=hp.sim.dom b x h2
    exact ⟨by rw [hhas b h1]; exact this.1,this.2⟩
  · intro b r base N x hb hx
    obtain ⟨h1,h2⟩:=Mu.on_some.1 hb
    rw [hget b h1] at hx
    refine (hp.sim.blk b r base N x h2 hx).sub (fun c z hc=>?_) rfl
    rw [Mu.on_some,Mu.on_some]
    obtain ⟨q1,q2⟩:=Mu.on_some.1 hc
    refine ⟨q1,?_,q2⟩
    cases c with
    | hp n v=>rfl
    | st d i =>
      cases b with
      | hp n v=>simp [Bk.room,Bk.lv] at q1
      | st e j=>rw [lv_st] at q1 h1 ⊢; simp only [Bk.room] at q1; omega
  · intro b c x z y u' hb hc e hy hu hne
    exact hp.sim.inj b c x z y u' (Mu.on_some.1 hb).2 (Mu.on_some.1 hc).2 e (by rw [← hget b (Mu.on_some.1 hb).1]; exact hy) (by rw [← hget c (Mu.on_some.1 hc).1]; exact hu) hne
  · intro b y hy
    have hb:=hget' b y hy
    rw [hget b hb] at hy
    refine SBk.names_mono (fun c hc=>?_) (hp.sim.cl b y hy)
    simp only [Mem.knows,Bool.and_eq_true] at hc ⊢
    refine ⟨hc.1,?_⟩
    rw [hhas c ?_]
    · exact hc.2
    · cases c with
      | hp n v=>rfl
      | st d i =>
        cases b with
        | hp n v=>simp [Bk.room,Bk.lv] at hc
        | st e j=>have hc:=hc.1; rw [lv_st] at hc hb ⊢; simp only [Bk.room] at hc; omega
  · intro b hb
    rw [hhas b (hml b hb)]
    exact hp.go.has b hb
  · intro b r hb
    obtain ⟨r',hr'⟩:=hp.go.loop b r hb
    exact ⟨r',by rw [hget b (hml b (Mem.get_has hb))]; exact hr'⟩
  · intro b hb hw
    exact hp.go.wr b hb (hwr b hw)
  · intro b x hb
    exact Mu.on_some.2 ⟨hml b (hs.dom b x hb).1,hp.keep b x hb⟩
  · intro b x hb
    exact hp.new b x (Mu.on_some.1 hb).2
  · intro B D hB hD ho he b y hbo hy
    rw [hget b (hget' b y hy)] at hy
    exact hp.old B D hB hD ho (f3 ▸ he) b y hbo hy
theorem Post.trim {μ μ₁:Mu} {m m₁:Mem} {w w₁:World} (hs:Sim P μ m w) (hp:Post P μ m w μ₁ m₁ w₁) :
    Post P μ m w (μ₁.on (Bk.lv m₁.lvl.1 m.lvl.2)) (m₁.trim m.lvl.2) w₁:=hp.trimK hs (Nat.le_refl _)
end Go.Sh

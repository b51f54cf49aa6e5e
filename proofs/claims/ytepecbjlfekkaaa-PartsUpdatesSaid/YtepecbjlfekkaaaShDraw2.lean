import Derived.Test.YtepecbjlfekkaaaShDraw1
set_option linter.all false
set_option linter.unusedVariables false
set_option linter.unusedSimpArgs false
set_option autoImplicit false
namespace Go.Sh
variable {P:Program}
def Mem.shut (m:Mem):Mem:={ m with hb:=m.heap.length,db:=m.stk.length }
def Mem.reopen (m m₀:Mem):Mem:={ m with hb:=m₀.hb,db:=m₀.db }
theorem shut_get (m:Mem) (b:Bk):m.shut.get b=m.get b:=by cases b <;> rfl
theorem shut_has (m:Mem) (b:Bk):m.shut.has b=m.has b:=by cases b <;> rfl
theorem reopen_get (m m₀:Mem) (b:Bk):(m.reopen m₀).get b=m.get b:=by cases b <;> rfl
theorem reopen_has (m m₀:Mem) (b:Bk):(m.reopen m₀).has b=m.has b:=by cases b <;> rfl
theorem shut_knows (m:Mem) (b c:Bk):m.shut.knows b c=m.knows b c:=by simp [Mem.knows,shut_has]
theorem reopen_knows (m m₀:Mem) (b c:Bk):(m.reopen m₀).knows b c=m.knows b c:=by simp [Mem.knows,reopen_has]
theorem shut_may {m:Mem} {b:Bk} (h:m.has b=true):m.shut.may b=false:=by
  cases b with
  | hp n v =>
    simp only [Mem.has] at h
    cases hh:m.heap[n]? with
    | none=>simp [hh] at h
    | some y=>have:=(List.getElem?_eq_some_iff.1 hh).1; exact decide_eq_false (show ¬ m.heap.length ≤ n by omega)
  | st d i =>
    simp only [Mem.has] at h
    cases hg:stkGet m.stk d i with
    | none=>simp [hg] at h
    | some x=>have:=stkGet_lt hg; exact decide_eq_false (show ¬ m.stk.length ≤ d by omega)
theorem Sim.shut {μ:Mu} {m:Mem} {w:World} (h:Sim P μ m w):Sim P μ m.shut w :=
  ⟨fun b x hb=>by rw [shut_has]; exact h.dom b x hb,fun b r base N x hb hx=>h.blk b r base N x hb (by rw [shut_get] at hx; exact hx),
   fun b c x z y u hb hc e hy hu hne=>h.inj b c x z y u hb hc e (by rw [shut_get] at hy; exact hy) (by rw [shut_get] at hu; exact hu) hne,
   fun b y hy=>SBk.names_mono (fun c hc=>by rw [shut_knows]; exact hc) (h.cl b y (by rw [shut_get] at hy; exact hy))⟩
theorem shut_wr {m:Mem} {b:Bk} (h:m.shut.wr b):False:=by
  obtain ⟨y,hy,_,h2⟩:=h
  rw [shut_get] at hy
  rw [shut_may (Mem.get_has hy)] at h2
  cases h2
theorem Post.reopen {μ μ':Mu} {m m':Mem} {w w':World} (hs:Sim P μ m w) (hp:Post P μ m.shut w μ' m' w') :
    Post P μ m w μ' (m'.reopen m) w' ∧ (∀ b,m.has b=true → (m'.reopen m).get b=m.get b) ∧ (∀ r,r < w.heap.size → w'.heap[r]? = w.heap[r]?) ∧ (∀ b x,μ' b=some x → μ b=some x ∨ (m.has b=false ∧ w.heap.size ≤ x.1)):=by
  have hsame:∀ b,m.has b=true → (m'.reopen m).get b=m.get b:=fun b hb=>by
    rw [reopen_get,hp.go.same b (by rw [shut_has]; exact hb) (shut_may hb),shut_get]
  have hfr:∀ r,r < w.heap.size → w'.heap[r]? = w.heap[r]? := fun r hr=>hp.frm r hr fun c y _ _ hw=>shut_wr hw
  have hnew:∀ b x,μ' b=some x → μ b=some x ∨ (m.has b=false ∧ w.heap.size ≤ x.1):=fun b x hb=>by
    rcases hp.new b x hb with h1 | ⟨h1,h2⟩
    · exact .inl h1
    · rw [shut_has] at h1
      rcases h2 with h2 | ⟨c,y,_,_,hw⟩
      · exact .inr ⟨h1,h2⟩
      · exact (shut_wr hw).elim
  have hsim:Sim P μ' (m'.reopen m) w':=by
    refine ⟨fun b x hb=>?_,fun b r base N x hb hx=>?_,fun b c x z y u hb hc e hy hu hne=>?_,fun b y hy=>?_⟩
    · rw [reopen_has]; exact hp.sim.dom b x hb
    · rw [reopen_get] at hx; exact hp.sim.blk b r base N x hb hx
    · rw [reopen_get] at hy hu; exact hp.sim.inj b c x z y u hb hc e hy hu hne
    · rw [reopen_get] at hy; exact SBk.names_mono (fun c hc=>by rw [reopen_knows]; exact hc) (hp.sim.cl b y hy)
  have hgo:MGo m (m'.reopen m):=by
    refine ⟨hp.go.depth,rfl,rfl,hp.go.heap,fun b hb=>?_,fun b r hb=>?_,fun b hb hwr=>?_,hp.go.esc,fun b hb _=>hsame b hb⟩
    · rw [reopen_has]; exact hp.go.has b (by rw [shut_has]; exact hb)
    · obtain ⟨r',hr'⟩:=hp.go.loop b r (by rw [shut_get]; exact hb)
      exact ⟨r',by rw [reopen_get]; exact hr'⟩
    · obtain ⟨y,hy,h1,h2⟩:=hwr
      rw [hsame b hb] at hy
      exact ⟨y,hy,h1,by rw [← h2]; exact (Mem.may_eq (m:=m) (m':=m'.reopen m) rfl rfl b).symm⟩
  refine ⟨⟨hsim,hgo,hp.keep,fun b x hb=>(hnew b x hb).imp id fun h=>⟨h.1,.inl h.2⟩,fun r hr _=>hfr r hr,hp.os,hp.tape,hp.out,hp.size,?_⟩,hsame,hfr,hnew⟩
  intro B D hB hD ho he b y hb hy
  rw [reopen_get] at hy
  refine hp.old B D hB hD (fun b y hb hy=>?_) he b y hb hy
  rw [shut_get] at hy
  exact ho b y hb hy
theorem wpIn_const {F:Fence} (hw:Wide F) {o:Oper} {k:Nat} {a:Act} {w:World} {G:Prop} (h:o.wpIn F k P a w (fun _ _=>G) (fun _ _ _=>G)):G:=by
  have hroom:∀ n,F.room n:=fun n d hd=>by rw [hw.2] at hd; cases hd
  have h2:=h.2
  revert h2
  cases (o.semAt F.round a.eval).run P w with
  | ok x w' =>
    cases x with
    | value v=>exact id
    | skip=>exact id
    | defer d=>exact id
    | enter f args =>
      intro h2
      obtain ⟨e,w₁,fr,hR,_⟩:=h2.2.2 [] (hroom _)
      cases e with
      | returned v=>exact hR
      | panicked c=>exact hR
      | outgrown=>obtain ⟨_,_,hR⟩:=hR; exact hR
    | row r args =>
      intro h2
      obtain ⟨v,w₁,hR,_⟩:=h2.2 default [] (hroom _)
      exact hR
    | round l f t as b =>
      intro h2
      obtain ⟨e,w₁,hR,_⟩:=h2.2.2 default [] (hroom _)
      cases e with
      | returned v=>exact hR
      | panicked c=>exact hR
      | outgrown=>obtain ⟨_,_,hR⟩:=hR; exact hR
    | _=>exact fun h=>h.elim
  | halt x w' =>
    cases x with
    | panic v=>exact id
    | _=>exact fun h=>h.elim
structure Step (Tb:Tbl) (n:Nat) (s:SOper) (fr:Fr) (m:Mem) (b:Bool) (v:SV) (fr':Fr) (m':Mem):Prop where
  want:wantedS fr s.guard=some b
  put:fr'=fr.put s.dst v
  quiet:b=true → s.quiet=true → ∃ n' m₂,n' < n ∧ runP Tb n' s.op fr m.shut=some (v,m₂) ∧ m'=m₂.reopen m
  loud:b=true → s.quiet=false → ∃ n',n' < n ∧ runP Tb n' s.op fr m=some (v,m')
  skip:b=false → v=.tup [] ∧ m'=m
theorem Step.more {Tb:Tbl} {n n₂:Nat} (h:n ≤ n₂) {s:SOper} {fr:Fr} {m:Mem} {b:Bool} {v:SV} {fr':Fr} {m':Mem} (hst:Step Tb n s fr m b v fr' m'):Step Tb n₂ s fr m b v fr' m' :=
  ⟨hst.want,hst.put,fun hb hq=>let ⟨n',m₂,h1,h2⟩:=hst.quiet hb hq; ⟨n',m₂,Nat.lt_of_lt_of_le h1 h,h2⟩,fun hb hq=>let ⟨n',h1,h2⟩:=hst.loud hb hq; ⟨n',Nat.lt_of_lt_of_le h1 h,h2⟩,hst.skip⟩
def shift {α:Type} (a:α) (f:Nat → α):Nat → α
  | 0=>a
  | k + 1=>f k
theorem runO_chain {Tb:Tbl}:∀ (n:Nat) (L:List SOper) (fr:Fr) (m:Mem) (fr':Fr) (m':Mem),runO Tb n true L fr m=some (fr',m') →
    ∃ (frs:Nat → Fr) (ms:Nat → Mem) (bs:Nat → Bool) (vs:Nat → SV),frs 0=fr ∧ ms 0=m ∧ frs L.length=fr' ∧ ms L.length=m' ∧
      ∀ k s,L[k]? = some s → Step Tb n s (frs k) (ms k) (bs k) (vs k) (frs (k + 1)) (ms (k + 1))
  | 0,L,fr,m,fr',m',h=>by simp [runO] at h
  | n + 1,[],fr,m,fr',m',h=>by
    simp only [runO,Option.some.injEq,Prod.mk.injEq] at h
    obtain ⟨rfl,rfl⟩:=h
    exact ⟨fun _=>fr,fun _=>m,fun _=>true,fun _=>.unk,rfl,rfl,rfl,rfl,fun k s hk=>by simp at hk⟩
  | n + 1, o :: L,fr,m,fr',m',h=>by
    simp only [runO,Option.bind_eq_some_iff] at h
    obtain ⟨b,hb,h⟩:=h
    obtain ⟨v,m₁,hstep,hrest⟩:∃ v m₁,Step Tb (n + 1) o fr m b v (fr.put o.dst v) m₁ ∧ runO Tb n true L (fr.put o.dst v) m₁=some (fr',m'):=by
      cases b with
      | false =>
        simp only [Bool.false_eq_true,if_false] at h
        exact ⟨.tup [],m,⟨hb,rfl,fun h=>(by cases h),fun h=>(by cases h),fun _=>⟨rfl,rfl⟩⟩,h⟩
      | true =>
        simp only [if_true,Option.bind_eq_some_iff] at h
        obtain ⟨⟨v,m₁⟩,hrun,h⟩:=h
        refine ⟨v,m₁,⟨hb,rfl,fun _ hq=>?_,fun _ hq=>?_,fun h=>by cases h⟩,h⟩
        · simp only [hq,Bool.and_self,if_true,Option.map_eq_some_iff,Prod.mk.injEq] at hrun
          obtain ⟨⟨v',m₂⟩,h1,rfl,rfl⟩:=hrun
          exact ⟨n,m₂,Nat.lt_succ_self n,h1,rfl⟩
        · simp only [hq,Bool.and_false,Bool.false_eq_true,if_false] at hrun
          exact ⟨n,Nat.lt_succ_self n,hrun⟩
    obtain ⟨frs,ms,bs,vs,h1,h2,h3,h4,h5⟩:=runO_chain n L _ _ fr' m' hrest
    refine ⟨shift fr frs,shift m ms,shift b bs,shift v vs,rfl,rfl,h3,h4,fun k s hk=>?_⟩
    cases k with
    | zero =>
      simp only [List.getElem?_cons_zero,Option.some.injEq] at hk
      subst hk
      show Step Tb (n + 1) o fr m b v (frs 0) (ms 0)
      rw [h1,h2]
      exact hstep
    | succ k =>
      simp only [List.getElem?_cons_succ] at hk
      exact (h5 k s hk).more (Nat.le_succ n)
theorem looseO_base (oc:Bool) (lo:List Opd) (s:SOp):(looseO oc lo s).base=s.base:=by cases s <;> first | rfl | (simp only [looseO,callO]; split <;> rfl) | (simp only [looseO,mapO]; split <;> rfl)
theorem opT_of_run {Tb:Tbl} {o:Oper} {so:SOp} {oc:Bool} {lo:List Opd} {n:Nat} {fr:Fr} {m:Mem} {x:SV × Mem} (he:so.erase=looseO oc lo ((opT P o.op).getD .bad)) (h:runP Tb n so fr m=some x):opT P o.op=some so.base:=by
  cases ho:opT P o.op with
  | none =>
    rw [ho] at he
    have:so=.bad:=by cases so <;> simp [SOp.erase,looseO] at he <;> rfl
    rw [this] at h
    cases n with
    | zero=>simp [runP] at h
    | succ n=>simp [runP,memop,pev] at h
  | some y =>
    rw [ho] at he
    simp only [Option.getD_some] at he
    rw [← erase_base,he,looseO_base,opT_base ho]
theorem Step.go {Tb:Tbl} {n nt:Nat} (hP:∀ n',n' < n → SP P Tb n') {s:SOper} {fr:Fr} {m:Mem} {b:Bool} {v:SV} {fr':Fr} {m':Mem} (hst:Step Tb n s fr m b v fr' m') {o:Oper} {oc:Bool} {lo:List Opd}
    (he:s.op.erase=looseO oc lo ((opT P o.op).getD .bad)) (hd:∀ d,s.dst=some d → d < nt) {F:Fence} (hw:Wide F) {μ:Mu} {w:World} {a:Act} (hs:Sim P μ m w) (hf:FrR μ fr a.tmps) (hnt:nt ≤ a.tmps.size) :
    ∃ (μ':Mu) (w':World) (a':Act),Post P μ m w μ' m' w' ∧ FrR μ' fr' a'.tmps ∧ a'.tmps.size=a.tmps.size ∧ ((b=false ∨ s.quiet=true) → ∀ c,m.has c=true → m'.get c=m.get c):=by
  obtain ⟨hwt,hfr,hq,hl,hsk⟩:=hst
  subst hfr
  have fin:∀ (u:Value) (μ':Mu) (w':World),VR μ' v u → Post P μ m w μ' m' w' → FrR μ' (fr.put s.dst v) (a.put s.dst u).tmps:=fun u μ' w' hv hp=>FrR.put (hf.sub hp.keep) hv fun t ht=>Nat.lt_of_lt_of_le (hd t ht) hnt
  cases b with
  | false =>
    obtain ⟨rfl,rfl⟩:=hsk rfl
    exact ⟨μ,w,a.put s.dst undef,.refl hs,fin undef μ w (.tup .nil) (.refl hs),put_size _ _ _,fun _ _ _=>rfl⟩
  | true =>
    cases hqq:s.quiet with
    | true =>
      obtain ⟨n',m₂,hn',hrun,rfl⟩:=hq rfl hqq
      refine wpIn_const (P:=P) hw (hP n' hn' s.op fr m.shut v m₂ hrun o (opT_of_run he hrun) F hw 0 μ w a _ _ hs.shut (fun x y _ hxy=>opdT_rel hf hxy) fun u w' μ' hv hp=>?_)
      obtain ⟨h1,h2,_,_⟩:=hp.reopen hs
      exact ⟨μ',w',a.put s.dst u,h1,fin u μ' w' hv h1,put_size _ _ _,fun _=>h2⟩
    | false =>
      obtain ⟨n',hn',hrun⟩:=hl rfl hqq
      refine wpIn_const (P:=P) hw (hP n' hn' s.op fr m v m' hrun o (opT_of_run he hrun) F hw 0 μ w a _ _ hs (fun x y _ hxy=>opdT_rel hf hxy) fun u w' μ' hv hp=>?_)
      exact ⟨μ',w',a.put s.dst u,hp,fin u μ' w' hv hp,put_size _ _ _,fun h=>by rcases h with h | h <;> cases h⟩
end Go.Sh

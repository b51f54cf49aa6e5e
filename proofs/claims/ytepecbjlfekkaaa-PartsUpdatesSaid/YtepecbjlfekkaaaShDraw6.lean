import Derived.Test.YtepecbjlfekkaaaShDraw5
set_option linter.all false
set_option linter.unusedVariables false
set_option linter.unusedSimpArgs false
set_option autoImplicit false
namespace Go.Sh
variable {P:Program}
theorem opersT_get {nt:Nat} {ops:Array Oper}:∀ (r:List Oper) (l:List SOper),opersT P nt ops r=some l → l.length=r.length ∧ ∀ (i:Nat) (oo:Oper),r[i]? = some oo → ∃ ss,l[i]? = some ss ∧ operT P nt ops oo=some ss
  | [],l,h=>by
    simp only [opersT,Option.some.injEq] at h; subst h
    exact ⟨rfl,fun i oo hi=>by simp at hi⟩
  | o :: r,l,h=>by
    simp only [opersT,Option.bind_eq_some_iff,Option.map_eq_some_iff] at h
    obtain ⟨s,hs,l',hl',rfl⟩:=h
    obtain ⟨h1,h2⟩:=opersT_get r l' hl'
    refine ⟨by simp [h1],fun i oo hi=>?_⟩
    cases i with
    | zero=>simp only [List.getElem?_cons_zero,Option.some.injEq] at hi; subst hi; exact ⟨s,rfl,hs⟩
    | succ i=>exact h2 i oo (by simpa using hi)
theorem erase_callO {so:SOp} {oc:Bool} {lo:List Opd} {f:FuncId} {args:List Opd} (h:so.erase=callO oc lo f args):so=callO oc lo f args:=by
  unfold callO at h ⊢
  split at h
  · rename_i hc; rw [if_pos hc]; cases so <;> simp [SOp.erase] at h <;> simp [h]
  · rename_i hc; rw [if_neg hc]; cases so <;> simp [SOp.erase] at h <;> simp [h]
theorem callO_kind (oc:Bool) (lo:List Opd) (f:FuncId) (args:List Opd):(callO oc lo f args).pure=false ∧ (callO oc lo f args).isAlloc=false ∧ (callO oc lo f args).isLoad1=false ∧ ∀ z x,callO oc lo f args ≠ .load z x:=by
  unfold callO; split <;> exact ⟨rfl,rfl,rfl,fun z x h=>by cases h⟩
theorem erase_mapO {so:SOp} {oc:Bool} {lo:List Opd} {ag:Bool} {ks:List Kd} {m k x:Opd} (h:so.erase=mapO oc lo ag ks m k x):so=mapO oc lo ag ks m k x:=by
  unfold mapO at h ⊢
  split at h
  · rename_i hc; rw [if_pos hc]; cases so <;> simp [SOp.erase] at h <;> simp [h]
  · rename_i hc; rw [if_neg hc]; cases so <;> simp [SOp.erase] at h <;> simp [h]
theorem mapO_kind (oc:Bool) (lo:List Opd) (ag:Bool) (ks:List Kd) (m k x:Opd):(mapO oc lo ag ks m k x).pure=false ∧ (mapO oc lo ag ks m k x).isAlloc=false ∧ (mapO oc lo ag ks m k x).isLoad1=false ∧ ∀ z y,mapO oc lo ag ks m k x ≠ .load z y:=by
  unfold mapO; split <;> exact ⟨rfl,rfl,rfl,fun z x h=>by cases h⟩
theorem erase_looseO_kind {so t:SOp} {oc:Bool} {lo:List Opd} (h:so.erase=looseO oc lo t):so.pure=t.pure ∧ so.isAlloc=t.isAlloc ∧ so.isLoad1=t.isLoad1 ∧ (∀ z x,so=.load z x → t=.load z x) ∧ (t.isPutC oc=true → so=looseO oc lo t):=by
  by_cases hcc:∃ f args,t=.call f args
  · obtain ⟨f,args,rfl⟩:=hcc
    have h':=erase_callO (show so.erase=callO oc lo f args from h)
    obtain ⟨k1,k2,k3,k4⟩:=callO_kind oc lo f args
    rw [h']
    exact ⟨k1,k2,k3,fun z x e=>absurd e (k4 z x),fun _=>rfl⟩
  by_cases hcm:∃ ag ks mp k x,t=.mapset ag ks mp k x
  · obtain ⟨ag,ks,mp,k,x,rfl⟩:=hcm
    have h':=erase_mapO (show so.erase=mapO oc lo ag ks mp k x from h)
    obtain ⟨k1,k2,k3,k4⟩:=mapO_kind oc lo ag ks mp k x
    rw [h']
    exact ⟨k1,k2,k3,fun z x e=>absurd e (k4 z x),fun _=>rfl⟩
  have hlo:looseO oc lo t=looseP lo t:=by cases t <;> first | rfl | (exact absurd ⟨_,_,rfl⟩ hcc) | (exact absurd ⟨_,_,_,_,_,rfl⟩ hcm)
  have hpc:t.isPutC oc=t.isPut:=by cases t <;> first | rfl | (exact absurd ⟨_,_,rfl⟩ hcc) | (exact absurd ⟨_,_,_,_,_,rfl⟩ hcm)
  rw [hlo] at h ⊢
  rw [hpc]
  clear hlo hpc hcc hcm
  cases t <;> cases so <;> simp [SOp.erase,looseP] at h <;> (refine ⟨rfl,rfl,rfl,?_,?_⟩) <;> first | (intro z x e; cases e; done) | (intro e; simp [SOp.isPut] at e; done) | (obtain ⟨rfl,rfl⟩:=h; simp [looseP]) | (obtain ⟨rfl,rfl,rfl⟩:=h; simp [looseP]) | (obtain ⟨rfl,rfl,rfl,rfl⟩:=h; simp [looseP]) | (obtain ⟨rfl,rfl,rfl,rfl,rfl⟩:=h; simp [looseP]) | (obtain ⟨rfl,rfl,rfl,rfl,rfl,rfl⟩:=h; simp [looseP])
theorem getD_of {α:Type} {l:List α} {i:Nat} {x d:α} (h:l[i]? = some x):l.getD i d=x:=by rw [List.getD_eq_getElem?_getD,h]; rfl
structure DrawC (ops:List Oper) (l:List SOper) (an ord:List Nat):Prop where
  len:ord.length=l.length
  olen:ops.length=l.length
  nodup:ord.Nodup
  lt:∀ i ∈ ord,i < l.length
  mem:∀ i,i < l.length → i ∈ ord
  anc:∀ j k,j < l.length → k < l.length → (an.getD j 0).testBit k=true → ord.idxOf k < ord.idxOf j
  on:∀ (j:Nat) (oo:Oper),ops[j]? = some oo → ∀ e ∈ oo.after.toList,Region.binds .any e=true → e.on < l.length
  bits:∀ (j:Nat) (oo:Oper),ops[j]? = some oo → ∀ k,k < l.length → ((an.getD j 0).testBit k=true ↔ ∃ e ∈ oo.after.toList,Region.binds .any e=true ∧ (e.on=k ∨ (an.getD e.on 0).testBit k=true))
theorem drawC {ops:List Oper} {l:List SOper} {an ord:List Nat} (h:drawOk ops l an ord=true):DrawC ops l an ord:=by
  unfold drawOk at h
  simp only [Bool.and_eq_true,decide_eq_true_eq,List.all_eq_true,List.mem_range,Bool.or_eq_true,Bool.not_eq_true'] at h
  obtain ⟨⟨⟨⟨⟨h1,h2⟩,h3⟩,h4⟩,h5⟩,h6⟩:=h
  refine ⟨h1,h2,h3,h4,h5,fun j k hj hk ht=>?_,fun j oo hj=>?_,fun j oo hj=>?_⟩
  · rcases (h6 j hj).1 k hk with h | h
    · rw [ht] at h; cases h
    · exact h
  · have hjl:j < l.length:=by rw [← h2]; exact (List.getElem?_eq_some_iff.1 hj).1
    have:=(h6 j hjl).2
    simp only [hj,Bool.and_eq_true,List.all_eq_true,Bool.or_eq_true,Bool.not_eq_true',decide_eq_true_eq] at this
    intro e he hb
    rcases this.1 e he with h | h
    · rw [hb] at h; cases h
    · exact h
  · have hjl:j < l.length:=by rw [← h2]; exact (List.getElem?_eq_some_iff.1 hj).1
    have:=(h6 j hjl).2
    simp only [hj,Bool.and_eq_true,List.all_eq_true,List.mem_range,beq_iff_eq] at this
    intro k hk
    rw [this.2 k hk,List.any_eq_true]
    constructor
    · rintro ⟨e,he,hh⟩
      simp only [Bool.and_eq_true,Bool.or_eq_true,beq_iff_eq] at hh
      exact ⟨e,he,hh.1,hh.2⟩
    · rintro ⟨e,he,h7,h8⟩
      refine ⟨e,he,?_⟩
      simp only [Bool.and_eq_true,Bool.or_eq_true,beq_iff_eq]
      exact ⟨h7,h8⟩
theorem DrawC.at {ops:List Oper} {l:List SOper} {an ord:List Nat} (C:DrawC ops l an ord) {k:Nat} (hk:k < l.length):ord[k]? = some (ord.getD k 0) ∧ ord.getD k 0 < l.length ∧ ord.idxOf (ord.getD k 0)=k:=by
  have hk':k < ord.length:=by rw [C.len]; exact hk
  have h1:ord[k]? = some ord[k]:=List.getElem?_eq_getElem hk'
  have h2:ord.getD k 0=ord[k]:=by simp [List.getD,h1]
  rw [h2]
  exact ⟨h1,C.lt _ (List.getElem_mem _),C.nodup.idxOf_getElem k hk'⟩
theorem DrawC.pos {ops:List Oper} {l:List SOper} {an ord:List Nat} (C:DrawC ops l an ord) {i:Nat} (hi:i < l.length):ord.idxOf i < l.length ∧ ord.getD (ord.idxOf i) 0=i:=by
  have h1:ord.idxOf i < ord.length:=List.idxOf_lt_length_of_mem (C.mem i hi)
  refine ⟨by rw [← C.len]; exact h1,?_⟩
  simp [List.getD,List.getElem?_eq_getElem h1,List.getElem_idxOf]
def ancP (an ord:List Nat) (i j:Nat):Prop:=(an.getD (ord.getD j 0) 0).testBit (ord.getD i 0)=true
theorem told {oc:Bool} {Tb:Tbl} {n nt:Nat} (hP:∀ n',n' < n → SP P Tb n') {L l:List SOper} {ops:Array Oper} {an ord:List Nat} (hl:opersT P nt ops ops.toList=some l) (C:DrawC ops.toList l an ord) (ht:tidy ops.toList l an=true) (hL:L.map SOper.erase=ord.map (placeT oc l an ord))
    {frs:Nat → Fr} {ms:Nat → Mem} {bs:Nat → Bool} {vs:Nat → SV} (hst:∀ k s,L[k]? = some s → Step Tb n s (frs k) (ms k) (bs k) (vs k) (frs (k + 1)) (ms (k + 1))) :
    Told P oc Tb n nt l.length ops (fun k=>ops.toList.getD (ord.getD k 0) default) (fun k=>L.getD k default) (fun k=>looseT l an (ord.getD k 0)) (ancP an ord) frs ms bs vs:=by
  have hLl:L.length=l.length:=by have:=congrArg List.length hL; simpa [C.len] using this
  obtain ⟨_,hget⟩:=opersT_get _ _ hl
  -- what lies at a place
  have at_:∀ k,k < l.length → ∃ i oo si s,i=ord.getD k 0 ∧ i < l.length ∧ ord.idxOf i=k ∧ ops.toList[i]? = some oo ∧ l[i]? = some si ∧ operT P nt ops oo=some si ∧ L[k]? = some s ∧
      ops.toList.getD (ord.getD k 0) default=oo ∧ L.getD k default=s ∧ s.erase=placeT oc l an ord i ∧ l.getD i default=si:=by
    intro k hk
    obtain ⟨h1,h2,h3⟩:=C.at hk
    have hio:ord.getD k 0 < ops.toList.length:=by rw [C.olen]; exact h2
    obtain ⟨si,hsi,hop⟩:=hget _ _ (List.getElem?_eq_getElem hio)
    have hs:L[k]? = some L[k]:=List.getElem?_eq_getElem (by rw [hLl]; exact hk)
    have he:(L.map SOper.erase)[k]? = (ord.map (placeT oc l an ord))[k]? := by rw [hL]
    rw [List.getElem?_map,List.getElem?_map,hs,h1] at he
    simp only [Option.map_some,Option.some.injEq] at he
    exact ⟨_,_,si,_,rfl,h2,h3,List.getElem?_eq_getElem hio,hsi,hop,hs,getD_of (List.getElem?_eq_getElem hio),getD_of hs,he,getD_of hsi⟩
  have kind:∀ k,k < l.length → ∃ i oo si,i=ord.getD k 0 ∧ i < l.length ∧ ord.idxOf i=k ∧ ops.toList[i]? = some oo ∧ l[i]? = some si ∧ operT P nt ops oo=some si ∧ ops.toList.getD (ord.getD k 0) default=oo ∧
      (L.getD k default).op.erase=looseO oc (looseT l an i) si.op ∧ (L.getD k default).dst=si.dst ∧ (L.getD k default).guard=si.guard ∧ (L.getD k default).quiet=!inOrder oc l an ord i:=by
    intro k hk
    obtain ⟨i,oo,si,s,h1,h2,h3,h4,h5,h6,h7,h8,h9,h10,h11⟩:=at_ k hk
    refine ⟨i,oo,si,h1,h2,h3,h4,h5,h6,h8,?_⟩
    rw [h9]
    have e1:=congrArg SOper.op h10
    have e2:=congrArg SOper.dst h10
    have e3:=congrArg SOper.guard h10
    have e4:=congrArg SOper.quiet h10
    simp only [SOper.erase,placeT,h11] at e1 e2 e3 e4
    exact ⟨e1,e2,e3,e4⟩
  have tidy':∀ i j,i < l.length → j < l.length → ∀ oo s q,ops.toList[j]? = some oo → l[j]? = some s → l[i]? = some q → ∀ d,q.dst=some d →
      if i=j then (s.op.isLoad1=true → d ∉ usesT oo) else s.dst ≠ some d ∧ (takes oo s d=true → comparable an i j=true ∧ (s.op.isLoad1=true → (an.getD j 0).testBit i=true)):=by
    intro i j hi hj oo s q h1 h2 h3 d hd
    unfold tidy at ht
    rw [List.all_eq_true] at ht
    have h4:=ht j (List.mem_range.2 hj)
    rw [List.all_eq_true] at h4
    have h5:=h4 i (List.mem_range.2 hi)
    simp only [h1,h2,h3,hd] at h5
    split
    · rename_i e
      rw [if_pos e] at h5
      intro hld hmem
      simp [hld,hmem] at h5
    · rename_i e
      rw [if_neg e] at h5
      simp only [Bool.and_eq_true,Bool.or_eq_true,Bool.not_eq_true',bne_iff_ne] at h5
      refine ⟨h5.1,fun htk=>?_⟩
      rcases h5.2 with h | h
      · rw [htk] at h; cases h
      · exact ⟨h.1,fun hld=>by rcases h.2 with h' | h'; rw [hld] at h'; cases h'; exact h'⟩
  have takes_eq:∀ (oo:Oper) (s q:SOper) (d:Nat),s.guard=q.guard → takes oo s d=takes oo q d:=fun oo s q d e=>by simp [takes,e]
  have comp:∀ i j,comparable an (ord.getD i 0) (ord.getD j 0)=true → ancP an ord i j ∨ ancP an ord j i:=fun i j h=>by
    simpa [comparable,ancP] using h
  refine ⟨hP,fun k hk=>?_,fun k hk=>?_,fun k hk=>?_,fun k hk d hd=>?_,fun k hk=>?_,fun i j hi hj h=>?_,fun i j hi hj hne d hd=>?_,fun j hj hld d hd=>?_,fun p j hp hj hne hq hpu=>?_⟩
  · obtain ⟨i,oo,si,s,h1,h2,h3,h4,h5,h6,h7,h8,h9,h10,h11⟩:=at_ k hk
    have:=hst k s h7
    simp only [h9]
    exact this
  · obtain ⟨i,oo,si,h1,h2,h3,h4,h5,h6,h7,h8,h9,h10,h11⟩:=kind k hk
    simp only [h7]
    rw [← h1,h8,(operT_inv h6).2.2.2.1]
  · obtain ⟨i,oo,si,h1,h2,h3,h4,h5,h6,h7,h8,h9,h10,h11⟩:=kind k hk
    simp only [h7]
    rw [h9,(operT_inv h6).2.2.1]
  · obtain ⟨i,oo,si,h1,h2,h3,h4,h5,h6,h7,h8,h9,h10,h11⟩:=kind k hk
    rw [h9] at hd
    exact (operT_inv h6).1 d ((operT_inv h6).2.2.1 ▸ hd)
  · obtain ⟨i,oo,si,h1,h2,h3,h4,h5,h6,h7,h8,h9,h10,h11⟩:=kind k hk
    simp only [h7]
    rw [h10,(operT_inv h6).2.1]
  · obtain ⟨a1,a2,a3⟩:=C.at hi
    obtain ⟨b1,b2,b3⟩:=C.at hj
    have:=C.anc _ _ b2 a2 h
    rw [a3,b3] at this
    exact this
  · obtain ⟨i',ooi,si,h1,h2,h3,h4,h5,h6,h7,h8,h9,h10,h11⟩:=kind i hi
    obtain ⟨j',ooj,sj,g1,g2,g3,g4,g5,g6,g7,g8,g9,g10,g11⟩:=kind j hj
    have hne':i' ≠ j':=fun e=>hne (by rw [← h3,← g3,e])
    rw [h9] at hd
    have:=tidy' i' j' h2 g2 ooj sj si g4 g5 h5 d hd
    rw [if_neg hne'] at this
    rw [g9]
    refine ⟨this.1,fun htk=>?_⟩
    simp only [g7] at htk
    rw [takes_eq _ _ sj d g10] at htk
    obtain ⟨q1,q2⟩:=this.2 htk
    refine ⟨comp i j (by rw [← h1,← g1]; exact q1),fun hld=>?_⟩
    have:=q2 ((erase_looseO_kind g8).2.2.1 ▸ hld)
    show (an.getD (ord.getD j 0) 0).testBit (ord.getD i 0)=true
    rw [← h1,← g1]; exact this
  · obtain ⟨j',ooj,sj,g1,g2,g3,g4,g5,g6,g7,g8,g9,g10,g11⟩:=kind j hj
    rw [g9] at hd
    have:=tidy' j' j' g2 g2 ooj sj sj g4 g5 g5 d hd
    rw [if_pos rfl] at this
    simp only [g7]
    exact this ((erase_looseO_kind g8).2.2.1 ▸ hld)
  · obtain ⟨p',oop,sp,h1,h2,h3,h4,h5,h6,h7,h8,h9,h10,h11⟩:=kind p hp
    obtain ⟨j',ooj,sj,g1,g2,g3,g4,g5,g6,g7,g8,g9,g10,g11⟩:=kind j hj
    rw [h11] at hq
    have hio:inOrder oc l an ord p'=true:=by simpa using hq
    unfold inOrder at hio
    rw [List.all_eq_true] at hio
    have hmem:(sj,j') ∈ l.zipIdx:=List.mem_zipIdx_iff_getElem?.2 g5
    have h:=hio _ hmem
    have hne':j' ≠ p':=fun e=>hne (by rw [← h3,← g3,e])
    have hpu':sj.op.pure=false:=by rw [← (erase_looseO_kind g8).1]; exact hpu
    have hne'':(j' == p')=false:=by simpa using hne'
    simp only [hne'',hpu',Bool.false_or,h5,Bool.or_eq_true,Bool.and_eq_true,decide_eq_true_eq,h3,g3] at h
    by_cases hcomp:comparable an p' j'=true
    · rcases comp p j (by rw [← h1,← g1]; exact hcomp) with q | q
      · exact .inl q
      · exact .inr (.inl q)
    · rcases h with (h | h) | h
      · exact absurd h hcomp
      · exact .inr (.inr (.inl ⟨by rw [(erase_looseO_kind g8).2.1]; exact h.1,h.2⟩))
      · refine .inr (.inr (.inr ⟨⟨sp.op,?_,h.1.1⟩,by rw [(erase_looseO_kind g8).2.2.1]; exact h.1.2,h.2,fun z x hzx=>?_⟩))
        · rw [← h1]; exact (erase_looseO_kind h8).2.2.2.2 h.1.1
        · rw [← h1]
          have hsj:=(erase_looseO_kind g8).2.2.2.1 z x hzx
          unfold looseT
          rw [List.mem_filterMap]
          have hc':comparable an p' j'=false:=by simpa using hcomp
          exact ⟨(sj,j'),hmem,by simp [hne'',hc',hsj]⟩
section
variable {oc:Bool} {Tb:Tbl} {n nt N:Nat} {ops:Array Oper} {s:Nat → SOper} {lo:Nat → List Opd} {an ord:List Nat} {frs:Nat → Fr} {ms:Nat → Mem} {bs:Nat → Bool} {vs:Nat → SV} {l:List SOper}
variable {μ₀:Mu} {w₀:World} {sz:Nat} {ds:List Deferred}
def doneL (N:Nat) (ord:List Nat) (listed:Array Bool) (k:Nat):Prop:=k < N ∧ listed[ord.getD k 0]? = some true
theorem any_step (C:DrawC ops.toList l an ord) (W:Way l.length s frs ms bs) (T:Told P oc Tb n nt l.length ops (fun k=>ops.toList.getD (ord.getD k 0) default) s lo (ancP an ord) frs ms bs vs) (hs₀:Sim P μ₀ (ms 0) w₀) (hsz:nt ≤ sz)
    {F:Fence} (hw:Wide F) {kk:Nat} {Q:Exit → Act → World → Prop}
    (hQ:∀ a w μ (S:Nat → Prop),(∀ k,k < l.length → S k) → VInv l.length s frs vs sz ds S μ a → MInv P l.length s ms bs μ₀ w₀ S l.length w μ → Q .normal a w) :
    ∀ (fuel:Nat) (listed:Array Bool) (U:List Nat) (p:Nat) (w:World) (μ:Mu) (a:Act),listed.size=l.length → U.length ≤ fuel → (∀ k,k < l.length → ¬ doneL l.length ord listed k → k ∈ U) →
      (∀ i k,i < l.length → k < l.length → ancP an ord i k → doneL l.length ord listed k → doneL l.length ord listed i) → MInv P l.length s ms bs μ₀ w₀ (doneL l.length ord listed) p w μ →
      (p < l.length → Wr s p ∧ ¬ doneL l.length ord listed p) → VInv l.length s frs vs sz ds (doneL l.length ord listed) μ a → wpAnyIn F kk P .any ops Q fuel listed a w:=by
  have hopsz:ops.size=l.length:=by rw [← C.olen]; simp
  -- which operations are ready
  have hready:∀ (listed:Array Bool) (i:Nat),listed.size=l.length → (i ∈ Region.ready .any ops listed ↔ i < l.length ∧ listed[i]? = some false ∧ ∃ oo,ops.toList[i]? = some oo ∧ ∀ e ∈ oo.after.toList,Region.binds .any e=true → listed[e.on]? = some true):=by
    intro listed i hls
    unfold Region.ready
    rw [List.mem_filter,List.mem_range,hopsz]
    constructor
    · rintro ⟨h1,h2⟩
      simp only [Bool.and_eq_true,Bool.not_eq_true'] at h2
      have hlt:i < listed.size:=by omega
      have h3:listed[i]? = some listed[i]:=Array.getElem?_eq_getElem hlt
      refine ⟨h1,?_,?_⟩
      · rw [h3]
        have:=h2.1
        rw [Array.getD_eq_getD_getElem?,h3] at this
        simpa using this
      · have hio:i < ops.size:=by omega
        have h4:ops[i]? = some ops[i]:=Array.getElem?_eq_getElem hio
        refine ⟨ops[i],by simp,fun e he hb=>?_⟩
        have h5:=h2.2
        rw [h4] at h5
        simp only [Option.map_some,Option.getD_some,Array.all_eq_true'] at h5
        have h6:=h5 e (by simpa using he)
        simp only [hb,Bool.not_true,Bool.false_or,Array.getD_eq_getD_getElem?] at h6
        cases h7:listed[e.on]? with
        | none=>simp [h7] at h6
        | some b=>simp [h7] at h6; rw [h6]
    · rintro ⟨h1,h2,oo,h3,h4⟩
      refine ⟨h1,?_⟩
      simp only [Bool.and_eq_true,Bool.not_eq_true']
      refine ⟨by rw [Array.getD_eq_getD_getElem?,h2]; rfl,?_⟩
      have h5:ops[i]? = some oo:=by simpa using h3
      rw [h5]
      simp only [Option.map_some,Option.getD_some,Array.all_eq_true']
      intro e he
      cases hb:Region.binds .any e with
      | false=>rfl
      | true =>
        have:=h4 e (by simpa using he) hb
        simp [Array.getD_eq_getD_getElem?,this]
  -- none is ready: all are done
  have stuck:∀ (listed:Array Bool),listed.size=l.length → Region.ready .any ops listed=[] → ∀ k,k < l.length → doneL l.length ord listed k:=by
    intro listed hls hnil k
    induction k using Nat.strongRecOn with
    | _ k ih =>
      intro hk
      refine Classical.byContradiction fun hnd=>?_
      obtain ⟨h1,h2,h3⟩:=C.at hk
      have hlt:ord.getD k 0 < listed.size:=by omega
      have hf:listed[ord.getD k 0]? = some false:=by
        rw [Array.getElem?_eq_getElem hlt]
        cases hb:listed[ord.getD k 0] with
        | false=>rfl
        | true=>exact absurd ⟨hk,by rw [Array.getElem?_eq_getElem hlt,hb]⟩ hnd
      have hio:ord.getD k 0 < ops.toList.length:=by rw [C.olen]; exact h2
      have hmem:ord.getD k 0 ∈ Region.ready .any ops listed:=by
        refine (hready listed _ hls).2 ⟨h2,hf,_,List.getElem?_eq_getElem hio,fun e he hb=>?_⟩
        have hon:=C.on _ _ (List.getElem?_eq_getElem hio) e he hb
        have hbit:=(C.bits _ _ (List.getElem?_eq_getElem hio) e.on hon).2 ⟨e,he,hb,.inl rfl⟩
        have hlt':=C.anc _ _ h2 hon hbit
        rw [h3] at hlt'
        have:=ih _ hlt' (C.pos hon).1
        have h4:=this.2
        rw [(C.pos hon).2] at h4
        exact h4
      rw [hnil] at hmem
      cases hmem
  have all_done:∀ (listed:Array Bool) p w μ a,(∀ k,k < l.length → doneL l.length ord listed k) → MInv P l.length s ms bs μ₀ w₀ (doneL l.length ord listed) p w μ → (p < l.length → Wr s p ∧ ¬ doneL l.length ord listed p) → VInv l.length s frs vs sz ds (doneL l.length ord listed) μ a → Q .normal a w:=by
    intro listed p w μ a hall I hat V
    have hp:p=l.length:=by
      have:=I.pN
      by_cases e:p < l.length
      · exact absurd (hall p e) (hat e).2
      · omega
    subst hp
    exact hQ a w μ _ hall V I
  intro fuel
  induction fuel with
  | zero =>
    intro listed U p w μ a hls hU hun hcl I hat V
    have hall:∀ k,k < l.length → doneL l.length ord listed k:=fun k hk=>Classical.byContradiction fun h=>by
      have:=hun k hk h
      have:U=[]:=List.length_eq_zero_iff.1 (by omega)
      simp_all
    refine ⟨?_,all_done listed p w μ a hall I hat V⟩
    refine List.eq_nil_iff_forall_not_mem.2 fun i hi=>?_
    obtain ⟨h1,h2,_⟩:=(hready listed i hls).1 hi
    have:=(hall _ (C.pos h1).1).2
    rw [(C.pos h1).2,h2] at this
    cases this
  | succ fuel ih =>
    intro listed U p w μ a hls hU hun hcl I hat V
    refine ⟨fun hnil=>all_done listed p w μ a (stuck listed hls hnil) I hat V,fun i hi=>?_⟩
    obtain ⟨h1,h2,oo,h3,h4⟩:=(hready listed i hls).1 hi
    obtain ⟨hj,hji⟩:=C.pos h1
    have hn:¬ doneL l.length ord listed (ord.idxOf i):=fun h=>by
      have:=h.2
      rw [hji,h2] at this
      cases this
    have hanc:∀ i',i' < l.length → ancP an ord i' (ord.idxOf i) → doneL l.length ord listed i':=by
      intro i' hi' ha
      have ha':(an.getD i 0).testBit (ord.getD i' 0)=true:=by
        have:(an.getD (ord.getD (ord.idxOf i) 0) 0).testBit (ord.getD i' 0)=true:=ha
        rw [hji] at this
        exact this
      obtain ⟨q1,q2,q3⟩:=C.at hi'
      obtain ⟨e,he,hb,hor⟩:=(C.bits i oo h3 _ q2).1 ha'
      have hon:=C.on i oo h3 e he hb
      have hel:=h4 e he hb
      rcases hor with hor | hor
      · exact ⟨hi',by rw [← hor]; exact hel⟩
      · have hd:doneL l.length ord listed (ord.idxOf e.on):=⟨(C.pos hon).1,by rw [(C.pos hon).2]; exact hel⟩
        refine hcl i' (ord.idxOf e.on) hi' (C.pos hon).1 ?_ hd
        show (an.getD (ord.getD (ord.idxOf e.on) 0) 0).testBit (ord.getD i' 0)=true
        rw [(C.pos hon).2]
        exact hor
    have hset:(fun k=>doneL l.length ord listed k ∨ k=ord.idxOf i)=doneL l.length ord (listed.setIfInBounds i true):=by
      funext k
      apply propext
      unfold doneL
      constructor
      · rintro (⟨a,b⟩ | rfl)
        · refine ⟨a,?_⟩
          by_cases e:i=ord.getD k 0
          · rw [← e,Array.getElem?_setIfInBounds_self_of_lt (by omega)]
          · rw [Array.getElem?_setIfInBounds_ne e]; exact b
        · exact ⟨hj,by rw [hji,Array.getElem?_setIfInBounds_self_of_lt (by omega)]⟩
      · rintro ⟨a,b⟩
        by_cases e:i=ord.getD k 0
        · right; rw [e]; exact ((C.at a).2.2).symm
        · rw [Array.getElem?_setIfInBounds_ne e] at b; exact .inl ⟨a,b⟩
    have key:=T.one W hs₀ I hat V hsz hcl hj hn hanc hw (k:=kk) (Q:=Q) (K:=wpAnyIn F kk P .any ops Q fuel (listed.setIfInBounds i true)) (by
      intro a' w' μ' p' V' I' hat'
      rw [hset] at V' I'
      refine ih (listed.setIfInBounds i true) (U.erase (ord.idxOf i)) p' w' μ' a' (by simpa using hls) ?_ ?_ ?_ I' ?_ V'
      · have hmem:=hun _ hj hn
        rw [List.length_erase_of_mem hmem]
        omega
      · intro k hk hnd
        have h5:¬ (doneL l.length ord listed k ∨ k=ord.idxOf i):=by
          have:=congrFun hset k
          rw [this]; exact hnd
        refine (List.mem_erase_of_ne (fun e=>h5 (.inr e))).2 (hun k hk fun h=>h5 (.inl h))
      · intro i' k hi' hk ha hd
        have e1:=congrFun hset k
        have e2:=congrFun hset i'
        rw [← e1] at hd
        rw [← e2]
        rcases hd with hd | rfl
        · exact .inl (hcl i' k hi' hk ha hd)
        · exact .inl (hanc i' hi' ha)
      · intro hp'
        obtain ⟨g1,g2⟩:=hat' hp'
        refine ⟨g1,fun h=>g2 ?_⟩
        have:=congrFun hset p'
        rw [this]; exact h)
    unfold wpOpIn
    have hoi:ops[i]? = some oo:=by simpa using h3
    rw [hoi]
    simp only [hji] at key
    rw [getD_of h3] at key
    exact key
end
theorem sr_draw (hm:P.follows .mixedOrders=true) {Tb:Tbl} {n:Nat} (hP:∀ n',n' < n → SP P Tb n') {L:List SOper} {fr fr':Fr} {m m':Mem} (h:runO Tb n true L fr m=some (fr',m')) {oc:Bool} {nt:Nat} {ops:Array Oper} (hT:regionT P oc nt ops true=some (L.map SOper.erase))
    {F:Fence} (hw:Wide F) {id B k:Nat} {μ:Mu} {w:World} {a:Act} (hs:Sim P μ m w) (hf:FrR μ fr a.tmps) (hnt:nt ≤ a.tmps.size) (hmk:MarksP B w μ a.defers) :
    (Code.region id ops true).wpIn F k P (QC P B μ m w a.tmps.size .normal fr' m') a w:=by
  unfold regionT at hT
  simp only [if_true,Option.bind_eq_some_iff] at hT
  obtain ⟨l,hl,hT⟩:=hT
  rw [Option.ite_none_right_eq_some] at hT
  obtain ⟨hck,hL⟩:=hT
  simp only [Option.some.injEq] at hL
  rw [Bool.and_eq_true] at hck
  have C:=drawC hck.1
  obtain ⟨frs,ms,bs,vs,e1,e2,e3,e4,hst⟩:=runO_chain n L fr m fr' m' h
  have hLl:L.length=l.length:=by have:=congrArg List.length hL; simpa [C.len] using this.symm
  have T:=told hP hl C hck.2 hL.symm hst
  subst e1; subst e2
  rw [hLl] at e3 e4
  subst e3; subst e4
  have hs₀:=hs.drawn (w.drawn + 1)
  obtain ⟨W,μv,wv,hv⟩:=T.way hw hs₀ hf hnt
  have hopsz:ops.size=l.length:=by rw [← C.olen]; simp
  refine wpIn_region_any hm ?_
  rw [hopsz]
  have hnone:∀ k,¬ doneL l.length (orderT l (ancs ops.toList []) l.length []) (Array.replicate l.length false) k:=by
    intro k hk
    have:=hk.2
    rw [Array.getElem?_replicate] at this
    split at this <;> simp at this
  have I0:MInv P l.length (fun k=>L.getD k default) ms bs μ { w with drawn:=w.drawn + 1 } (doneL l.length (orderT l (ancs ops.toList []) l.length []) (Array.replicate l.length false)) 0 { w with drawn:=w.drawn + 1 } μ :=
    { pN:=Nat.zero_le _,bef:=fun k hk=>by omega,aft:=fun k _ _ h=>absurd h (hnone k),dom:=fun b x hb=>⟨(hs₀.dom b x hb).2,.inl (hs₀.dom b x hb).1⟩,keep:=fun _ _ h=>h,new:=fun _ _ h=>.inl h,frm:=fun _ _ _=>rfl,
      os:=rfl,tape:=rfl,out:=rfl,size:=Nat.le_refl _,blk:=hs₀.blk,inj:=hs₀.inj,late:=fun b x hb hh=>by have:=(hs₀.dom b x hb).1; rw [hh] at this; cases this }
  obtain ⟨p,I1,hat⟩:=I0.advance W (fun k=>Classical.em _)
  refine any_step (sz:=a.tmps.size) (ds:=a.defers) C W T hs₀ hnt hw ?_ l.length _ (List.range l.length) p _ μ a (by simp) (by simp) (fun k hk _=>List.mem_range.2 hk) (fun i k _ _ _ h=>absurd h (hnone k)) I1 hat
    ⟨fun t=>.inr ⟨fun k _ h=>absurd h (hnone k),hf t⟩,rfl,rfl⟩
  intro a' w' μ' S hall V I
  have hpost:Post P μ (ms 0) { w with drawn:=w.drawn + 1 } μ' (ms l.length) w':=by
    refine { sim:=⟨fun b x hb=>?_,fun b r base M y hb hy=>I.blk b r base M y hb hy,I.inj,W.cl _ (Nat.le_refl _)⟩,go:=W.goTo (Nat.le_refl _),keep:=I.keep,new:=I.new,frm:=I.frm,os:=I.os,tape:=I.tape,out:=I.out,size:=I.size,old:=hv.old }
    obtain ⟨h1,h2⟩:=I.dom b x hb
    refine ⟨?_,h1⟩
    rcases h2 with h2 | ⟨i,q1,_,q3⟩
    · exact W.mono (Nat.zero_le _) (Nat.le_refl _) h2
    · exact W.mono (by omega) (Nat.le_refl _) q3.2
  have hpost':Post P μ (ms 0) w μ' (ms l.length) w':=⟨hpost.sim,hpost.go,hpost.keep,hpost.new,hpost.frm,hpost.os,hpost.tape,hpost.out,hpost.size,hpost.old⟩
  refine ⟨rfl,μ',hpost',fun t=>?_,V.size,by rw [V.defers]; exact hmk.post hpost'⟩
  rcases T.slotAt t l.length (Nat.le_refl _) with ⟨k,h1,h2,h3⟩ | ⟨h1,h2⟩
  · rw [h3]
    rcases V.val t with ⟨k',q1,q2,q3,q4⟩ | ⟨q1,_⟩
    · rw [T.one_dst h1 q1 h2 q3]; exact q4
    · exact absurd h2 (q1 k h1 (hall k h1))
  · rw [h2]
    rcases V.val t with ⟨k',q1,q2,q3,q4⟩ | ⟨_,q2⟩
    · exact absurd q3 (h1 k' q1)
    · exact q2
end Go.Sh

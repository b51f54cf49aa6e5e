import Derived.Test.YtepecbjlfekkaaaShPure
set_option linter.all false
set_option linter.unusedVariables false
set_option linter.unusedSimpArgs false
set_option autoImplicit false
namespace Go.Sh
variable {P:Program}
def PureOk (P:Program) (o:Oper) (fr:Fr) (v:SV):Prop :=
  ∀ μ w ρ,OpsR μ fr ρ o.op → ∃ u,(execOp ρ o).run P w=.ok (.value u) w ∧ VR μ v u
theorem fold_set:∀ (l:List Value) (off k:Nat) (x:Array Value),off + k + l.length ≤ x.size →
    (l.zipIdx k).foldl (fun cs (c,j)=>cs.setIfInBounds (off + j) c) x=⟨x.toList.take (off + k) ++ l ++ x.toList.drop (off + k + l.length)⟩
  | [],off,k,x,_=>by simp
  | v :: l,off,k,x,h=>by
    simp only [List.length_cons] at h
    simp only [List.zipIdx_cons,List.foldl_cons]
    rw [fold_set l off (k + 1) _ (by simp; omega)]
    apply Array.toList_inj.1
    simp only [Array.toList_setIfInBounds]
    have hlt':off + k < x.toList.length:=by simp; omega
    rw [show off + (k + 1)=off + k + 1 from rfl,List.take_succ_eq_append_getElem (by simpa using hlt')]
    simp only [List.getElem_set_self,List.take_set,List.length_cons]
    rw [List.set_eq_of_length_le (by rw [List.length_take]; omega),List.drop_set_of_lt (by omega)]
    simp
    congr 1
    omega
theorem fillv_run {μ:Mu} {place:Nat → Option (Nat × Nat)} {fr:Fr} {ρ:Operand → Value}:∀ {ps:List (Nat × Operand)} {qs:List (Nat × Nat × Opd)} {cs out:List SV} {x:List Value},
    partsT place ps=some qs → fillv cs (qs.map fun (o,s,y)=>(o,s,y.ev fr))=some out → VRs μ cs x → (∀ a y,a ∈ ps.map (·.2) → opdT a=some y → VR μ (y.ev fr) (ρ a)) →
    ∃ z,Instr.fill place ⟨x⟩ (ps.map fun (i,a)=>(i,ρ a))=some ⟨z⟩ ∧ VRs μ out z
  | [],qs,cs,out,x,hp,hf,hx,_=>by
    simp [partsT] at hp; subst hp; simp [fillv] at hf; subst hf
    exact ⟨x,rfl,hx⟩
  | (i, a) :: ps,qs,cs,out,x,hp,hf,hx,hr=>by
    simp only [partsT,Option.bind_eq_some_iff,Option.map_eq_some_iff] at hp
    obtain ⟨⟨off,size⟩,hpl,y,hy,r,hps,rfl⟩:=hp
    simp only [List.map_cons,fillv] at hf
    split at hf
    · rename_i hc
      obtain ⟨hkn,hlen,hle⟩:=hc
      have hv:=hr a y (by simp) hy
      have hcs:=hv.cells (fun e=>by rw [e] at hkn; cases hkn)
      have hcl:(ρ a).cells.toList.length=size:=by rw [← hcs.length]; exact hlen
      have hxl:=hx.length
      have hsz:(ρ a).cells.size=size:=by simpa using hcl
      have hx':VRs μ (cs.take off ++ (y.ev fr).cells ++ cs.drop (off + size)) (x.take off ++ (ρ a).cells.toList ++ x.drop (off + size)):=((hx.take off).append hcs).append (hx.drop _)
      obtain ⟨z,hz,hzr⟩:=fillv_run hps hf hx' fun b y' hb=>hr b y' (by simp at hb ⊢; exact .inr hb)
      refine ⟨z,?_,hzr⟩
      simp only [List.map_cons,Instr.fill,hpl]
      rw [if_neg ?_]
      · have:((ρ a).cells.zipIdx.foldl (fun cs (c,j)=>cs.setIfInBounds (off + j) c) (⟨x⟩:Array Value))=⟨x.take off ++ (ρ a).cells.toList ++ x.drop (off + size)⟩:=by
          rw [← Array.foldl_toList,Array.toList_zipIdx,fold_set (ρ a).cells.toList off 0 ⟨x⟩ (by simp; omega)]
          simp [hcl]
        rw [this]; exact hz
      · have h1:(ρ a).cells.size=size:=by simpa using hcl
        simp [h1]; omega
    · cases hf
theorem optI_run {μ:Mu} {fr:Fr} {ρ:Operand → Value} {x:Option Operand} {y:Option Opd} {z:Option Int} (hy:opdO x=some y) (hz:optI fr y=some z)
    (hr:∀ a b,a ∈ x.toArray → opdT a=some b → VR μ (b.ev fr) (ρ a)):(x=none ∧ z=none) ∨ ∃ a k i,x=some a ∧ z=some i ∧ ρ a=.int k i:=by
  cases x with
  | none=>simp [opdO] at hy; subst hy; simp [optI] at hz; exact .inl ⟨rfl,hz.symm⟩
  | some a =>
    simp only [opdO,Option.map_eq_some_iff] at hy
    obtain ⟨b,hb,rfl⟩:=hy
    simp only [optI,Option.map_eq_some_iff] at hz
    obtain ⟨i,hi,rfl⟩:=hz
    have hv:=hr a b (by simp) hb
    unfold idxv at hi
    split at hi
    · rename_i k j e
      cases hi
      rw [e] at hv
      have key:ρ a=.int k i:=by generalize ρ a=u at hv; cases hv; rfl
      exact .inr ⟨a,k,i,rfl,rfl,key⟩
    · cases hi
theorem r_bound {k:IntKind} {i:Int} {y:Nat} {code:BoundsCode} (h0:0 ≤ i) (h1:i ≤ y) (w:World):(Instr.sliceBound (.int k i) y code).run P w=.ok i.toNat w:=by
  simp [Instr.sliceBound,asIntOf,h0,h1]
theorem bnds_run {isS:Bool} {len c l h:Nat} {cap r:Option Nat} {lo hi mx:Option Int} {vlo vhi vmx:Option Value} (hb:bnds len cap lo hi mx=some (l,h,r)) (hlc:len ≤ c) (hc:∀ k,cap=some k → c=k)
    (hlo:(vlo=none ∧ lo=none) ∨ ∃ k i,vlo=some (.int k i) ∧ lo=some i) (hhi:(vhi=none ∧ hi=none) ∨ ∃ k i,vhi=some (.int k i) ∧ hi=some i) (hmx:(vmx=none ∧ mx=none) ∨ ∃ k i,vmx=some (.int k i) ∧ mx=some i) (w:World) :
    ∃ m,(Instr.sliceBounds isS len c vlo vhi vmx).run P w=.ok (l,h,m) w ∧ l ≤ h ∧ h ≤ m ∧ m ≤ c ∧ (∀ k,r=some k → m - l=k):=by
  have hcl:cap.getD len ≤ c:=by
    cases cap with
    | none=>simpa using hlc
    | some k=>simp [hc k rfl]
  unfold bnds at hb
  rcases hmx with ⟨rfl,rfl⟩ | ⟨km,im,rfl,rfl⟩ <;> rcases hhi with ⟨rfl,rfl⟩ | ⟨kh,ih,rfl,rfl⟩ <;> rcases hlo with ⟨rfl,rfl⟩ | ⟨kl,il,rfl,rfl⟩ <;> simp only [] at hb
  · cases hb
    refine ⟨c,by simp [Instr.sliceBounds],by omega,by omega,Nat.le_refl _,fun k hk=>by have:=hc k hk; omega⟩
  · split at hb
    · rename_i hh; cases hb
      refine ⟨c,by simp [Instr.sliceBounds,r_bound hh.1 hh.2],by omega,by omega,Nat.le_refl _,fun k hk=>?_⟩
      simp at hk; obtain ⟨q,hq,rfl⟩:=hk; rw [hc q hq]
    · cases hb
  · split at hb
    · rename_i hh; cases hb
      refine ⟨c,?_,by omega,by omega,Nat.le_refl _,fun k hk=>by have:=hc k hk; omega⟩
      have:0 ≤ ih ∧ ih ≤ (c:Int):=⟨hh.1,by omega⟩
      simp [Instr.sliceBounds,r_bound this.1 this.2]
    · cases hb
  · split at hb
    · rename_i hh
      split at hb
      · rename_i hg; cases hb
        have h1:0 ≤ ih ∧ ih ≤ (c:Int):=⟨hh.1,by omega⟩
        have h2:0 ≤ il ∧ il ≤ (ih.toNat:Int):=⟨hg.1,by omega⟩
        refine ⟨c,by simp [Instr.sliceBounds,r_bound h1.1 h1.2,r_bound h2.1 h2.2],by omega,by omega,Nat.le_refl _,fun k hk=>?_⟩
        simp at hk; obtain ⟨q,hq,rfl⟩:=hk; rw [hc q hq]
      · cases hb
    · cases hb
  · split at hb <;> cases hb
  · split at hb <;> cases hb
  · split at hb
    · rename_i hh
      split at hb
      · rename_i hg; cases hb
        have h1:0 ≤ im ∧ im ≤ (c:Int):=⟨hh.1,by omega⟩
        have h2:0 ≤ ih ∧ ih ≤ (im.toNat:Int):=⟨hg.1,by omega⟩
        refine ⟨im.toNat,by simp [Instr.sliceBounds,r_bound h1.1 h1.2,r_bound h2.1 h2.2],by omega,by omega,by omega,fun k hk=>by simp at hk; omega⟩
      · cases hb
    · cases hb
  · split at hb
    · rename_i hh
      split at hb
      · rename_i hg
        split at hb
        · rename_i hf; cases hb
          have h1:0 ≤ im ∧ im ≤ (c:Int):=⟨hh.1,by omega⟩
          have h2:0 ≤ ih ∧ ih ≤ (im.toNat:Int):=⟨hg.1,by omega⟩
          have h3:0 ≤ il ∧ il ≤ (ih.toNat:Int):=⟨hf.1,by omega⟩
          refine ⟨im.toNat,by simp [Instr.sliceBounds,r_bound h1.1 h1.2,r_bound h2.1 h2.2,r_bound h3.1 h3.2],by omega,by omega,by omega,fun k hk=>by simp at hk; omega⟩
        · cases hb
      · cases hb
    · cases hb
end Go.Sh

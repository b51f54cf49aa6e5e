import Derived.Test.YtepecbjlfekkaaaShMem
set_option linter.all false
set_option linter.unusedVariables false
set_option linter.unusedSimpArgs false
set_option autoImplicit false
namespace Go.Sh
variable {P:Program}
theorem r_und {t:TypeId} {d:TypeDesc} (h:P.underlying t=some d) (w:World):(underlying t).run P w=.ok d w:=by
  simp [underlying,h]
theorem r_sz {t:TypeId} {n:Nat} (h:szT P t=some n) (w:World):(sizeOf t).run P w=.ok n w:=by
  unfold szT at h
  cases hi:P.info? t with
  | none=>simp [hi] at h
  | some i=>simp [hi] at h; simp [sizeOf,typeInfo,hi,h]
theorem r_info {t:TypeId} {i:TypeInfo} (h:P.info? t=some i) (w:World):(typeInfo t).run P w=.ok i w:=by simp [typeInfo,h]
theorem r_by {t:TypeId} {n:Nat} (h:byT P t=some n) (w:World):∃ i,(typeInfo t).run P w=.ok i w ∧ i.bytes=n:=by
  unfold byT at h
  cases hi:P.info? t with
  | none=>simp [hi] at h
  | some i=>simp [hi] at h; exact ⟨i,r_info hi w,h⟩
theorem r_zero {t:TypeId} {z:SV} (h:zeroT P t=some z) (w:World):∃ v,(zeroValue t).run P w=.ok v w ∧ ∀ μ,VR μ z v:=by
  unfold zeroT at h
  simp only [Option.bind_eq_some_iff] at h
  obtain ⟨v,⟨i,hi,hz⟩,hv⟩:=h
  exact ⟨v,by simp [zeroValue,typeInfo,hi,hz],fun μ=>ofV_rel _ _ _ hv⟩
theorem r_agg {t:TypeId} {b:Bool} (h:aggT P t=some b) (w:World):(isAgg t).run P w=.ok b w:=by
  unfold aggT at h
  cases hu:P.underlying t with
  | none=>simp [hu] at h
  | some d=>simp only [hu,Option.map_some,Option.some.injEq] at h; subst h; simp only [isAgg,Sem.run_bind,r_und hu,Result.andThen_ok]; cases d <;> rfl
theorem r_part {t:TypeId} {n:Option Nat} (h:varT P t=some n) {μ:Mu} {l:List SV} {x:List Value} (hl:VRs μ l x) {off:Nat} {v:SV}
    (hv:partv l off n=some v) (w:World) :
    ∃ u,(part t ⟨x⟩ off).run P w=.ok u w ∧ VR μ v u:=by
  unfold varT at h
  simp only [Option.bind_eq_some_iff,Option.map_eq_some_iff] at h
  obtain ⟨a,ha,s,hs,rfl⟩:=h
  cases a with
  | true =>
    simp only [partv,if_true] at hv
    split at hv
    · cases hv
      refine ⟨.agg ((⟨x⟩:Array Value).extract off (off + s)),by simp [part,r_agg ha,r_sz hs],?_⟩
      have:((⟨x⟩:Array Value).extract off (off + s))=⟨(x.drop off).take s⟩:=by
        apply Array.toList_inj.1; simp [List.extract_eq_take_drop]
      rw [this]
      exact .agg ((hl.drop off).take s)
    · cases hv
  | false =>
    simp only [partv,Bool.false_eq_true,if_false] at hv
    obtain ⟨u,hu,hr⟩:=hl.get hv
    exact ⟨u,by simp [part,r_agg ha,hu],hr⟩
def SOp.spec:SOp → Bool
  | .alloc _ _ | .box _ _ _ | .append _ _ _ _ _ _ | .store _ _ _ _ | .call _ _ | .mapset _ _ _ _ _=>true
  | _=>false
theorem base_eq {so t:SOp} (h:so.base=t) (ht:t.spec=false):so=t:=by
  cases so <;> simp only [SOp.base] at h <;> first | exact h | (subst h; simp [SOp.spec] at ht)
theorem base_mapset {so:SOp} {ag:Bool} {ks:List Kd} {m k x:Opd} (h:so.base=.mapset ag ks m k x):so=.mapset ag ks m k x ∨ ∃ lo,so=.mapsetL lo ag ks m k x:=by
  cases so <;> simp only [SOp.base,reduceCtorEq,SOp.mapset.injEq] at h
  · obtain ⟨rfl,rfl,rfl,rfl,rfl⟩:=h; exact .inl rfl
  · obtain ⟨rfl,rfl,rfl,rfl,rfl⟩:=h; exact .inr ⟨_,rfl⟩
theorem base_call {so:SOp} {f:FuncId} {args:List Opd} (h:so.base=.call f args):so=.call f args ∨ ∃ lo,so=.callL lo f args:=by
  cases so <;> simp only [SOp.base,reduceCtorEq,SOp.call.injEq] at h
  · obtain ⟨rfl,rfl⟩:=h; exact .inl rfl
  · obtain ⟨rfl,rfl⟩:=h; exact .inr ⟨_,rfl⟩
def OpsR (μ:Mu) (fr:Fr) (ρ:Operand → Value) (o:Op):Prop:=∀ x y,x ∈ o.operands → opdT x=some y → VR μ (y.ev fr) (ρ x)
theorem opdsT_rel {μ:Mu} {fr:Fr} {ρ:Operand → Value}:∀ {l:List Operand} {k:List Opd},opdsT l=some k → (∀ x y,x ∈ l → opdT x=some y → VR μ (y.ev fr) (ρ x)) →
    VRs μ (k.map (·.ev fr)) (l.map ρ)
  | [],k,h,_=>by simp [opdsT] at h; subst h; exact .nil
  | x :: r,k,h,hr=>by
    simp only [opdsT,Option.bind_eq_some_iff,Option.map_eq_some_iff] at h
    obtain ⟨y,hy,s,hs,rfl⟩:=h
    exact .cons (hr x y List.mem_cons_self hy) (opdsT_rel hs fun a b ha=>hr a b (List.mem_cons_of_mem _ ha))
theorem binv_run {op:BinOp} {x y z:SV} {μ:Mu} {u v:Value} (h:binv op x y=some z) (hu:VR μ x u) (hv:VR μ y v) (t:TypeId) (w:World) :
    ∃ r,(binOp op t u v).run P w=.ok r w ∧ VR μ z r:=by
  unfold binv at h
  split at h
  · rename_i k a j b
    cases hu; cases hv
    cases op <;> simp only [ibits,Option.map_some,Option.map_none] at h <;> (try (split at h)) <;> (try cases h) <;> (try (split at h)) <;> (try cases h) <;>
      (try subst_vars) <;>
      first
      | (refine ⟨_,by simp [binOp,Op.shift, *]; rfl,?_⟩; constructor; done)
      | (refine ⟨_,by simp [binOp,Op.intArith,Op.intDiv,Op.intBits,Op.intCmp, *]; rfl,?_⟩; constructor; done)
      | skip
  · rename_i a b
    cases hu; cases hv
    cases op <;> simp at h <;> subst h <;> exact ⟨_,by simp [binOp,Op.stringOp]; rfl,by constructor⟩
  · cases h
theorem unv_run {op:UnOp} {x z:SV} {μ:Mu} {u:Value} (h:unv op x=some z) (hu:VR μ x u) (w:World):∃ r,(Op.unary op u).run P w=.ok r w ∧ VR μ z r:=by
  unfold unv at h
  split at h
  · cases h; cases hu
    exact ⟨_,by simp [Op.unary,Op.intArith],.int _ _⟩
  · simp [ibits] at h; subst h; cases hu
    exact ⟨_,by simp [Op.unary,Op.intBits],.int _ _⟩
  · cases h; cases hu
    exact ⟨_,by simp [Op.unary],.bool _⟩
  · cases h
theorem mxmnL_run {mx:Bool} {μ:Mu}:∀ {r:List SV} {x z:SV} {u:Value} {s:List Value},mxmnL mx x r=some z → VR μ x u → VRs μ r s → ∀ w,
    ∃ v,(List.foldlM (if mx then Builtin.max2 else Builtin.min2) u s).run P w=.ok v w ∧ VR μ z v
  | [],x,z,u,s,h,hu,hs,w=>by simp [mxmnL] at h; subst h; cases hs; exact ⟨u,by simp,hu⟩
  | y :: r,x,z,u,s,h,hu,hs,w=>by
    cases hs with
    | cons hv ht =>
      simp only [mxmnL,Option.bind_eq_some_iff] at h
      obtain ⟨q,hq,h⟩:=h
      unfold mxmn2 at hq
      split at hq
      · rename_i k a j b
        split at hq
        · rename_i e
          subst e
          cases hq
          cases hu; cases hv
          obtain ⟨v,hv,hz⟩:=mxmnL_run h (.int _ _) ht w
          cases mx
          · exact ⟨v,by simpa [Builtin.min2] using hv,hz⟩
          · exact ⟨v,by simpa [Builtin.max2] using hv,hz⟩
        · cases hq
      · cases hq
end Go.Sh

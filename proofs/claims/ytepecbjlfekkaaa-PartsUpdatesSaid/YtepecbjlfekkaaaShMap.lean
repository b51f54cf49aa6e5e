import Derived.Test.YtepecbjlfekkaaaShMo1
set_option linter.all false
set_option linter.unusedVariables false
set_option linter.unusedSimpArgs false
set_option autoImplicit false
namespace Go.Sh
variable {P:Program}
theorem checkKey_ok (empty:Bool):∀ (d D:Nat),d ≤ D → ∀ t ks,eqT P d t=some ks → ∀ (μ:Mu) (la:List SV) (x:List Value) (ag:Bool) w,kdsOk ks la=true → VRs μ la x → aggT P t=some ag →
    (Instr.checkKey empty D t (mkA ag x)).run P w=.ok () w:=by
  intro d
  induction d with
  | zero=>intro D _ t ks h; simp [eqT] at h
  | succ d ih =>
    intro D hD t ks hk μ la x ag w ha hx hag
    obtain ⟨D,rfl⟩:∃ k,D=k + 1:=⟨D - 1,by omega⟩
    cases hu:P.underlying t with
    | none=>simp [eqT,hu] at hk
    | some dd =>
      by_cases hst:∃ fs,dd=.struct fs
      · obtain ⟨fs, rfl⟩:=hst
        obtain ⟨hp,hl,hz⟩:=eqT_struct hk hu
        simp [aggT,hu] at hag
        subst hag
        simp only [mkA,if_true,Instr.checkKey,Sem.run_bind,r_und hu,Result.andThen_ok]
        rw [← Array.forIn_toList]
        have loop : ∀ (l:List Field) (n:Nat) (ks:List Kd),eqFs (eqT P d) l n=some ks → ∀ w,n ≤ la.length → kdsOk ks (la.drop n)=true →
            ((forIn l PUnit.unit fun f (_ : PUnit) => (if f.name ≠ "_" then do Instr.checkKey empty D f.type (← part f.type ⟨x⟩ f.offset); pure (ForInStep.yield PUnit.unit) else do pure PUnit.unit; pure (ForInStep.yield PUnit.unit) : Sem (ForInStep PUnit))).run P w) = .ok PUnit.unit w := by
          intro l
          induction l with
          | nil=>intro n ks _ w _ _; simp
          | cons f l ihl =>
            intro n ks hk w hna ha
            simp only [eqFs] at hk
            split at hk
            · rename_i hc
              obtain ⟨hname,hoff⟩:=hc
              simp only [Option.bind_eq_some_iff,Option.map_eq_some_iff] at hk
              obtain ⟨s,hs1,js,hjs,rfl⟩:=hk
              obtain ⟨ha1,ha2⟩:=kdsOk_append ha
              rw [List.drop_drop] at ha2
              have hla:=kdsOk_length ha
              simp only [List.length_drop,List.length_append] at hla
              have hag:∃ ag,aggT P f.type=some ag ∧ (ag=false → s.length=1) ∧ (ag=true → szT P f.type=some s.length):=by
                cases d with
                | zero=>simp [eqT] at hs1
                | succ d =>
                  have hs2:=hs1
                  unfold eqT at hs1
                  unfold aggT
                  cases hu:P.underlying f.type with
                  | none=>simp [hu] at hs1
                  | some dd =>
                    cases dd
                    case struct fs'=>exact ⟨true,rfl,by simp,fun _=>(eqT_struct hs2 hu).2.2⟩
                    all_goals (rw [hu] at hs1; simp at hs1)
                    all_goals (subst hs1; exact ⟨false,rfl,fun _=>rfl,by simp⟩)
              obtain ⟨ag,hag,hag0,hag1⟩:=hag
              have hzl:=hx.length
              have e1:(part f.type ⟨x⟩ f.offset).run P w=.ok (mkA ag ((x.drop n).take s.length)) w:=by
                cases ag with
                | true =>
                  have:((⟨x⟩:Array Value).extract n (n + s.length))=⟨(x.drop n).take s.length⟩:=by
                    apply Array.toList_inj.1; simp [List.extract_eq_take_drop]
                  simp [part,r_agg hag,r_sz (hag1 rfl),hoff,mkA,this]
                | false =>
                  have h1:=hag0 rfl
                  have hlt:n < x.length:=by omega
                  simp only [part,Sem.run_bind,r_agg hag,Result.andThen_ok,hoff]
                  rw [h1]
                  have h2:(x.drop n).take 1=[x[n]]:=by rw [List.drop_eq_getElem_cons hlt]; rfl
                  rw [h2]
                  simp [hlt,mkA]
              have e2:=ih D (by omega) f.type s hs1 μ _ _ ag w ha1 ((hx.drop n).take s.length) hag
              simp only [List.forIn_cons,Sem.run_bind,if_pos hname,e1,e2,Result.andThen_ok,Sem.run_pure]
              exact ihl (n + s.length) js hjs w (by omega) ha2
            · cases hk
        have:=loop fs.toList 0 ks hl w (Nat.zero_le _) (by simpa using ha)
        simp at this ⊢
        rw [this]; rfl
      · have hnone:∀ k v,(∀ ms,dd ≠ .interface ms) → (∀ n e,dd ≠ .array n e) → (∀ fs,dd ≠ .struct fs) → (Instr.checkKey empty (k + 1) t v).run P w=.ok () w:=by
          intro k v h1 h2 h3
          simp only [Instr.checkKey,Sem.run_bind,r_und hu,Result.andThen_ok]
          cases dd <;> first | (exact absurd rfl (h1 _)) | (exact absurd rfl (h2 _ _)) | (exact absurd rfl (h3 _)) | rfl
        refine hnone D _ ?_ ?_ ?_
        · intro ms e; subst e; simp [eqT,hu] at hk
        · intro n e' e; subst e; simp [eqT,hu] at hk
        · intro fs e; exact hst ⟨fs,e⟩
theorem likeK_split {μ:Mu} {ag:Bool} {ks:List Kd} {v:SV} {u:Value} (hl:likeK ag ks v=true) (hv:VR μ v u) (hk:ag=false → ks.length=1) :
    ∃ l x,v.cells=l ∧ u=mkA ag x ∧ VRs μ l x ∧ kdsOk ks l=true ∧ (ag=true → v=.agg l) ∧ (ag=false → l=[v]):=by
  simp only [likeK,Bool.and_eq_true,beq_iff_eq] at hl
  cases ag with
  | true =>
    cases v <;> simp [SV.isAgg] at hl
    obtain ⟨x,rfl,hx⟩:=hv.agg_inv
    exact ⟨_,x,rfl,rfl,hx,hl,fun _=>rfl,by simp⟩
  | false =>
    have hc:v.cells=[v]:=by cases v <;> simp [SV.isAgg] at hl <;> rfl
    exact ⟨[v],[u],hc,rfl,.cons hv .nil,hc ▸ hl.2,by simp,fun _=>rfl⟩
theorem kdsOk_seqs:∀ {ks:List Kd} {a b:List SV} {r:Bool},(∀ k ∈ ks,k=.int ∨ k=.bool ∨ k=.str) → kdsOk ks a=true → seqs a b=some r → kdsOk ks b=true
  | [],[],[],_,_,_,_=>rfl
  | [],[],_ :: _,_,_,_,h=>by simp [seqs] at h
  | [],_ :: _,_,_,_,h,_=>by simp [kdsOk] at h
  | _ :: _,[],_,_,_,h,_=>by simp [kdsOk] at h
  | _ :: _,_ :: _,[],_,_,_,h=>by simp [seqs] at h
  | k :: ks,x :: a,y :: b,r,hk,ha,h=>by
    simp only [seqs] at h
    split at h
    · rename_i p q hp hq
      simp only [kdsOk,Bool.and_eq_true] at ha ⊢
      refine ⟨?_,kdsOk_seqs (fun j hj=>hk j (List.mem_cons_of_mem _ hj)) ha.2 hq⟩
      rcases hk k List.mem_cons_self with rfl | rfl | rfl <;> cases x <;> simp [Kd.ok] at ha <;> cases y <;> simp [seq] at hp <;> rfl
    · cases h
theorem likeK_seq {ag:Bool} {ks:List Kd} {a b:SV} {r:Bool} (hk:∀ k ∈ ks,k=.int ∨ k=.bool ∨ k=.str) (ha:likeK ag ks a=true) (h:seq a b=some r):likeK ag ks b=true:=by
  simp only [likeK,Bool.and_eq_true,beq_iff_eq] at ha ⊢
  obtain ⟨h1,h2⟩:=ha
  by_cases hag:a.isAgg=true
  · cases a <;> simp [SV.isAgg] at hag
    cases b <;> simp [seq] at h
    rename_i l l'
    exact ⟨by rw [← h1]; rfl,kdsOk_seqs hk h2 h⟩
  · have hb:b.isAgg=false ∧ b.cells=[b] ∧ a.cells=[a]:=by
      cases a <;> simp [SV.isAgg] at hag <;> cases b <;> simp [seq] at h <;> simp [SV.isAgg,SV.cells]
    rw [hb.2.2] at h2
    have:seqs [a] [b]=some r:=by simp [seqs,h]
    exact ⟨by rw [hb.1,← h1]; simpa using hag,by rw [hb.2.1]; exact kdsOk_seqs hk h2 this⟩
theorem eqFs_kinds {d:Nat} (ih:∀ t ks,eqT P d t=some ks → ∀ k ∈ ks,k=.int ∨ k=.bool ∨ k=.str):∀ (fs:List Field) (n:Nat) (l:List Kd),eqFs (eqT P d) fs n=some l → ∀ k ∈ l,k=.int ∨ k=.bool ∨ k=.str
  | [],n,l,h=>by simp [eqFs] at h; subst h; simp
  | f :: fs,n,l,h=>by
    simp only [eqFs] at h
    split at h
    · simp only [Option.bind_eq_some_iff,Option.map_eq_some_iff] at h
      obtain ⟨s,hs,js,hjs,rfl⟩:=h
      intro k hk
      rcases List.mem_append.1 hk with hk | hk
      · exact ih _ _ hs k hk
      · exact eqFs_kinds ih fs _ js hjs k hk
    · cases h
theorem eqT_kinds:∀ (d:Nat) t ks,eqT P d t=some ks → ∀ k ∈ ks,k=.int ∨ k=.bool ∨ k=.str
  | 0,_,_,h=>by simp [eqT] at h
  | d + 1,t,ks,h=>by
    cases hu:P.underlying t with
    | none=>simp [eqT,hu] at h
    | some dd =>
      by_cases hst:∃ fs,dd=.struct fs
      · obtain ⟨fs,rfl⟩:=hst
        exact eqFs_kinds (eqT_kinds d) _ _ _ (eqT_struct h hu).2.1
      · unfold eqT at h
        rw [hu] at h
        cases dd <;> simp at h
        case struct fs=>exact absurd ⟨fs,rfl⟩ hst
        all_goals (subst h; simp)
theorem eqT_len {d:Nat} {t:TypeId} {ks:List Kd} (h:eqT P d t=some ks) (ha:aggT P t=some false):ks.length=1:=by
  cases d with
  | zero=>simp [eqT] at h
  | succ d =>
    cases hu:P.underlying t with
    | none=>simp [eqT,hu] at h
    | some dd =>
      unfold eqT at h
      unfold aggT at ha
      rw [hu] at h ha
      cases dd <;> simp at h ha
      all_goals (subst h; rfl)
theorem equal_run {kt:TypeId} {ks:List Kd} {ag:Bool} (hk:eqT P 8 kt=some ks) (hag:aggT P kt=some ag) {μ:Mu} {a b:SV} {u v:Value} {r:Bool} (ha:likeK ag ks a=true) (hs:seq a b=some r) (hu:VR μ a u) (hv:VR μ b v) (w:World) :
    (Op.equal kt u v).run P w=.ok r w:=by
  have hb:=likeK_seq (eqT_kinds 8 kt ks hk) ha hs
  have hl1:ag=false → ks.length=1:=fun e=>eqT_len hk (e ▸ hag)
  obtain ⟨l,x,h1,rfl,h3,h4,h5,h6⟩:=likeK_split ha hu hl1
  obtain ⟨l',x',h1',rfl,h3',h4',h5',h6'⟩:=likeK_split hb hv hl1
  have hss:seqs l l'=some r:=by
    cases ag with
    | true=>rw [h5 rfl,h5' rfl] at hs; simpa [seq] using hs
    | false=>rw [h6 rfl,h6' rfl]; simp [seqs,hs]
  exact eq_run 8 10000 (by omega) kt ks hk μ l l' x x' r ag w h4 h4' h3 h3' hss hag
mutual
theorem seq_bits {μ:Mu} {n:Nat}:∀ {a b:SV} {u v:Value},seq a b=some true → VR μ a u → VR μ b v → (∀ l,a ≠ .agg l) → (∃ k:Kd,(k=.int ∨ k=.bool ∨ k=.str) ∧ k.ok a=true) → Instr.sameBits n v u=true
  | a,b,u,v,h,hu,hv,_,⟨k,hk,hka⟩=>by
    rcases hk with rfl | rfl | rfl <;> cases a <;> simp [Kd.ok] at hka <;> cases b <;> simp [seq] at h <;> cases hu <;> cases hv
    · obtain ⟨rfl,rfl⟩:=h; simp [Instr.sameBits]
    · subst h; simp [Instr.sameBits]
    · simp [Instr.sameBits,beq_toListBytes,h]
end
theorem seqs_bits {μ:Mu} {n:Nat}:∀ {ks:List Kd} {a b:List SV} {x y:List Value},seqs a b=some true → VRs μ a x → VRs μ b y → kdsOk ks a=true → (∀ k ∈ ks,k=.int ∨ k=.bool ∨ k=.str) →
    ((y.zip x).all fun (p,q)=>Instr.sameBits n p q)=true ∧ y.length=x.length
  | ks,[],[],_,_,_,.nil,.nil,_,_=>by simp
  | ks,[],_ :: _,_,_,h,_,_,_,_=>by simp [seqs] at h
  | ks,_ :: _,[],_,_,h,_,_,_,_=>by simp [seqs] at h
  | [],_ :: _,_ :: _,_,_,_,_,_,h,_=>by simp [kdsOk] at h
  | k :: ks,a :: l,b :: l',_,_,h,.cons h1 t1,.cons h2 t2,hk,hks=>by
    simp only [seqs] at h
    split at h
    · rename_i p q hp hq
      simp only [Option.some.injEq,Bool.and_eq_true] at h
      obtain ⟨rfl,rfl⟩:=h
      simp only [kdsOk,Bool.and_eq_true] at hk
      have ih:=seqs_bits (n:=n) hq t1 t2 hk.2 fun j hj=>hks j (List.mem_cons_of_mem _ hj)
      have hna:∀ m,a ≠ .agg m:=by
        intro m e; subst e; rcases hks k List.mem_cons_self with rfl | rfl | rfl <;> simp [Kd.ok] at hk
      have:=seq_bits (n:=n) hp h1 h2 hna ⟨k,hks k List.mem_cons_self,hk.1⟩
      simp [this,ih]
    · cases h
theorem same_bits {kt:TypeId} {ks:List Kd} {ag:Bool} (hk:eqT P 8 kt=some ks) (hag:aggT P kt=some ag) {μ:Mu} {a b:SV} {u v:Value} (ha:likeK ag ks a=true) (hs:seq a b=some true) (hu:VR μ a u) (hv:VR μ b v) :
    Instr.sameBits 10000 v u=true:=by
  have hks:=eqT_kinds 8 kt ks hk
  have hb:=likeK_seq hks ha hs
  have hl1:ag=false → ks.length=1:=fun e=>eqT_len hk (e ▸ hag)
  obtain ⟨l,x,h1,rfl,h3,h4,h5,h6⟩:=likeK_split ha hu hl1
  obtain ⟨l',x',h1',rfl,h3',h4',h5',h6'⟩:=likeK_split hb hv hl1
  cases ag with
  | true =>
    rw [h5 rfl,h5' rfl] at hs
    simp only [seq] at hs
    have:=seqs_bits (n:=9999) hs h3 h3' h4 hks
    show Instr.sameBits (9999 + 1) (.agg ⟨x'⟩) (.agg ⟨x⟩)=true
    simp [Instr.sameBits,this.2,this.1]
  | false =>
    have e1:=h6 rfl
    have e2:=h6' rfl
    subst e1 e2
    cases h3 with
    | cons q1 t1=>cases t1; cases h3' with
      | cons q2 t2 =>
        cases t2
        have hna:∀ m,a ≠ .agg m:=by
          intro m e; subst e; simp [likeK,SV.isAgg] at ha
        have hlen:=hl1 rfl
        match ks,hlen,h4,hks with
        | [k],_,h4,hks =>
          simp only [kdsOk,Bool.and_true] at h4
          exact seq_bits hs q1 q2 hna ⟨k,hks k (by simp),h4⟩
theorem ask_run {kt:TypeId} {ks:List Kd} {ag:Bool} (hk:eqT P 8 kt=some ks) (hag:aggT P kt=some ag) {μ:Mu} {k:SV} {u:Value} (hl:likeK ag ks k=true) (hu:VR μ k u) (w:World) :
    ∀ {es:List (SV × SV)} {E:List MapEntry} {r:Option SV} (i:Nat),assoc k es=some r → MR μ es E →
      (r=none ∧ (Instr.findAsking kt u E i).run P w=.ok none w ∧ assocDel k es=es ∧ (∀ x v,VR μ x v → ∀ b,MR μ (assocSet k x es) (E ++ [⟨u,v,b⟩]))) ∨
      (∃ n z q e,r=some z ∧ (Instr.findAsking kt u E i).run P w=.ok (some (i + n,q)) w ∧ VR μ z q ∧ E[n]? = some e ∧ Instr.sameBits 10000 e.key u=true ∧ MR μ (assocDel k es) (E.eraseIdx n) ∧
        (∀ x v,VR μ x v → MR μ (assocSet k x es) (E.modify n fun e=>{ e with key:=u,val:=v })))
  | [],[],r,i,h,_=>by
    simp [assoc] at h; subst h
    exact .inl ⟨rfl,by simp [Instr.findAsking],rfl,fun x v hx b=>by simp [assocSet,MR,hu,hx]⟩
  | [],_ :: _,_,_,_,hm=>hm.elim
  | _ :: _,[],_,_,_,hm=>by cases hm
  | (a, z) :: es,e :: E,r,i,h,⟨h1,h2,h3⟩=>by
    simp only [assoc] at h
    split at h
    · rename_i hs
      cases h
      have he:=equal_run hk hag hl hs hu h1 w
      refine .inr ⟨0,z,e.val,e,rfl,by simp [Instr.findAsking,he],h2,rfl,same_bits hk hag hl hs hu h1,by simpa [assocDel,hs] using h3,fun x v hx=>?_⟩
      simp [assocSet,hs,MR,hu,hx,h3]
    · rename_i hs
      have he:=equal_run hk hag hl hs hu h1 w
      rcases ask_run hk hag hl hu w (i + 1) h h3 with ⟨q1,q2,q3,q4⟩ | ⟨n,z',q,e',q1,q2,q3,q4,q5,q6,q7⟩
      · exact .inl ⟨q1,by simp [Instr.findAsking,he,q2],by simp [assocDel,hs,q3],fun x v hx b=>by simp [assocSet,hs,MR,h1,h2]; exact q4 x v hx b⟩
      · refine .inr ⟨n + 1,z',q,e',q1,by simp [Instr.findAsking,he,q2]; omega,q3,by simpa using q4,q5,by simp [assocDel,hs,MR,h1,h2]; exact q6,fun x v hx=>?_⟩
        simp [assocSet,hs,MR,h1,h2]
        exact q7 x v hx
    · cases h
theorem now_run {kt:TypeId} {kd:TypeDesc} {u:Value} {w:World}:∀ {E:List MapEntry} {i:Nat} {r:Option (Nat × Value)},P.underlying kt=some kd → Instr.findNow kd u E i=some r → (Instr.findAsking kt u E i).run P w=.ok r w
  | [],i,r,_,h=>by simp [Instr.findNow] at h; subst h; simp [Instr.findAsking]
  | e :: E,i,r,hu,h=>by
    simp only [Instr.findNow] at h
    have key:∀ q b,Instr.sameNow kd u q=some b → (Op.equal kt u q).run P w=.ok b w:=by
      intro q b hb
      unfold Instr.sameNow at hb
      split at hb
      · split at hb
        · cases hb; subst_vars; exact eqD fun d=>by simp [Op.equalIn,r_und hu]
        · cases hb
      · cases hb; exact eqD fun d=>by simp [Op.equalIn,r_und hu,beq_toListBytes]
      · cases hb; exact eqD fun d=>by simp [Op.equalIn,r_und hu]
      · cases hb
    split at h
    · rename_i hs; cases h; simp [Instr.findAsking,key _ true hs]
    · rename_i hs; simp [Instr.findAsking,key _ false hs,now_run hu h]
    · cases h
theorem find_run {kt:TypeId} {kd:TypeDesc} {u:Value} {E:List MapEntry} {r:Option (Nat × Value)} {w:World} (hu:P.underlying kt=some kd) (h:(Instr.findAsking kt u E 0).run P w=.ok r w):(Instr.findKey kt u E).run P w=.ok r w:=by
  simp only [Instr.findKey,Sem.run_bind,r_und hu,Result.andThen_ok]
  cases hn:Instr.findNow kd u E 0 with
  | none=>exact h
  | some q =>
    have:=now_run (w:=w) hu hn
    rw [h] at this
    cases this
    rfl
end Go.Sh

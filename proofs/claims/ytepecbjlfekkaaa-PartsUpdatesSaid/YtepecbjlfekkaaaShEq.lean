import Derived.Test.YtepecbjlfekkaaaShPure2
import Derived.Laws.StructEq
import Derived.ChangeKeysEq
set_option linter.all false
set_option linter.unusedVariables false
set_option linter.unusedSimpArgs false
set_option autoImplicit false
namespace Go.Sh
variable {P:Program}
theorem kdsOk_length:∀ {ks:List Kd} {l:List SV},kdsOk ks l=true → l.length=ks.length
  | [],[],_=>rfl
  | [],_ :: _,h=>by simp [kdsOk] at h
  | _ :: _,[],h=>by simp [kdsOk] at h
  | _ :: r,_ :: s,h=>by simp [kdsOk] at h; simp [kdsOk_length h.2]
theorem kdsOk_append:∀ {ks js:List Kd} {l:List SV},kdsOk (ks ++ js) l=true → kdsOk ks (l.take ks.length)=true ∧ kdsOk js (l.drop ks.length)=true
  | [],js,l,h=>by simpa [kdsOk] using h
  | k :: r,js,[],h=>by simp [kdsOk] at h
  | k :: r,js,v :: s,h=>by
    simp [kdsOk] at h
    have:=kdsOk_append h.2
    simp [kdsOk,h.1,this]
theorem seqs_split:∀ {n:Nat} {a b:List SV} {r:Bool},seqs a b=some r → ∃ p q,seqs (a.take n) (b.take n)=some p ∧ seqs (a.drop n) (b.drop n)=some q ∧ r=(p && q)
  | 0,a,b,r,h=>⟨true,r,by simp [seqs],by simpa using h,by simp⟩
  | n + 1,[],[],r,h=>by simp [seqs] at h; subst h; exact ⟨true,true,by simp [seqs],by simp [seqs],rfl⟩
  | n + 1,[],_ :: _,r,h=>by simp [seqs] at h
  | n + 1,_ :: _,[],r,h=>by simp [seqs] at h
  | n + 1,x :: a,y :: b,r,h=>by
    simp only [seqs] at h
    split at h
    · rename_i p q hp hq
      cases h
      obtain ⟨p',q',h1,h2,rfl⟩:=seqs_split (n:=n) hq
      exact ⟨p && p',q',by simp [seqs,hp,h1],by simpa using h2,by simp [Bool.and_assoc]⟩
    · cases h
theorem eqT_struct {d:Nat} {t:TypeId} {ks:List Kd} {fs:Array Field} (h:eqT P (d + 1) t=some ks) (hu:P.underlying t=some (.struct fs)) :
    P.stoodInHeld t=false ∧ eqFs (eqT P d) fs.toList 0=some ks ∧ szT P t=some ks.length:=by
  unfold eqT at h
  rw [hu] at h
  dsimp only at h
  split at h
  · cases h
  · rename_i hs
    simp only [Option.bind_eq_some_iff] at h
    obtain ⟨l,hl,h⟩:=h
    split at h
    · rename_i hz; cases h; exact ⟨by simpa using hs,hl,hz⟩
    · cases h
def mkA (ag:Bool) (x:List Value):Value:=if ag then .agg ⟨x⟩ else x.headD undef
theorem eqFs_run {d D:Nat} (hD:∀ t ks,eqT P d t=some ks → ∀ (μ:Mu) (la lb:List SV) (x y:List Value) (r ag:Bool) w,kdsOk ks la=true → kdsOk ks lb=true → VRs μ la x → VRs μ lb y → seqs la lb=some r → aggT P t=some ag →
      (Op.equalIn D t (mkA ag x) (mkA ag y)).run P w=.ok r w) :
    ∀ (fs:List Field) (n:Nat) (ks:List Kd),eqFs (eqT P d) fs n=some ks → ∀ (μ:Mu) (la lb:List SV) (x y:List Value) (r:Bool) (w:World),n ≤ la.length → n ≤ lb.length → kdsOk ks (la.drop n)=true → kdsOk ks (lb.drop n)=true → VRs μ la x → VRs μ lb y →
      seqs (la.drop n) (lb.drop n)=some r → (Op.eqFields D ⟨x⟩ ⟨y⟩ fs).run P w=.ok r w:=by
  intro fs
  induction fs with
  | nil =>
    intro n ks hk μ la lb x y r w hna hnb ha hb hx hy hs
    simp [eqFs] at hk; subst hk
    have h1:la.drop n=[]:=by cases h:la.drop n with | nil=>rfl | cons a b=>rw [h] at ha; simp [kdsOk] at ha
    have h2:lb.drop n=[]:=by cases h:lb.drop n with | nil=>rfl | cons a b=>rw [h] at hb; simp [kdsOk] at hb
    rw [h1,h2] at hs; simp [seqs] at hs; subst hs
    simp [Op.eqFields]
  | cons f fs ih =>
    intro n ks hk μ la lb x y r w hna hnb ha hb hx hy hs
    simp only [eqFs] at hk
    split at hk
    · rename_i hc
      obtain ⟨hname,hoff⟩:=hc
      simp only [Option.bind_eq_some_iff,Option.map_eq_some_iff] at hk
      obtain ⟨s,hs1,js,hjs,rfl⟩:=hk
      obtain ⟨ha1,ha2⟩:=kdsOk_append ha
      obtain ⟨hb1,hb2⟩:=kdsOk_append hb
      obtain ⟨p,q,hp,hq,rfl⟩:=seqs_split (n:=s.length) hs
      rw [List.drop_drop] at ha2 hb2
      rw [List.drop_drop,List.drop_drop] at hq
      have hla:=kdsOk_length ha
      have hlb:=kdsOk_length hb
      simp only [List.length_drop,List.length_append] at hla hlb
      -- the two parts
      have hag:∃ ag,aggT P f.type=some ag ∧ (ag=false → s.length=1) ∧ (ag=true → szT P f.type=some s.length):=by
        cases d with
        | zero=>simp [eqT] at hs1
        | succ d =>
          have hs2:=hs1
          unfold eqT at hs1
          unfold aggT
          cases hu:P.underlying f.type with
          | none=>simp [hu] at hs1
          | some dd =>
            cases dd
            case struct fs'=>exact ⟨true,rfl,by simp,fun _=>(eqT_struct hs2 hu).2.2⟩
            all_goals (rw [hu] at hs1; simp at hs1)
            all_goals (subst hs1; exact ⟨false,rfl,fun _=>rfl,by simp⟩)
      obtain ⟨ag,hag,hag0,hag1⟩:=hag
      have part_run:∀ (l:List SV) (z:List Value),VRs μ l z → n + s.length ≤ l.length → (∀ w,(part f.type ⟨z⟩ f.offset).run P w=.ok (mkA ag ((z.drop n).take s.length)) w):=by
        intro l z hz hle w
        have hzl:=hz.length
        cases ag with
        | true =>
          have:((⟨z⟩:Array Value).extract n (n + s.length))=⟨(z.drop n).take s.length⟩:=by
            apply Array.toList_inj.1; simp [List.extract_eq_take_drop]
          simp [part,r_agg hag,r_sz (hag1 rfl),hoff,mkA,this]
        | false =>
          have h1:=hag0 rfl
          have hlt:n < z.length:=by omega
          simp only [part,Sem.run_bind,r_agg hag,Result.andThen_ok,hoff]
          rw [h1]
          have h2:(z.drop n).take 1=[z[n]]:=by rw [List.drop_eq_getElem_cons hlt]; rfl
          rw [h2]
          simp [hlt,mkA]
      have e1:=part_run la x hx (by omega)
      have e2:=part_run lb y hy (by omega)
      have e3:∀ w,(Op.equalIn D f.type (mkA ag ((x.drop n).take s.length)) (mkA ag ((y.drop n).take s.length))).run P w=.ok p w:=fun w =>
        hD f.type s hs1 μ _ _ _ _ p ag w ha1 hb1 ((hx.drop n).take _) ((hy.drop n).take _) hp hag
      simp only [Op.eqFields]
      rw [if_pos hname]
      simp only [Sem.run_bind,e1,e2,e3,Result.andThen_ok]
      cases p with
      | false=>simp
      | true =>
        simp only [Bool.not_true,Bool.false_eq_true,if_false,Bool.true_and]
        exact ih (n + s.length) js hjs μ la lb x y q w (by omega) (by omega) ha2 hb2 hx hy hq
    · cases hk
theorem eq_run:∀ (d D:Nat),d ≤ D → ∀ t ks,eqT P d t=some ks → ∀ (μ:Mu) (la lb:List SV) (x y:List Value) (r ag:Bool) w,kdsOk ks la=true → kdsOk ks lb=true → VRs μ la x → VRs μ lb y → seqs la lb=some r →
    aggT P t=some ag → (Op.equalIn D t (mkA ag x) (mkA ag y)).run P w=.ok r w:=by
  intro d
  induction d with
  | zero=>intro D _ t ks h; simp [eqT] at h
  | succ d ih =>
    intro D hD t ks hk μ la lb x y r ag w ha hb hx hy hs hag
    obtain ⟨D,rfl⟩:∃ k,D=k + 1:=⟨D - 1,by omega⟩
    unfold eqT at hk
    unfold aggT at hag
    cases hu:P.underlying t with
    | none=>simp [hu] at hk
    | some dd =>
      rw [hu] at hk hag
      have one:∀ k:Kd,ks=[k] → ∃ a b u v,la=[a] ∧ lb=[b] ∧ x=[u] ∧ y=[v] ∧ VR μ a u ∧ VR μ b v ∧ seq a b=some r ∧ k.ok a=true ∧ k.ok b=true:=by
        intro k e
        subst e
        obtain ⟨a,rfl⟩:∃ a,la=[a]:=by
          have:=kdsOk_length ha
          match la,this with
          | [a],_=>exact ⟨a,rfl⟩
        obtain ⟨b,rfl⟩:∃ a,lb=[a]:=by
          have:=kdsOk_length hb
          match lb,this with
          | [a],_=>exact ⟨a,rfl⟩
        cases hx with
        | cons h1 t1=>cases t1; cases hy with
          | cons h2 t2 =>
            cases t2
            simp only [seqs] at hs
            simp [kdsOk] at ha hb
            cases hq:seq a b with
            | none=>simp [hq] at hs
            | some p=>simp [hq] at hs; subst hs; exact ⟨a,b,_,_,rfl,rfl,rfl,rfl,h1,h2,hq,ha,hb⟩
      by_cases hst:∃ fs,dd=.struct fs
      · obtain ⟨fs,rfl⟩:=hst
        simp at hag
        subst hag
        have hk':eqT P (d + 1) t=some ks:=by unfold eqT; rw [hu]; exact hk
        obtain ⟨hp,hl,hz⟩:=eqT_struct hk' hu
        have hf:P.fieldsOf t=fs:=by simp [Program.fieldsOf,hu]
        simp only [mkA,if_true]
        rw [run_equalIn_struct w D t ⟨x⟩ ⟨y⟩ (by rw [hf]; exact hu) hp,hf]
        exact eqFs_run (fun t ks h=>ih D (by omega) t ks h) fs.toList 0 ks hl μ la lb x y r w (Nat.zero_le _) (Nat.zero_le _) (by simpa using ha) (by simpa using hb) hx hy (by simpa using hs)
      cases dd <;> simp at hk hag
      case struct fs=>exact absurd ⟨fs,rfl⟩ hst
      case int k =>
        subst hag
        obtain ⟨a,b,u,v,rfl,rfl,rfl,rfl,h1,h2,hq,ka,kb⟩:=one _ hk.symm
        cases a <;> simp [Kd.ok] at ka
        cases b <;> simp [Kd.ok] at kb
        cases h1; cases h2
        simp only [seq] at hq
        split at hq
        · cases hq; subst_vars; simp [mkA,Op.equalIn,r_und hu]
        · cases hq
      case bool =>
        subst hag
        obtain ⟨a,b,u,v,rfl,rfl,rfl,rfl,h1,h2,hq,ka,kb⟩:=one _ hk.symm
        cases a <;> simp [Kd.ok] at ka
        cases b <;> simp [Kd.ok] at kb
        cases h1; cases h2
        simp only [seq,Option.some.injEq] at hq
        subst hq
        simp [mkA,Op.equalIn,r_und hu]
      case string =>
        subst hag
        obtain ⟨a,b,u,v,rfl,rfl,rfl,rfl,h1,h2,hq,ka,kb⟩:=one _ hk.symm
        cases a <;> simp [Kd.ok] at ka
        cases b <;> simp [Kd.ok] at kb
        cases h1; cases h2
        simp only [seq,Option.some.injEq] at hq
        subst hq
        simp [mkA,Op.equalIn,r_und hu,beq_toListBytes]
theorem eqD {t:TypeId} {u v:Value} {q:Bool} {w:World} (h:∀ d,(Op.equalIn (d + 1) t u v).run P w=.ok q w):(Op.equal t u v).run P w=.ok q w:=h 9999
def EqPrem (P:Program) (t:TypeId) (ag:Bool) (ks:List Kd):Prop :=
    (P.underlying t=some .bool ∧ ag=false ∧ ks=[.bool]) ∨ ((∃ e,P.underlying t=some (.pointer e)) ∧ ag=false ∧ ks=[.ptr]) ∨ ((∃ e,P.underlying t=some (.slice e)) ∧ ag=false ∧ ks=[.slice]) ∨
      ((∃ k e,P.underlying t=some (.map k e)) ∧ ag=false ∧ ks=[.map]) ∨ ((∃ p q c,P.underlying t=some (.func p q c)) ∧ ag=false ∧ ks=[.func]) ∨
      ((∃ fs,P.underlying t=some (.struct fs)) ∧ ag=true ∧ P.eqGuardType P.depth t=false ∧ eqT P 8 t=some ks) ∨
      ((∃ n e k,P.underlying t=some (.array n e) ∧ P.underlying e=some (.int k) ∧ szT P e=some 1 ∧ aggT P e=some false ∧ ks=List.replicate n .int) ∧ ag=true ∧ P.eqGuardType P.depth t=false)
theorem eqItems_run (w:World) (D:Nat) {e:TypeId} {k:IntKind} (hu:P.underlying e=some (.int k)) (hag:aggT P e=some false) {μ:Mu} {la lb:List SV} {x y:List Value} (hx:VRs μ la x) (hy:VRs μ lb y) :
    ∀ (m s:Nat) (r:Bool),kdsOk (List.replicate m .int) (la.drop s)=true → kdsOk (List.replicate m .int) (lb.drop s)=true → seqs (la.drop s) (lb.drop s)=some r → (Op.eqItems (D + 1) e 1 ⟨x⟩ ⟨y⟩ (List.range' s m)).run P w=.ok r w
  | 0,s,r,ha,hb,hs=>by
    have h1:la.drop s=[]:=by cases h:la.drop s with | nil=>rfl | cons a b=>rw [h] at ha; simp [kdsOk] at ha
    have h2:lb.drop s=[]:=by cases h:lb.drop s with | nil=>rfl | cons a b=>rw [h] at hb; simp [kdsOk] at hb
    rw [h1,h2] at hs; simp [seqs] at hs; subst hs
    simp [Op.eqItems]
  | m + 1, s,r,ha,hb,hs=>by
    have part_run:∀ (l:List SV) (z:List Value) (q:SV),VRs μ l z → l[s]? = some q → ∃ u,VR μ q u ∧ ∀ w,(part e ⟨z⟩ (s * 1)).run P w=.ok u w:=by
      intro l z q hz hq
      obtain ⟨u,hzu,hru⟩:=hz.get hq
      refine ⟨u,hru,fun w=>?_⟩
      obtain ⟨hlt,rfl⟩:=List.getElem?_eq_some_iff.1 hzu
      simp only [part,Sem.run_bind,r_agg hag,Result.andThen_ok,Nat.mul_one]
      simp [hlt]
    have split:∀ l:List SV,kdsOk (List.replicate (m + 1) .int) (l.drop s)=true → ∃ j n,l.drop s=.int j n :: l.drop (s + 1) ∧ l[s]? = some (.int j n) ∧ kdsOk (List.replicate m .int) (l.drop (s + 1))=true:=by
      intro l h
      cases hd:l.drop s with
      | nil=>rw [hd] at h; simp [List.replicate_succ,kdsOk] at h
      | cons q t =>
        have ht:l.drop (s + 1)=t:=by rw [← List.drop_drop,hd]; rfl
        have hq:l[s]? = some q:=by have:=List.getElem?_drop (xs:=l) (i:=s) (j:=0); rw [hd] at this; simpa using this.symm
        rw [hd] at h
        simp only [List.replicate_succ,kdsOk,Bool.and_eq_true] at h
        cases q <;> simp [Kd.ok] at h
        exact ⟨_,_,by rw [ht],hq,by rw [ht]; exact h⟩
    obtain ⟨j1,n1,d1,g1,ha'⟩:=split la ha
    obtain ⟨j2,n2,d2,g2,hb'⟩:=split lb hb
    obtain ⟨u,hu1,pu⟩:=part_run la x _ hx g1
    obtain ⟨v,hv1,pv⟩:=part_run lb y _ hy g2
    cases hu1; cases hv1
    rw [d1,d2] at hs
    simp only [seqs,seq] at hs
    by_cases hj:j1=j2
    · subst hj
      rw [if_pos rfl] at hs
      cases hq:seqs (la.drop (s + 1)) (lb.drop (s + 1)) with
      | none=>rw [hq] at hs; cases hs
      | some q =>
        rw [hq] at hs
        simp only [Option.some.injEq] at hs
        subst hs
        rw [List.range'_succ]
        simp only [Op.eqItems,Sem.run_bind,pu,pv,Result.andThen_ok,run_equalIn_int w D e j1 k n1 n2 hu]
        cases hn:n1 == n2 with
        | false=>simp
        | true =>
          simp only [Bool.not_true,Bool.false_eq_true,if_false,Bool.true_and]
          exact eqItems_run w D hu hag hx hy m (s + 1) q ha' hb' hq
    · rw [if_neg hj] at hs; cases hs
set_option maxHeartbeats 1000000 in
theorem eq_sound {op:BinOp} (hop:op=.eql ∨ op=.neq) {t:TypeId} {x y:Operand} {ks:List Kd} {a b:SV} {u v:Value} {r:Bool} {μ:Mu} {w:World}
    {ag:Bool} (ht:EqPrem P t ag ks)
    (ha:likeK ag ks a=true) (hb:likeK ag ks b=true) (hu:VR μ a u) (hv:VR μ b v) (hs:seq a b=some r) :
    (do eqGuard op t x y u v; binOp op t u v:Sem Value).run P w=.ok (.bool (r != (op == .neq))) w:=by
  have one:∀ (k:Kd) (z:SV),likeK false [k] z=true → k.ok z=true:=by
    intro k z hz
    cases z <;> simp [likeK,SV.isAgg,SV.cells,kdsOk] at hz <;> exact hz
  have fin:∀ q:Bool,(Op.equal t u v).run P w=.ok q w → (∀ k n,u ≠ .int k n) → (∀ k n,u ≠ .float k n) → (∀ k n q,u ≠ .complex k n q) → (∀ s,u ≠ .string s) →
      (binOp op t u v).run P w=.ok (.bool (q != (op == .neq))) w:=by
    intro q hq h1 h2 h3 h4
    rcases hop with rfl | rfl
    · cases u <;> simp [binOp,hq] at h1 h2 h3 h4 ⊢ <;> cases q <;> rfl
    · cases u <;> simp [binOp,hq] at h1 h2 h3 h4 ⊢ <;> cases q <;> rfl
  have gd:∀ (h1:∀ s,u ≠ .agg s) (h2:u ≠ .nilIface),(eqGuard op t x y u v).run P w=.ok () w:=by
    intro h1 h2
    rcases hop with rfl | rfl <;> cases u <;> simp [eqGuard] at h1 h2 ⊢
  rcases ht with ⟨ht,rfl,rfl⟩ | ⟨⟨e,ht⟩,rfl,rfl⟩ | ⟨⟨e,ht⟩,rfl,rfl⟩ | ⟨⟨k,e,ht⟩,rfl,rfl⟩ | ⟨⟨p,q,c,ht⟩,rfl,rfl⟩ | ⟨⟨fs,ht⟩,rfl,hg,hk⟩ | ⟨⟨n,e,k,ht,he,hsz,hea,rfl⟩,rfl,hg⟩
  · have ka:=one _ _ ha
    have kb:=one _ _ hb
    cases a <;> simp [Kd.ok] at ka
    cases b <;> simp [Kd.ok] at kb
    cases hu; cases hv
    simp only [seq,Option.some.injEq] at hs; subst hs
    simp only [Sem.run_bind,gd (by simp) (by simp),Result.andThen_ok]
    exact fin _ (eqD fun d=>by simp [Op.equalIn,r_und ht]) (by simp) (by simp) (by simp) (by simp)
  · have ka:=one _ _ ha
    have kb:=one _ _ hb
    cases a <;> simp [Kd.ok] at ka <;> cases b <;> simp [Kd.ok] at kb <;> simp [seq] at hs <;> subst hs <;> cases hu <;> cases hv <;> simp only [Sem.run_bind,gd (by simp) (by simp),Result.andThen_ok] <;>
      exact fin _ (eqD fun d=>by simp [Op.equalIn,r_und ht]) (by simp) (by simp) (by simp) (by simp)
  · have ka:=one _ _ ha
    have kb:=one _ _ hb
    cases a <;> simp [Kd.ok] at ka <;> cases b <;> simp [Kd.ok] at kb <;> simp [seq] at hs <;> subst hs <;> cases hu <;> cases hv <;> simp only [Sem.run_bind,gd (by simp) (by simp),Result.andThen_ok] <;>
      exact fin _ (eqD fun d=>by simp [Op.equalIn,r_und ht]) (by simp) (by simp) (by simp) (by simp)
  · have ka:=one _ _ ha
    have kb:=one _ _ hb
    cases a <;> simp [Kd.ok] at ka <;> cases b <;> simp [Kd.ok] at kb <;> simp [seq] at hs <;> subst hs <;> cases hu <;> cases hv <;> simp only [Sem.run_bind,gd (by simp) (by simp),Result.andThen_ok] <;>
      exact fin _ (eqD fun d=>by simp [Op.equalIn,r_und ht]) (by simp) (by simp) (by simp) (by simp)
  · have ka:=one _ _ ha
    have kb:=one _ _ hb
    cases a <;> simp [Kd.ok] at ka <;> cases b <;> simp [Kd.ok] at kb <;> simp [seq] at hs <;> subst hs <;> cases hu <;> cases hv <;> simp only [Sem.run_bind,gd (by simp) (by simp),Result.andThen_ok] <;>
      exact fin _ (eqD fun d=>by simp [Op.equalIn,r_und ht]) (by simp) (by simp) (by simp) (by simp)
  · simp only [likeK,Bool.and_eq_true,beq_iff_eq] at ha hb
    cases a <;> simp [SV.isAgg] at ha
    cases b <;> simp [SV.isAgg] at hb
    cases hu with
    | agg hx=>cases hv with
      | agg hy =>
        rename_i la lb x' y'
        simp only [seq] at hs
        have h:=eq_run 8 10000 (by omega) t ks hk μ la lb x' y' r true w ha hb hx hy hs (by simp [aggT,ht])
        simp only [mkA,if_true] at h
        simp only [Sem.run_bind,run_eqGuard_agg w op t x y _ _ hg,Result.andThen_ok]
        rcases hop with rfl | rfl
        · rw [run_eql_struct,h]; cases r <;> rfl
        · rw [run_neq_struct,h]; cases r <;> rfl
  · simp only [likeK,Bool.and_eq_true,beq_iff_eq] at ha hb
    cases a <;> simp [SV.isAgg] at ha
    cases b <;> simp [SV.isAgg] at hb
    cases hu with
    | agg hx=>cases hv with
      | agg hy =>
        rename_i la lb x' y'
        simp only [seq] at hs
        unfold szT at hsz
        rw [Option.map_eq_some_iff] at hsz
        obtain ⟨i,hi,hi1⟩:=hsz
        have hc:P.cellsOf e=1:=by simp [Program.cellsOf,hi,hi1]
        have h:=eqItems_run w 9998 he hea hx hy n 0 r ha hb hs
        rw [← List.range_eq_range'] at h
        have h':=run_equalIn_array w 9999 ⟨x'⟩ ⟨y'⟩ ht hi
        rw [hc] at h'
        replace h':=h'.trans h
        simp only [Sem.run_bind,run_eqGuard_agg w op t x y _ _ hg,Result.andThen_ok]
        rcases hop with rfl | rfl
        · rw [run_eql_struct,h']; cases r <;> rfl
        · rw [run_neq_struct,h']; cases r <;> rfl
end Go.Sh

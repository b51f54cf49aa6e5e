import Derived.Test.YtepecbjlfekkaaaShTr
set_option linter.all false
set_option linter.unusedVariables false
set_option linter.unusedSimpArgs false
set_option autoImplicit false
namespace Go.Sh
abbrev Mu:=Bk → Option (Nat × Nat × Nat)
mutual
inductive VR (μ:Mu):SV → Value → Prop
  | unk (v:Value):VR μ .unk v
  | bool (b:Bool):VR μ (.bool b) (.bool b)
  | int (k:IntKind) (n:Int):VR μ (.int k n) (.int k n)
  | str (s:ByteArray):VR μ (.str s) (.string s)
  | nilp:VR μ .nilp (.pointer none)
  | ptr {b:Bk} {off r base N:Nat} (h:μ b=some (r,base,N)):VR μ (.ptr b off) (.pointer (some ⟨r,base + off,none⟩))
  | nils:VR μ .nils (.slice none 0 0)
  | emp (a:Addr):VR μ .emp (.slice (some a) 0 0)
  | sl {b:Bk} {off len c z r base N:Nat} {cap:Option Nat} (h:μ b=some (r,base,N)) (hl:len ≤ c) (hc:∀ k,cap=some k → c=k) (hN:base + off + c * z ≤ N) :
      VR μ (.sl b off len cap z) (.slice (some ⟨r,base + off,none⟩) len c)
  | sl0 {b:Bk} {off z:Nat} {cap:Option Nat} {x:Nat × Nat × Nat} (h:μ b=some x) (a:Addr) (hc:∀ k,cap=some k → k=0):VR μ (.sl b off 0 cap z) (.slice (some a) 0 0)
  | nilm:VR μ .nilm (.map none)
  | map {b:Bk} {r base N:Nat} (h:μ b=some (r,base,N)):VR μ (.map b) (.map (some r))
  | fn {f:FuncId} {a c:List SV} {x y:List Value} (ha:VRs μ a x) (hc:VRs μ c y):VR μ (.fn f a c) (.func (.func f) ⟨x⟩ ⟨y⟩)
  | nilf:VR μ .nilf .nilFunc
  | yld {b:Bk} {r base N:Nat} (h:μ b=some (r,base,N)):VR μ (.yld b) (.func (.yield r) #[] #[])
  | agg {l:List SV} {x:List Value} (h:VRs μ l x):VR μ (.agg l) (.agg ⟨x⟩)
  | tup {l:List SV} {x:List Value} (h:VRs μ l x):VR μ (.tup l) (.tuple ⟨x⟩)
inductive VRs (μ:Mu):List SV → List Value → Prop
  | nil:VRs μ [] []
  | cons {a:SV} {v:Value} {l:List SV} {x:List Value} (h:VR μ a v) (t:VRs μ l x):VRs μ (a :: l) (v :: x)
end
def Mu.on (μ:Mu) (p:Bk → Bool):Mu:=fun b=>if p b then μ b else none
mutual
def SV.all (p:Bk → Bool):SV → Bool
  | .ptr b _=>p b
  | .sl b _ _ _ _=>p b
  | .map b=>p b
  | .yld b=>p b
  | .fn _ a c=>SV.alls p a && SV.alls p c
  | .agg l=>SV.alls p l
  | .tup l=>SV.alls p l
  | .unk=>true
  | .bool _=>true
  | .int _ _=>true
  | .str _=>true
  | .nilp=>true
  | .nils=>true
  | .emp=>true
  | .nilm=>true
  | .nilf=>true
def SV.alls (p:Bk → Bool):List SV → Bool
  | []=>true
  | v :: r=>SV.all p v && SV.alls p r
end
mutual
theorem VR.mono {μ μ':Mu} {p:Bk → Bool} (h:∀ b x,p b=true → μ b=some x → μ' b=some x):∀ {v:SV} {u:Value},v.all p=true → VR μ v u → VR μ' v u
  | _,_,_,.unk v=>.unk v
  | _,_,_,.bool b=>.bool b
  | _,_,_,.int k n=>.int k n
  | _,_,_,.str s=>.str s
  | _,_,_,.nilp=>.nilp
  | _,_,hp,.ptr hb=>.ptr (h _ _ (by simpa [SV.all] using hp) hb)
  | _,_,_,.nils=>.nils
  | _,_,_,.emp a=>.emp a
  | _,_,hp,.sl hb hl hc hN=>.sl (h _ _ (by simpa [SV.all] using hp) hb) hl hc hN
  | _,_,hp,.sl0 hb a hc=>.sl0 (h _ _ (by simpa [SV.all] using hp) hb) a hc
  | _,_,_,.nilm=>.nilm
  | _,_,hp,.map hb=>.map (h _ _ (by simpa [SV.all] using hp) hb)
  | _,_,hp,.fn ha hc=>.fn (VRs.mono h (by simp [SV.all] at hp; exact hp.1) ha) (VRs.mono h (by simp [SV.all] at hp; exact hp.2) hc)
  | _,_,_,.nilf=>.nilf
  | _,_,hp,.yld hb=>.yld (h _ _ (by simpa [SV.all] using hp) hb)
  | _,_,hp,.agg hl=>.agg (VRs.mono h (by simpa [SV.all] using hp) hl)
  | _,_,hp,.tup hl=>.tup (VRs.mono h (by simpa [SV.all] using hp) hl)
theorem VRs.mono {μ μ':Mu} {p:Bk → Bool} (h:∀ b x,p b=true → μ b=some x → μ' b=some x):∀ {l:List SV} {x:List Value},SV.alls p l=true → VRs μ l x → VRs μ' l x
  | _,_,_,.nil=>.nil
  | _,_,hp,.cons hv ht=>.cons (VR.mono h (by simp [SV.alls] at hp; exact hp.1) hv) (VRs.mono h (by simp [SV.alls] at hp; exact hp.2) ht)
end
mutual
theorem VR.named {μ:Mu}:∀ {v:SV} {u:Value},VR μ v u → v.all (fun b=>(μ b).isSome)=true
  | _,_,.unk _ | _,_,.bool _ | _,_,.int _ _ | _,_,.str _ | _,_,.nilp | _,_,.nils | _,_,.emp _ | _,_,.nilm | _,_,.nilf=>rfl
  | _,_,.ptr hb=>by simp [SV.all,hb]
  | _,_,.sl hb _ _ _=>by simp [SV.all,hb]
  | _,_,.sl0 hb _ _=>by simp [SV.all,hb]
  | _,_,.map hb=>by simp [SV.all,hb]
  | _,_,.yld hb=>by simp [SV.all,hb]
  | _,_,.fn ha hc=>by simp [SV.all,VRs.named ha,VRs.named hc]
  | _,_,.agg hl=>by simp [SV.all,VRs.named hl]
  | _,_,.tup hl=>by simp [SV.all,VRs.named hl]
theorem VRs.named {μ:Mu}:∀ {l:List SV} {x:List Value},VRs μ l x → SV.alls (fun b=>(μ b).isSome) l=true
  | _,_,.nil=>rfl
  | _,_,.cons hv ht=>by simp [SV.alls,hv.named,ht.named]
end
mutual
theorem SV.all_mono {p q:Bk → Bool} (h:∀ b,p b=true → q b=true):∀ (v:SV),v.all p=true → v.all q=true
  | .unk | .bool _ | .int _ _ | .str _ | .nilp | .nils | .emp | .nilm | .nilf=>fun _=>rfl
  | .ptr b _ | .sl b _ _ _ _ | .map b | .yld b=>fun hp=>by simp only [SV.all] at *; exact h _ hp
  | .fn _ a c=>fun hp=>by simp only [SV.all,Bool.and_eq_true] at *; exact ⟨SV.alls_mono h a hp.1,SV.alls_mono h c hp.2⟩
  | .agg l=>fun hp=>by simp only [SV.all] at *; exact SV.alls_mono h l hp
  | .tup l=>fun hp=>by simp only [SV.all] at *; exact SV.alls_mono h l hp
theorem SV.alls_mono {p q:Bk → Bool} (h:∀ b,p b=true → q b=true):∀ (l:List SV),SV.alls p l=true → SV.alls q l=true
  | []=>fun _=>rfl
  | v :: r=>fun hp=>by simp only [SV.alls,Bool.and_eq_true] at *; exact ⟨SV.all_mono h v hp.1,SV.alls_mono h r hp.2⟩
end
mutual
theorem SV.lv_all (d i:Nat):∀ (v:SV),v.lv d i=v.all (Bk.lv d i)
  | .unk | .bool _ | .int _ _ | .str _ | .nilp | .nils | .emp | .nilm | .nilf=>rfl
  | .ptr b _ | .sl b _ _ _ _ | .map b | .yld b=>rfl
  | .fn _ a c=>by simp only [SV.lv,SV.all,SV.lvs_alls d i a,SV.lvs_alls d i c]
  | .agg l=>by simp only [SV.lv,SV.all,SV.lvs_alls d i l]
  | .tup l=>by simp only [SV.lv,SV.all,SV.lvs_alls d i l]
theorem SV.lvs_alls (d i:Nat):∀ (l:List SV),SV.lvs d i l=SV.alls (Bk.lv d i) l
  | []=>rfl
  | v :: r=>by simp only [SV.lvs,SV.alls,SV.lv_all d i v,SV.lvs_alls d i r]
end
mutual
theorem SV.hx_all (h:Nat):∀ (v:SV),v.hx ≤ h ↔ v.all (fun b=>decide (b.hx ≤ h))=true
  | .unk | .bool _ | .int _ _ | .str _ | .nilp | .nils | .emp | .nilm | .nilf=>by simp [SV.hx,SV.all]
  | .ptr b _ | .sl b _ _ _ _ | .map b | .yld b=>by simp [SV.hx,SV.all]
  | .fn _ a c=>by simp only [SV.hx,SV.all,Bool.and_eq_true,← SV.hxs_alls h a,← SV.hxs_alls h c]; omega
  | .agg l=>by simp only [SV.hx,SV.all,← SV.hxs_alls h l]
  | .tup l=>by simp only [SV.hx,SV.all,← SV.hxs_alls h l]
theorem SV.hxs_alls (h:Nat):∀ (l:List SV),SV.hxs l ≤ h ↔ SV.alls (fun b=>decide (b.hx ≤ h)) l=true
  | []=>by simp [SV.hxs,SV.alls]
  | v :: r=>by simp only [SV.hxs,SV.alls,Bool.and_eq_true,← SV.hx_all h v,← SV.hxs_alls h r]; omega
end
mutual
theorem SV.all_and (p q:Bk → Bool):∀ (v:SV),v.all (fun b=>p b && q b)=(v.all p && v.all q)
  | .unk | .bool _ | .int _ _ | .str _ | .nilp | .nils | .emp | .nilm | .nilf=>rfl
  | .ptr b _ | .sl b _ _ _ _ | .map b | .yld b=>rfl
  | .fn _ a c=>by simp only [SV.all,SV.alls_and p q a,SV.alls_and p q c]; cases SV.alls p a <;> cases SV.alls q a <;> cases SV.alls p c <;> rfl
  | .agg l=>by simp only [SV.all,SV.alls_and p q l]
  | .tup l=>by simp only [SV.all,SV.alls_and p q l]
theorem SV.alls_and (p q:Bk → Bool):∀ (l:List SV),SV.alls (fun b=>p b && q b) l=(SV.alls p l && SV.alls q l)
  | []=>rfl
  | v :: r=>by simp only [SV.alls,SV.all_and p q v,SV.alls_and p q r]; cases SV.all p v <;> cases SV.all q v <;> cases SV.alls p r <;> rfl
end
theorem VR.sub {μ μ':Mu} {v:SV} {u:Value} (h:∀ b x,μ b=some x → μ' b=some x) (hv:VR μ v u):VR μ' v u :=
  hv.mono (p:=fun b=>(μ b).isSome) (fun b x _ hb=>h b x hb) hv.named
theorem VRs.sub {μ μ':Mu} {v:List SV} {u:List Value} (h:∀ b x,μ b=some x → μ' b=some x) (hv:VRs μ v u):VRs μ' v u :=
  hv.mono (p:=fun b=>(μ b).isSome) (fun b x _ hb=>h b x hb) hv.named
theorem VR.restrict {μ:Mu} {v:SV} {u:Value} (p:Bk → Bool) (hv:VR μ v u) (hp:v.all p=true):VR (μ.on p) v u :=
  hv.mono (p:=p) (fun b x hb hx=>by simp [Mu.on,hb,hx]) hp
theorem VRs.restrict {μ:Mu} {v:List SV} {u:List Value} (p:Bk → Bool) (hv:VRs μ v u) (hp:SV.alls p v=true):VRs (μ.on p) v u :=
  hv.mono (p:=p) (fun b x hb hx=>by simp [Mu.on,hb,hx]) hp
theorem VR.off {μ:Mu} {v:SV} {u:Value} {p:Bk → Bool} (hv:VR (μ.on p) v u):VR μ v u :=
  hv.sub fun b x h=>by simp only [Mu.on] at h; split at h <;> simp_all
theorem VR.let {μ:Mu} {v:SV} {u:Value} {p:Bk → Bool} (hv:VR (μ.on p) v u):v.all p=true :=
  SV.all_mono (fun b h=>by simp only [Mu.on] at h; by_cases hp:p b=true <;> simp_all) v hv.named
theorem Mu.on_some {μ:Mu} {p:Bk → Bool} {b:Bk} {x:Nat × Nat × Nat}:μ.on p b=some x ↔ p b=true ∧ μ b=some x:=by
  unfold Mu.on; split <;> simp_all
theorem VRs.length {μ:Mu}:∀ {l:List SV} {x:List Value},VRs μ l x → l.length=x.length
  | _,_,.nil=>rfl
  | _,_,.cons _ t=>by simp [t.length]
theorem VRs.get {μ:Mu}:∀ {l:List SV} {x:List Value},VRs μ l x → ∀ {i:Nat} {v:SV},l[i]? = some v → ∃ u,x[i]? = some u ∧ VR μ v u
  | _,_,.cons h t,0,v,e=>⟨_,rfl,by simp at e; exact e ▸ h⟩
  | _,_,.cons _ t,i + 1,v,e=>by simpa using t.get (by simpa using e)
theorem VRs.append {μ:Mu}:∀ {l l':List SV} {x x':List Value},VRs μ l x → VRs μ l' x' → VRs μ (l ++ l') (x ++ x')
  | _,_,_,_,.nil,h=>h
  | _,_,_,_,.cons h t,h'=>.cons h (t.append h')
theorem VRs.take {μ:Mu}:∀ {l:List SV} {x:List Value} (n:Nat),VRs μ l x → VRs μ (l.take n) (x.take n)
  | _,_,0,_=>by simpa using .nil
  | _,_,n + 1,.nil=>by simpa using .nil
  | _,_,n + 1,.cons h t=>by simpa using .cons h (t.take n)
theorem VRs.drop {μ:Mu}:∀ {l:List SV} {x:List Value} (n:Nat),VRs μ l x → VRs μ (l.drop n) (x.drop n)
  | _,_,0,h=>by simpa using h
  | _,_,n + 1,.nil=>by simpa using .nil
  | _,_,n + 1,.cons _ t=>by simpa using t.drop n
theorem VR.cells {μ:Mu} {v:SV} {u:Value} (h:VR μ v u) (hu:v ≠ .unk):VRs μ v.cells u.cells.toList:=by
  cases h <;> first
    | exact absurd rfl hu
    | (rename_i h; exact h)
    | (refine .cons ?_ .nil; constructor <;> assumption)
mutual
theorem ofV_rel {μ:Mu}:∀ (n:Nat) (v:Value) (x:SV),ofV n v=some x → VR μ x v
  | 0,_,_,h=>by simp [ofV] at h
  | n + 1, v,x,h=>by
    cases v with
    | bool b=>simp [ofV] at h; subst h; exact .bool _
    | int k i=>simp [ofV] at h; subst h; exact .int _ _
    | string s=>simp [ofV] at h; subst h; exact .str _
    | nilFunc=>simp [ofV] at h; subst h; exact .nilf
    | pointer a=>cases a with
      | none=>simp [ofV] at h; subst h; exact .nilp
      | some a=>simp [ofV] at h
    | slice a l c=>cases a with
      | some a=>simp [ofV] at h
      | none=>cases l with
        | succ l=>simp [ofV] at h
        | zero=>cases c with
          | succ c=>simp [ofV] at h
          | zero=>simp [ofV] at h; subst h; exact .nils
    | map a=>cases a with
      | none=>simp [ofV] at h; subst h; exact .nilm
      | some a=>simp [ofV] at h
    | agg cs=>simp [ofV] at h; obtain ⟨l,hl,rfl⟩:=h; exact .agg (x:=cs.toList) (ofVs_rel n _ _ hl)
    | tuple cs=>simp [ofV] at h; obtain ⟨l,hl,rfl⟩:=h; exact .tup (x:=cs.toList) (ofVs_rel n _ _ hl)
    | func f a c=>cases f with
      | func f =>
        simp [ofV,Option.bind_eq_some_iff,Option.map_eq_some_iff] at h
        obtain ⟨l,hl,k,hk,rfl⟩:=h
        exact .fn (x:=a.toList) (y:=c.toList) (ofVs_rel n _ _ hl) (ofVs_rel n _ _ hk)
      | _=>simp [ofV] at h
    | _=>simp [ofV] at h
theorem ofVs_rel {μ:Mu}:∀ (n:Nat) (v:List Value) (x:List SV),ofVs n v=some x → VRs μ x v
  | 0,_,_,h=>by simp [ofVs] at h
  | n + 1,[],x,h=>by simp [ofVs] at h; subst h; exact .nil
  | n + 1,v :: r,x,h=>by
    simp only [ofVs,Option.bind_eq_some_iff,Option.map_eq_some_iff] at h
    obtain ⟨y,hy,l,hl,rfl⟩:=h
    exact .cons (ofV_rel n v y hy) (ofVs_rel n r l hl)
end
def FrR (μ:Mu) (fr:Fr) (tmps:Array Value):Prop:=∀ t,VR μ (fr.get t) (tmps.getD t undef)
theorem Fr.get_put (fr:Fr) (d:Option Nat) (v:SV) (t:Nat):(fr.put d v).get t=if some t=d then v else fr.get t:=by
  cases d with
  | none=>simp [Fr.put]
  | some k=>simp only [Fr.put,Fr.get,Option.some.injEq]
theorem FrR.put {μ:Mu} {fr:Fr} {a:Act} {d:Option Nat} {v:SV} {u:Value} (h:FrR μ fr a.tmps) (hv:VR μ v u) (hd:∀ t,d=some t → t < a.tmps.size) :
    FrR μ (fr.put d v) (a.put d u).tmps:=by
  intro t
  cases d with
  | none=>exact h t
  | some k =>
    have hk:=hd k rfl
    simp only [Fr.get_put,Option.some.injEq,Act.put]
    by_cases e:t=k
    · subst e; simp [hk]; exact hv
    · have hne:¬ k=t:=fun h=>e h.symm
      simp only [e,if_false]
      have:=h t
      simpa [Array.getD_eq_getD_getElem?,Array.getElem?_setIfInBounds_ne hne] using this
theorem Fr.get_keep (fr:Fr) (ks:List Nat) (t:Nat):(fr.keep ks).get t=if t ∈ ks then fr.get t else .unk:=by
  unfold Fr.keep
  induction ks with
  | nil=>simp [Fr.get]
  | cons k ks ih =>
    simp only [List.map_cons,Fr.get,List.mem_cons]
    by_cases e:t=k
    · simp [e]
    · simp only [e,if_false,false_or]; exact ih
theorem FrR.keep {μ:Mu} {fr:Fr} {tmps:Array Value} (h:FrR μ fr tmps) (ks:List Nat):FrR μ (fr.keep ks) tmps:=by
  intro t
  rw [Fr.get_keep]
  split
  · exact h t
  · exact .unk _
theorem FrR.sub {μ μ':Mu} {fr:Fr} {tmps:Array Value} (h:FrR μ fr tmps) (hs:∀ b x,μ b=some x → μ' b=some x):FrR μ' fr tmps:=fun t=>(h t).sub hs
theorem opdT_rel {μ:Mu} {fr:Fr} {a:Act} (h:FrR μ fr a.tmps) {x:Operand} {y:Opd} (hx:opdT x=some y):VR μ (y.ev fr) (a.eval x):=by
  cases x <;> simp [opdT] at hx
  · subst hx; exact h _
  · obtain ⟨v,hv,rfl⟩:=hx; exact ofV_rel _ _ _ hv
  · subst hx; exact .fn .nil .nil
end Go.Sh

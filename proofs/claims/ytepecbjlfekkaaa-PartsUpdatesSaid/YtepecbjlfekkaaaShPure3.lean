import Derived.Test.YtepecbjlfekkaaaShEq
import Derived.Laws.Externs
import Derived.KernelRfl
set_option linter.all false
set_option linter.unusedVariables false
set_option linter.unusedSimpArgs false
set_option autoImplicit false
namespace Go.Sh
variable {P:Program}
theorem SOp.pure_base (so:SOp):so.base.pure=so.pure:=by cases so <;> rfl
theorem memop_pure {so:SOp} (fr:Fr) (m:Mem) (h:so.pure=true):memop so fr m=(pev so fr).map fun v=>(v,m):=by
  cases so <;> simp [SOp.pure] at h <;> rfl
theorem pev_pure {so:SOp} {fr:Fr} {v:SV} (h:pev so fr=some v):so.pure=true:=by
  cases so <;> first | rfl | (simp [pev] at h)
theorem VR.bool_inv {μ:Mu} {b:Bool} {u:Value} (h:VR μ (.bool b) u):u=.bool b:=by cases h; rfl
theorem VR.int_inv {μ:Mu} {k:IntKind} {n:Int} {u:Value} (h:VR μ (.int k n) u):u=.int k n:=by cases h; rfl
theorem VR.str_inv {μ:Mu} {s:ByteArray} {u:Value} (h:VR μ (.str s) u):u=.string s:=by cases h; rfl
theorem VR.nils_inv {μ:Mu} {u:Value} (h:VR μ .nils u):u=.slice none 0 0:=by cases h; rfl
theorem VR.emp_inv {μ:Mu} {u:Value} (h:VR μ .emp u):∃ a,u=.slice (some a) 0 0:=by cases h; exact ⟨_,rfl⟩
theorem VR.nilm_inv {μ:Mu} {u:Value} (h:VR μ .nilm u):u=.map none:=by cases h; rfl
theorem VR.ptr_inv {μ:Mu} {b:Bk} {o:Nat} {u:Value} (h:VR μ (.ptr b o) u):∃ r base N,μ b=some (r,base,N) ∧ u=.pointer (some ⟨r,base + o,none⟩):=by cases h; exact ⟨_,_,_,‹_›,rfl⟩
theorem VR.map_inv {μ:Mu} {b:Bk} {u:Value} (h:VR μ (.map b) u):∃ r base N,μ b=some (r,base,N) ∧ u=.map (some r):=by cases h; exact ⟨_,_,_,‹_›,rfl⟩
theorem VR.agg_inv {μ:Mu} {l:List SV} {u:Value} (h:VR μ (.agg l) u):∃ x,u=.agg ⟨x⟩ ∧ VRs μ l x:=by cases h; exact ⟨_,rfl,‹_›⟩
theorem VR.tup_inv {μ:Mu} {l:List SV} {u:Value} (h:VR μ (.tup l) u):∃ x,u=.tuple ⟨x⟩ ∧ VRs μ l x:=by cases h; exact ⟨_,rfl,‹_›⟩
theorem VR.sl_inv {μ:Mu} {b:Bk} {o n z:Nat} {c:Option Nat} {u:Value} (h:VR μ (.sl b o n c z) u) :
    ∃ r base N,μ b=some (r,base,N) ∧ ((∃ k,u=.slice (some ⟨r,base + o,none⟩) n k ∧ n ≤ k ∧ (∀ j,c=some j → k=j) ∧ base + o + k * z ≤ N) ∨ (∃ a,u=.slice (some a) 0 0 ∧ n=0 ∧ ∀ j,c=some j → j=0)):=by
  cases h
  · exact ⟨_,_,_,‹_›,.inl ⟨_,rfl,‹_›,‹_›,‹_›⟩⟩
  · rename_i x _ hx hc; obtain ⟨r,base,N⟩:=x; exact ⟨r,base,N,hx,.inr ⟨_,rfl,rfl,hc⟩⟩
theorem add64v_inv {x y c v:SV} (h:add64v x y c=some v):∃ a b d:Int,x=.int .u64 a ∧ y=.int .u64 b ∧ c=.int .u64 d ∧ (0 ≤ a ∧ 0 ≤ b ∧ 0 ≤ d ∧ d ≤ 1) ∧
    v=.tup [.int .u64 ((a + b + d) % 18446744073709551616),.int .u64 ((a + b + d) / 18446744073709551616)]:=by
  unfold add64v at h
  split at h
  · split at h
    · rename_i hc; cases h; exact ⟨_,_,_,rfl,rfl,rfl,hc,rfl⟩
    · cases h
  · cases h
theorem find_add64 {fn : Func} (h : fn.name = "math/bits.Add64") : Extern.find fn = some add64Entry := by
  have h1 : Extern.allGenericRows.lookup "math/bits.Add64" = none := by kernel_rfl
  have h2 : Extern.allTypedRows.lookup "math/bits.Add64" = none := by kernel_rfl
  have h3 : Extern.allRows.lookup "math/bits.Add64" = some add64Entry := by kernel_rfl
  simp only [Extern.find,h,h1,h2,h3]
  rfl
theorem optO {x:Option Operand} {y:Option Int} {ρ:Operand → Value} (h:(x=none ∧ y=none) ∨ ∃ a k i,x=some a ∧ y=some i ∧ ρ a=.int k i) :
    (x.map ρ=none ∧ y=none) ∨ ∃ k i,x.map ρ=some (.int k i) ∧ y=some i:=by
  rcases h with ⟨rfl,rfl⟩ | ⟨a,k,i,rfl,rfl,h⟩
  · exact .inl ⟨rfl,rfl⟩
  · exact .inr ⟨k,i,by simp [h],rfl⟩
theorem lenv_run {μ:Mu} {x:SV} {u:Value} {n:Nat} (h:lenv x=some n) (hr:VR μ x u):(u=.slice none 0 0 ∧ n=0 ∧ x=.nils) ∨ (∃ a c,u=.slice (some a) n c) ∨ ∃ s,u=.string s ∧ n=s.size ∧ x=.str s:=by
  cases x <;> simp [lenv] at h
  · subst h; cases hr; exact .inr (.inr ⟨_,rfl,rfl,rfl⟩)
  · subst h; exact .inl ⟨hr.nils_inv,rfl,rfl⟩
  · subst h
    obtain ⟨r,base,N,_,⟨k,rfl,_⟩ | ⟨a,rfl,h0,_⟩⟩:=hr.sl_inv
    · exact .inr (.inl ⟨_,k,rfl⟩)
    · exact .inr (.inl ⟨a,0,by rw [h0]⟩)
  · subst h; obtain ⟨a,rfl⟩:=hr.emp_inv; exact .inr (.inl ⟨a,0,rfl⟩)
theorem inB_iff {i:Int} {n:Nat} (h:inB i n=true):0 ≤ i ∧ i < n:=by simpa [inB] using h
theorem ofV_known:∀ {n:Nat} {v:Value} {x:SV},ofV n v=some x → x ≠ .unk
  | 0,_,_,h=>by simp [ofV] at h
  | n + 1,v,x,h=>by
    intro e
    subst e
    unfold ofV at h
    split at h <;> simp [Option.bind_eq_some_iff] at h
theorem zeroT_known {t:TypeId} {z:SV} (h:zeroT P t=some z):z ≠ .unk:=by
  unfold zeroT at h
  simp only [Option.bind_eq_some_iff] at h
  obtain ⟨v',_,hv'⟩:=h
  exact ofV_known hv'
theorem mapM_places (w:World):∀ (l:List Field),l.all (fun f=>(szT P f.type).isSome)=true →
    (l.mapM (fun f=>do pure (f.offset,← sizeOf f.type):Field → Sem (Nat × Nat))).run P w=.ok (l.map fun f=>(f.offset,(szT P f.type).getD 0)) w
  | [],_=>by simp
  | f :: r,h=>by
    simp only [List.all_cons,Bool.and_eq_true] at h
    obtain ⟨s,hs⟩:=Option.isSome_iff_exists.1 h.1
    simp only [List.mapM_cons,Sem.run_bind,r_sz hs,Result.andThen_ok,Sem.run_pure,mapM_places w r h.2]
    simp [hs]
set_option maxHeartbeats 1000000 in
theorem pure_sound {o : Oper} {so:SOp} {fr:Fr} {v:SV} (hT:opT P o.op=some so.base) (h:pev so fr=some v):PureOk P o fr v:=by
  intro μ w ρ hr
  obtain ⟨dst,op,type,pos,after,guard⟩:=o
  dsimp only at hT hr
  cases op <;> simp only [opT] at hT
  case move x =>
    simp only [Option.map_eq_some_iff] at hT
    obtain ⟨y,hy,e⟩:=hT
    obtain rfl:=base_eq e.symm rfl
    simp only [pev,Option.some.injEq] at h
    subst h
    exact ⟨ρ x,by simp [execOp],hr x y (by simp [Op.operands]) hy⟩
  case assign x =>
    simp only [Option.map_eq_some_iff] at hT
    obtain ⟨y,hy,e⟩:=hT
    obtain rfl:=base_eq e.symm rfl
    simp only [pev,Option.some.injEq] at h
    subst h
    exact ⟨ρ x,by simp [execOp],hr x y (by simp [Op.operands]) hy⟩
  case pick c a b =>
    simp only [Option.bind_eq_some_iff,Option.map_eq_some_iff] at hT
    obtain ⟨c',hc,a',ha,b',hb,e⟩:=hT
    obtain rfl:=base_eq e.symm rfl
    have rc:=hr c c' (by simp [Op.operands]) hc
    have ra:=hr a a' (by simp [Op.operands]) ha
    have rb:=hr b b' (by simp [Op.operands]) hb
    simp only [pev] at h
    split at h
    · rename_i t ht
      rw [ht] at rc
      simp only [Option.some.injEq] at h
      subst h
      cases t
      · exact ⟨ρ b,by simp [execOp,rc.bool_inv,asBool],rb⟩
      · exact ⟨ρ a,by simp [execOp,rc.bool_inv,asBool],ra⟩
    · cases h
  case build t ps =>
    simp only [Option.bind_eq_some_iff] at hT
    obtain ⟨z,hz,hT⟩:=hT
    obtain ⟨zv,hzr,hzv⟩:=r_zero hz w
    have zk:z ≠ .unk:=zeroT_known hz
    have zc:=(hzv μ).cells zk
    have key:∀ (place:Nat → Option (Nat × Nat)) (qs:List (Nat × Nat × Opd)),partsT place ps.toList=some qs → so=.build z.cells qs →
        ∃ c,Instr.fill place zv.cells (ps.toList.map fun (i,a)=>(i,ρ a))=some c ∧ VR μ v (.agg c):=by
      intro place qs hq e
      subst e
      simp only [pev,Option.map_eq_some_iff] at h
      obtain ⟨c,hc,rfl⟩:=h
      obtain ⟨q,hq1,hq2⟩:=fillv_run hq hc zc fun a y ha=>hr a y (by simpa [Op.operands] using ha)
      exact ⟨⟨q⟩,hq1,.agg hq2⟩
    have hl:(Array.map (fun (x:Nat × Operand)=>(x.fst,ρ x.snd)) ps).toList=ps.toList.map fun (i,a)=>(i,ρ a):=by simp
    split at hT
    · rename_i fs hu
      split at hT
      · rename_i hall
        simp only [Option.map_eq_some_iff] at hT
        obtain ⟨qs,hq,e⟩:=hT
        obtain ⟨c,hc,hcr⟩:=key _ qs hq (base_eq e.symm rfl)
        refine ⟨.agg c,?_,hcr⟩
        have hm:=mapM_places w fs.toList hall
        have hpl:(fun i=>((fs.toList.map fun f=>(f.offset,(szT P f.type).getD 0)).toArray)[i]?)=fieldsT P fs:=by
          funext i
          simp only [fieldsT,List.getElem?_toArray,List.getElem?_map,Array.getElem?_toList]
          cases hf:fs[i]? with
          | none=>rfl
          | some f =>
            have hm:f ∈ fs.toList:=by simpa using Array.mem_of_getElem? hf
            obtain ⟨s,hs⟩:=Option.isSome_iff_exists.1 (List.all_eq_true.1 hall f hm)
            simp [hs]
        simp only [execOp,Instr.build,Sem.run_bind,hzr,Result.andThen_ok,r_und hu]
        rw [← Array.toArray_toList (xs:=fs),List.mapM_toArray]
        simp only [Sem.run_map,hm,Result.andThen_ok,hpl,hl,hc]
        simp
      · cases hT
    · rename_i n e' hu
      simp only [Option.bind_eq_some_iff,Option.map_eq_some_iff] at hT
      obtain ⟨s,hs,qs,hq,e⟩:=hT
      obtain ⟨c,hc,hcr⟩:=key _ qs hq (base_eq e.symm rfl)
      refine ⟨.agg c,?_,hcr⟩
      simp only [execOp,Instr.build,Sem.run_bind,hzr,Result.andThen_ok,r_und hu,r_sz hs]
      simp only [Array.toList_map] at hc ⊢
      simp [hc]
    · cases hT
  case nilCheck x =>
    simp only [Option.map_eq_some_iff] at hT
    obtain ⟨y,hy,e⟩:=hT
    obtain rfl:=base_eq e.symm rfl
    have rx:=hr x y (by simp [Op.operands]) hy
    simp only [pev] at h
    split at h <;> simp at h
    all_goals
      subst h
      rename_i e
      rw [e] at rx
      refine ⟨ρ x,?_,rx⟩
      generalize hq:ρ x=u at rx
      cases rx
      simp [execOp,hq]
  case binOp bop t x y yt =>
    simp only [Option.bind_eq_some_iff] at hT
    obtain ⟨a,ha,b,hb,hT⟩:=hT
    have ra:=hr x a (by simp [Op.operands]) ha
    have rb:=hr y b (by simp [Op.operands]) hb
    have plain:so=.bin bop a b → ∃ u,(execOp ρ ⟨dst,.binOp bop t x y yt,type,pos,after,guard⟩).run P w=.ok (.value u) w ∧ VR μ v u:=by
      intro e
      subst e
      simp only [pev] at h
      obtain ⟨r,hrun,hrv⟩:=binv_run (P:=P) h ra rb t w
      have hg:(eqGuard bop t x y (ρ x) (ρ y)).run P w=.ok () w:=by
        unfold binv at h
        split at h
        · rename_i e1 e2
          rw [e1] at ra; rw [e2] at rb
          rw [ra.int_inv,rb.int_inv]
          unfold eqGuard; split <;> simp
        · rename_i e1 e2
          rw [e1] at ra; rw [e2] at rb
          rw [ra.str_inv,rb.str_inv]
          unfold eqGuard; split <;> simp
        · cases h
      exact ⟨r,by simp [execOp,hg,hrun],hrv⟩
    have cmp:∀ ag ks,(bop=.eql ∨ bop=.neq) → so=.eq (bop == .neq) ag ks a b → EqPrem P t ag ks → ∃ u,(execOp ρ ⟨dst,.binOp bop t x y yt,type,pos,after,guard⟩).run P w=.ok (.value u) w ∧ VR μ v u:=by
      intro ag ks hop e ht
      subst e
      simp only [pev] at h
      split at h
      · rename_i hl
        simp only [Option.map_eq_some_iff] at h
        obtain ⟨r,hs,rfl⟩:=h
        have:=eq_sound (w:=w) hop (x:=x) (y:=y) ht hl.1 hl.2 ra rb hs
        refine ⟨.bool (r != (bop == .neq)),?_,.bool _⟩
        simp only [execOp,Sem.run_bind,Sem.run_pure] at this ⊢
        rw [this]; rfl
      · cases h
    split at hT
    · split at hT
      · simp only [Option.some.injEq] at hT; exact plain (base_eq hT.symm rfl)
      · simp only [Option.some.injEq] at hT; exact plain (base_eq hT.symm rfl)
      · simp only [Option.some.injEq] at hT; exact cmp _ _ (.inl rfl) (base_eq hT.symm rfl) (.inl ⟨‹_›,rfl,rfl⟩)
      · simp only [Option.some.injEq] at hT; exact cmp _ _ (.inl rfl) (base_eq hT.symm rfl) (.inr (.inl ⟨⟨_,‹_›⟩,rfl,rfl⟩))
      · simp only [Option.some.injEq] at hT; exact cmp _ _ (.inl rfl) (base_eq hT.symm rfl) (.inr (.inr (.inl ⟨⟨_,‹_›⟩,rfl,rfl⟩)))
      · simp only [Option.some.injEq] at hT; exact cmp _ _ (.inl rfl) (base_eq hT.symm rfl) (.inr (.inr (.inr (.inl ⟨⟨_,_,‹_›⟩,rfl,rfl⟩))))
      · simp only [Option.some.injEq] at hT; exact cmp _ _ (.inl rfl) (base_eq hT.symm rfl) (.inr (.inr (.inr (.inr (.inl ⟨⟨_,_,_,‹_›⟩,rfl,rfl⟩)))))
      · split at hT
        · cases hT
        · simp only [Option.map_eq_some_iff] at hT
          obtain ⟨ks,hk,hT⟩:=hT
          exact cmp _ _ (.inl rfl) (base_eq hT.symm rfl) (.inr (.inr (.inr (.inr (.inr (.inl ⟨⟨_,‹_›⟩,rfl,Bool.eq_false_iff.2 ‹¬ P.eqGuardType P.depth t=true›,hk⟩))))))
      · split at hT
        · cases hT
        · split at hT
          · split at hT
            · rename_i hsz
              simp only [Option.some.injEq] at hT
              exact cmp _ _ (.inl rfl) (base_eq hT.symm rfl) (.inr (.inr (.inr (.inr (.inr (.inr ⟨⟨_,_,_,‹_›,‹_›,hsz.1,hsz.2,rfl⟩,rfl,Bool.eq_false_iff.2 ‹¬ P.eqGuardType P.depth t=true›⟩))))))
            · cases hT
          · cases hT
      · cases hT
    · split at hT
      · simp only [Option.some.injEq] at hT; exact plain (base_eq hT.symm rfl)
      · simp only [Option.some.injEq] at hT; exact plain (base_eq hT.symm rfl)
      · simp only [Option.some.injEq] at hT; exact cmp _ _ (.inr rfl) (base_eq hT.symm rfl) (.inl ⟨‹_›,rfl,rfl⟩)
      · simp only [Option.some.injEq] at hT; exact cmp _ _ (.inr rfl) (base_eq hT.symm rfl) (.inr (.inl ⟨⟨_,‹_›⟩,rfl,rfl⟩))
      · simp only [Option.some.injEq] at hT; exact cmp _ _ (.inr rfl) (base_eq hT.symm rfl) (.inr (.inr (.inl ⟨⟨_,‹_›⟩,rfl,rfl⟩)))
      · simp only [Option.some.injEq] at hT; exact cmp _ _ (.inr rfl) (base_eq hT.symm rfl) (.inr (.inr (.inr (.inl ⟨⟨_,_,‹_›⟩,rfl,rfl⟩))))
      · simp only [Option.some.injEq] at hT; exact cmp _ _ (.inr rfl) (base_eq hT.symm rfl) (.inr (.inr (.inr (.inr (.inl ⟨⟨_,_,_,‹_›⟩,rfl,rfl⟩)))))
      · split at hT
        · cases hT
        · simp only [Option.map_eq_some_iff] at hT
          obtain ⟨ks,hk,hT⟩:=hT
          exact cmp _ _ (.inr rfl) (base_eq hT.symm rfl) (.inr (.inr (.inr (.inr (.inr (.inl ⟨⟨_,‹_›⟩,rfl,Bool.eq_false_iff.2 ‹¬ P.eqGuardType P.depth t=true›,hk⟩))))))
      · split at hT
        · cases hT
        · split at hT
          · split at hT
            · rename_i hsz
              simp only [Option.some.injEq] at hT
              exact cmp _ _ (.inr rfl) (base_eq hT.symm rfl) (.inr (.inr (.inr (.inr (.inr (.inr ⟨⟨_,_,_,‹_›,‹_›,hsz.1,hsz.2,rfl⟩,rfl,Bool.eq_false_iff.2 ‹¬ P.eqGuardType P.depth t=true›⟩))))))
            · cases hT
          · cases hT
      · cases hT
    · simp only [Option.some.injEq] at hT; exact plain (base_eq hT.symm rfl)
  case unOp uop t x =>
    simp only [Option.map_eq_some_iff] at hT
    obtain ⟨y,hy,e⟩:=hT
    obtain rfl:=base_eq e.symm rfl
    have rx:=hr x y (by simp [Op.operands]) hy
    simp only [pev] at h
    obtain ⟨r,h1,h2⟩:=unv_run (P:=P) h rx w
    exact ⟨r,by simp [execOp,h1],h2⟩
  case makeFunc fn first captured =>
    cases fn <;> simp only [Option.bind_eq_some_iff,Option.map_eq_some_iff,reduceCtorEq] at hT
    obtain ⟨a,ha,c,hc,e⟩:=hT
    obtain rfl:=base_eq e.symm rfl
    simp only [pev,Option.some.injEq] at h
    subst h
    refine ⟨_,by simp [execOp,Instr.makeFunc]; rfl,?_⟩
    have h1:=opdsT_rel ha fun x y hx=>hr x y (by simp [Op.operands]; exact .inl (by simpa using hx))
    have h2:=opdsT_rel hc fun x y hx=>hr x y (by simp [Op.operands]; exact .inr (by simpa using hx))
    have e1:Array.map ρ first=⟨first.toList.map ρ⟩:=by apply Array.toList_inj.1; simp
    have e2:Array.map ρ captured=⟨captured.toList.map ρ⟩:=by apply Array.toList_inj.1; simp
    rw [e1,e2]
    exact .fn h1 h2
  case extract x i =>
    simp only [Option.map_eq_some_iff] at hT
    obtain ⟨y,hy,e⟩:=hT
    obtain rfl:=base_eq e.symm rfl
    have rx:=hr x y (by simp [Op.operands]) hy
    simp only [pev] at h
    split at h
    · rename_i l e
      rw [e] at rx
      obtain ⟨z,hz,hzr⟩:=rx.tup_inv
      obtain ⟨u,hu,hur⟩:=hzr.get h
      exact ⟨u,by simp [execOp,Instr.extract,hz,hu],hur⟩
    · cases h
  case convert src d x =>
    simp only [Option.bind_eq_some_iff] at hT
    obtain ⟨y,hy,hT⟩:=hT
    have rx:=hr x y (by simp [Op.operands]) hy
    split at hT
    · rename_i k hs hd
      simp only [Option.some.injEq] at hT
      obtain rfl:=base_eq hT.symm rfl
      simp only [pev] at h
      split at h
      · rename_i k' n e
        rw [e] at rx
        simp only [Option.some.injEq] at h
        subst h
        exact ⟨_,by simp [execOp,convert,r_und hs,r_und hd,rx.int_inv,Conv.intToInt],.int _ _⟩
      · cases h
    · split at hT
      · split at hT
        · simp only [Option.some.injEq] at hT
          obtain rfl:=base_eq hT.symm rfl
          simp [pev] at h
        · cases hT
      · cases hT
    · split at hT
      · simp only [Option.some.injEq] at hT
        obtain rfl:=base_eq hT.symm rfl
        simp [pev] at h
      · cases hT
    · cases hT
  case slice t x lo hi mx =>
    simp only [Option.bind_eq_some_iff] at hT
    obtain ⟨y,hy,lo',hlo,hi',hhi,mx',hmx,hT⟩:=hT
    have rx:=hr x y (by simp [Op.operands]) hy
    split at hT
    · rename_i n e' hu
      simp only [Option.map_eq_some_iff] at hT
      obtain ⟨s,hs,e⟩:=hT
      obtain rfl:=base_eq e.symm rfl
      simp [pev] at h
    · rename_i e' hu
      simp only [Option.map_eq_some_iff] at hT
      obtain ⟨s,hs,e⟩:=hT
      obtain rfl:=base_eq e.symm rfl
      simp only [pev] at h
      split at h
      · rename_i lo2 hi2 mx2 e1 e2 e3
        have q1:=optO (optI_run hlo e1 fun a b ha=>hr a b (by simp [Op.operands] at ha ⊢; simp [ha]))
        have q2:=optO (optI_run hhi e2 fun a b ha=>hr a b (by simp [Op.operands] at ha ⊢; simp [ha]))
        have q3:=optO (optI_run hmx e3 fun a b ha=>hr a b (by simp [Op.operands] at ha ⊢; simp [ha]))
        split at h
        · rename_i e
          rw [e] at rx
          simp only [Option.map_eq_some_iff] at h
          obtain ⟨⟨l,hh,c⟩,hb,rfl⟩:=h
          obtain ⟨m,hm,h1,h2,h3,h4⟩:=bnds_run (P:=P) (isS:=true) (c:=0) hb (Nat.le_refl _) (fun k hk=>by simpa using hk) q1 q2 q3 w
          refine ⟨.slice none 0 0,?_,.nils⟩
          have:m=0 ∧ l=0 ∧ hh=0:=by omega
          obtain ⟨rfl,rfl,rfl⟩:=this
          simp [execOp,Instr.sliceAt,Instr.slice,r_und hu,rx.nils_inv,hm,r_sz hs]
        · rename_i b off len cap z e
          rw [e] at rx
          split at h
          · rename_i hz
            subst hz
            simp only [Option.map_eq_some_iff] at h
            obtain ⟨⟨l,hh,c⟩,hb,rfl⟩:=h
            obtain ⟨r,base,N,hmu,⟨k,hk,hk1,hk2,hk3⟩ | ⟨a,hk,rfl,hk2⟩⟩:=rx.sl_inv
            · obtain ⟨m,hm,h1,h2,h3,h4⟩:=bnds_run (P:=P) (isS:=true) hb hk1 hk2 q1 q2 q3 w
              refine ⟨.slice (some (if m=l then ⟨r,base + off,none⟩ else ⟨r,base + (off + l * z),none⟩)) (hh - l) (m - l),?_,?_⟩
              · by_cases hml:m=l
                · simp [execOp,Instr.sliceAt,Instr.slice,r_und hu,hk,hm,r_sz hs,hml]
                · simp [execOp,Instr.sliceAt,Instr.slice,r_und hu,hk,hm,r_sz hs,hml,add_none,Nat.add_assoc]
              · by_cases hml:m=l
                · have e1:hh - l=0:=by omega
                  have e2:m - l=0:=by omega
                  simp only [e1,e2]
                  exact .sl0 hmu _ fun j hj=>by have:=h4 j hj; omega
                · rw [if_neg hml]
                  show VR μ (.sl b (off + l * z) (hh - l) c z) _
                  refine .sl hmu (by omega) h4 ?_
                  have:l * z + (m - l) * z=m * z:=by rw [← Nat.add_mul]; congr 1; omega
                  have:m * z ≤ k * z:=Nat.mul_le_mul_right z h3
                  omega
            · obtain ⟨m,hm,h1,h2,h3,h4⟩:=bnds_run (P:=P) (isS:=true) (c:=0) hb (Nat.le_refl _) (fun j hj=>(hk2 j hj).symm) q1 q2 q3 w
              have:m=0 ∧ l=0 ∧ hh=0:=by omega
              obtain ⟨rfl,rfl,rfl⟩:=this
              refine ⟨.slice (some a) 0 0,?_,.sl0 hmu _ fun j hj=>by have:=h4 j hj; omega⟩
              simp [execOp,Instr.sliceAt,Instr.slice,r_und hu,hk,hm,r_sz hs]
          · cases h
        · rename_i e
          rw [e] at rx
          simp only [Option.map_eq_some_iff] at h
          obtain ⟨⟨l,hh,c⟩,hb,rfl⟩:=h
          obtain ⟨m,hm,h1,h2,h3,h4⟩:=bnds_run (P:=P) (isS:=true) (c:=0) hb (Nat.le_refl _) (fun k hk=>by simpa using hk) q1 q2 q3 w
          obtain ⟨a,ha⟩:=rx.emp_inv
          refine ⟨.slice (some a) 0 0,?_,.emp a⟩
          have:m=0 ∧ l=0 ∧ hh=0:=by omega
          obtain ⟨rfl,rfl,rfl⟩:=this
          simp [execOp,Instr.sliceAt,Instr.slice,r_und hu,ha,hm,r_sz hs]
        · cases h
      · cases h
    · rename_i hu
      split at hT
      · rename_i hmn
        simp only [Option.some.injEq] at hT
        obtain rfl:=base_eq hT.symm rfl
        simp only [pev] at h
        split at h
        · rename_i lo2 hi2 e1 e2
          have q1:=optO (optI_run hlo e1 fun a b ha=>hr a b (by simp [Op.operands] at ha ⊢; simp [ha]))
          have q2:=optO (optI_run hhi e2 fun a b ha=>hr a b (by simp [Op.operands] at ha ⊢; simp [ha]))
          have hmx0:mx=none:=by
            cases mx with
            | none=>rfl
            | some a=>simp [opdO,Option.map_eq_some_iff] at hmx; obtain ⟨b,_,rfl⟩:=hmx; simp at hmn
          subst hmx0
          split at h
          · rename_i s e
            rw [e] at rx
            simp only [Option.map_eq_some_iff] at h
            obtain ⟨⟨l,hh,c⟩,hb,rfl⟩:=h
            obtain ⟨m,hm,h1,h2,h3,h4⟩:=bnds_run (P:=P) (isS:=false) (c:=s.size) (vmx:=none) hb (Nat.le_refl _) (fun k hk=>by simpa using hk) q1 q2 (.inl ⟨rfl,rfl⟩) w
            exact ⟨.string (s.extract l hh),by simp [execOp,Instr.sliceAt,Instr.slice,r_und hu,rx.str_inv,hm],.str _⟩
          · cases h
        · cases h
      · cases hT
    · cases hT
  case fieldAddr s x f =>
    simp only [Option.bind_eq_some_iff] at hT
    obtain ⟨y,hy,hT⟩:=hT
    have rx:=hr x y (by simp [Op.operands]) hy
    split at hT
    · rename_i fs hu
      simp only [Option.bind_eq_some_iff] at hT
      obtain ⟨fd,hfd,n,hn,hT⟩:=hT
      split at hT
      · cases hT
      · rename_i hn0
        simp only [Option.some.injEq] at hT
        obtain rfl:=base_eq hT.symm rfl
        simp only [pev] at h
        split at h
        · rename_i b o e
          rw [e] at rx
          simp only [Option.some.injEq] at h
          subst h
          obtain ⟨r,base,N,hmu,hk⟩:=rx.ptr_inv
          refine ⟨.pointer (some ⟨r,base + (o + fd.offset),none⟩),?_,.ptr hmu⟩
          simp [execOp,Instr.fieldAt,r_und hu,hfd,hk,Instr.sureAddr,fieldPlace,r_sz hn,hn0,add_none,Nat.add_assoc]
        · cases h
    · cases hT
  case field t x f =>
    simp only [Option.bind_eq_some_iff] at hT
    obtain ⟨y,hy,hT⟩:=hT
    have rx:=hr x y (by simp [Op.operands]) hy
    split at hT
    · rename_i fs hu
      simp only [Option.bind_eq_some_iff,Option.map_eq_some_iff] at hT
      obtain ⟨fd,hfd,n,hn,e⟩:=hT
      obtain rfl:=base_eq e.symm rfl
      simp only [pev] at h
      split at h
      · rename_i l e
        rw [e] at rx
        obtain ⟨z,hz,hzr⟩:=rx.agg_inv
        obtain ⟨u,hu2,hur⟩:=r_part hn hzr h w
        exact ⟨u,by simp [execOp,Instr.field,r_und hu,hfd,hz,asAgg,hu2],hur⟩
      · cases h
    · cases hT
  case indexAddr t x i =>
    simp only [Option.bind_eq_some_iff] at hT
    obtain ⟨y,hy,j,hj,hT⟩:=hT
    have rx:=hr x y (by simp [Op.operands]) hy
    have ri:=hr i j (by simp [Op.operands]) hj
    split at hT
    · rename_i n e' hu
      simp only [Option.map_eq_some_iff] at hT
      obtain ⟨s,hs,e⟩:=hT
      obtain rfl:=base_eq e.symm rfl
      simp only [pev] at h
      split at h
      · rename_i b off k q e1 e2
        rw [e1] at rx
        rw [e2] at ri
        split at h
        · rename_i hb
          simp only [Option.some.injEq] at h
          subst h
          obtain ⟨r,base,N,hmu,hk⟩:=rx.ptr_inv
          have hb:=inB_iff hb
          refine ⟨.pointer (some ⟨r,base + (off + q.toNat * s),none⟩),?_,.ptr hmu⟩
          simp [execOp,Instr.indexAt,r_und hu,hk,ri.int_inv,asIntOf,Instr.sureAddr,hb,r_sz hs,add_none,Nat.add_assoc]
        · cases h
      · cases h
    · rename_i e' hu
      simp only [Option.map_eq_some_iff] at hT
      obtain ⟨s,hs,e⟩:=hT
      obtain rfl:=base_eq e.symm rfl
      simp only [pev] at h
      split at h
      · rename_i b off len c z k q e1 e2
        rw [e1] at rx
        rw [e2] at ri
        split at h
        · rename_i hb
          simp only [Option.some.injEq] at h
          subst h
          have hb:=inB_iff hb
          obtain ⟨r,base,N,hmu,⟨k,hk,hk1,hk2,hk3⟩ | ⟨a,hk,rfl,hk2⟩⟩:=rx.sl_inv
          · refine ⟨.pointer (some ⟨r,base + (off + q.toNat * s),none⟩),?_,.ptr hmu⟩
            simp [execOp,Instr.indexAt,r_und hu,hk,ri.int_inv,asIntOf,hb,r_sz hs,add_none,Nat.add_assoc]
          · omega
        · cases h
      · cases h
    · cases hT
  case index t x i =>
    simp only [Option.bind_eq_some_iff] at hT
    obtain ⟨y,hy,j,hj,hT⟩:=hT
    have rx:=hr x y (by simp [Op.operands]) hy
    have ri:=hr i j (by simp [Op.operands]) hj
    split at hT
    · rename_i n e' hu
      simp only [Option.bind_eq_some_iff,Option.map_eq_some_iff] at hT
      obtain ⟨s,hs,ag,hag,e⟩:=hT
      obtain rfl:=base_eq e.symm rfl
      simp only [pev] at h
      split at h
      · rename_i l k q e1 e2
        rw [e1] at rx
        rw [e2] at ri
        split at h
        · rename_i hb
          have hb:=inB_iff hb
          obtain ⟨z,hz,hzr⟩:=rx.agg_inv
          obtain ⟨u,hu2,hur⟩:=r_part (P:=P) (t:=e') (by simp [varT,hag,hs]) hzr h w
          exact ⟨u,by simp [execOp,Instr.index,r_und hu,hz,ri.int_inv,asIntOf,hb,r_sz hs,hu2],hur⟩
        · cases h
      · cases h
    · rename_i hu
      simp only [Option.some.injEq] at hT
      obtain rfl:=base_eq hT.symm rfl
      simp only [pev] at h
      split at h
      · rename_i s k q e1 e2
        rw [e1] at rx
        rw [e2] at ri
        split at h
        · rename_i hq
          simp only [Option.map_eq_some_iff] at h
          obtain ⟨b,hb,rfl⟩:=h
          refine ⟨.int .u8 b.toNat,?_,.int _ _⟩
          have hb':s[q.toNat]? = some b:=by
            have h1:=(List.getElem?_eq_some_iff.1 hb).1
            have h2:=(List.getElem?_eq_some_iff.1 hb).2
            have:q.toNat < s.size:=by simpa using h1
            rw [getElem?_pos s q.toNat this]
            congr 1
          simp [execOp,Instr.index,r_und hu,rx.str_inv,ri.int_inv,asIntOf,hq,hb']
        · cases h
      · cases h
    · cases hT
  case call c =>
    unfold callT at hT
    simp only [Option.bind_eq_some_iff] at hT
    obtain ⟨args,hargs,hT⟩:=hT
    have ra:=opdsT_rel hargs fun x y hx=>hr x y (by simp [Op.operands,Call.operands]; exact .inr (by simpa using hx))
    obtain ⟨callee,cargs,tys⟩:=c
    dsimp only at hT hargs ra
    have em:Array.map ρ cargs=⟨cargs.toList.map ρ⟩:=by apply Array.toList_inj.1; simp
    have pos_:so.base.pure=true:=by rw [SOp.pure_base]; exact pev_pure h
    cases callee with
    | invoke r m=>simp at hT
    | value f =>
      cases f with
      | func f =>
        simp only [Option.bind_eq_some_iff] at hT
        obtain ⟨fn,hfn,hT⟩:=hT
        split at hT
        · simp only [Option.some.injEq] at hT; rw [← hT] at pos_; simp [SOp.pure] at pos_
        · split at hT
          · rename_i hc
            simp only [Bool.and_eq_true,beq_iff_eq,Option.isNone_iff_eq_none] at hc
            split at hT
            · rename_i x y c
              simp only [Option.some.injEq] at hT
              obtain rfl:=base_eq hT.symm rfl
              simp only [pev] at h
              obtain ⟨a0,b0,c0,e1,e2,e3,hb,hv⟩:=add64v_inv h
              simp only [List.map_cons,List.map_nil] at ra
              rw [e1,e2,e3] at ra
              have hl : cargs.toList.map ρ=[.int .u64 a0,.int .u64 b0,.int .u64 c0]:=by
                generalize cargs.toList.map ρ=l at ra
                cases ra with
                | cons q1 t=>cases t with
                  | cons q2 t=>cases t with
                    | cons q3 t =>
                      cases t
                      rw [q1.int_inv,q2.int_inv,q3.int_inv]
              refine ⟨.tuple #[.int .u64 ((a0 + b0 + c0) % 18446744073709551616),.int .u64 ((a0 + b0 + c0) / 18446744073709551616)],?_,?_⟩
              · have hr2:=run_callFunc_extern hfn (by rw [hc.2]; rfl) (by rw [hc.1.1]; rfl) hc.1.2 (find_add64 hc.2) #[.int .u64 a0,.int .u64 b0,.int .u64 c0] w
                rw [run_add64 a0 b0 c0 hb.1 hb.2.1 hb.2.2.1 hb.2.2.2 w] at hr2
                have hf2:ρ (.func f)=.func (.func f) #[] #[]:=by
                  have hq:=hr (.func f) (.v (.fn f [] [])) (by simp [Op.operands,Call.operands]) rfl
                  generalize ρ (.func f)=q at hq
                  simp only [Opd.ev] at hq
                  cases hq with
                  | fn h1 h2=>cases h1; cases h2; rfl
                simp only [execOp,Sem.run_bind,resolve,em,hl,Sem.run_pure,Result.andThen_ok,invoke,Deferred.ofValue,hf2]
                first | exact hr2 | (simp; exact hr2)
              · rw [hv]
                exact .tup (x:=[_,_]) (.cons (.int _ _) (.cons (.int _ _) .nil))
            · cases hT
          · cases hT
      | tmp t=>simp only [Option.some.injEq] at hT; rw [← hT] at pos_; simp [SOp.pure] at pos_
      | const v=>simp at hT
      | global g=>simp at hT
    | builtin b =>
      simp only at hT
      unfold builtinT at hT
      split at hT
      · rename_i x
        simp only [Option.bind_eq_some_iff] at hT
        obtain ⟨t,ht,hT⟩:=hT
        obtain ⟨u,hu,hur⟩:∃ u,cargs.toList.map ρ=[u] ∧ VR μ (x.ev fr) u:=by
          cases hcl:cargs.toList.map ρ with
          | nil=>rw [hcl] at ra; cases ra
          | cons u l=>rw [hcl] at ra; cases ra with | cons h1 h2=>cases h2; exact ⟨u,rfl,h1⟩
        have run:∀ v',(Builtin.len_ tys type #[u]).run P w=.ok v' w → (execOp ρ ⟨dst,.call ⟨.builtin .len,cargs,tys⟩,type,pos,after,guard⟩).run P w=.ok (.value v') w:=by
          intro v' hv
          simp only [execOp,Sem.run_bind,resolve,em,hu,Sem.run_pure,Result.andThen_ok,invoke,builtin]
          simp [hv]
        split at hT
        · rename_i hs
          simp only [Option.some.injEq] at hT
          obtain rfl:=base_eq hT.symm rfl
          simp only [pev] at h
          split at h
          · rename_i s e
            rw [e] at hur
            simp only [Option.some.injEq] at h
            subst h
            exact ⟨_,run (.int .i64 s.size) (by rw [hur.str_inv]; simp [Builtin.len_,ht,r_und hs,goInt]),.int _ _⟩
          · cases h
        · rename_i hs
          simp only [Option.some.injEq] at hT
          obtain rfl:=base_eq hT.symm rfl
          simp only [pev] at h
          split at h
          · rename_i e
            rw [e] at hur
            simp only [Option.some.injEq] at h
            subst h
            exact ⟨_,run (.int .i64 0) (by rw [hur.nils_inv]; simp [Builtin.len_,ht,r_und hs,goInt]),.int _ _⟩
          · rename_i b o n c z e
            rw [e] at hur
            simp only [Option.some.injEq] at h
            subst h
            refine ⟨_,run (.int .i64 n) ?_,.int _ _⟩
            obtain ⟨r,base,N,hmu,⟨k,hk,_⟩ | ⟨a,hk,rfl,_⟩⟩:=hur.sl_inv
            · rw [hk]; simp [Builtin.len_,ht,r_und hs,goInt]
            · rw [hk]; simp [Builtin.len_,ht,r_und hs,goInt]
          · rename_i e
            rw [e] at hur
            simp only [Option.some.injEq] at h
            subst h
            obtain ⟨a,ha⟩:=hur.emp_inv
            exact ⟨_,run (.int .i64 0) (by rw [ha]; simp [Builtin.len_,ht,r_und hs,goInt]),.int _ _⟩
          · cases h
        · simp only [Option.some.injEq] at hT; rw [← hT] at pos_; simp [SOp.pure] at pos_
        · rename_i n e' hs
          simp only [Option.some.injEq] at hT
          obtain rfl:=base_eq hT.symm rfl
          simp only [pev,Option.some.injEq] at h
          subst h
          exact ⟨_,run (.int .i64 n) (by simp [Builtin.len_,ht,r_und hs,goInt]),.int _ _⟩
        · rename_i a hs
          split at hT
          · rename_i n e' hs2
            simp only [Option.some.injEq] at hT
            obtain rfl:=base_eq hT.symm rfl
            simp only [pev,Option.some.injEq] at h
            subst h
            refine ⟨_,run (.int .i64 n) ?_,.int _ _⟩
            cases u <;> simp [Builtin.len_,ht,r_und hs,r_und hs2,goInt]
          · cases hT
        · cases hT
      · simp only [Option.bind_eq_some_iff] at hT
        obtain ⟨_,_,_,_,hT⟩:=hT
        split at hT
        · split at hT
          · cases hT
          · simp only [Option.bind_eq_some_iff,Option.map_eq_some_iff] at hT
            obtain ⟨_,_,_,_,_,_,e⟩:=hT
            rw [← e] at pos_; simp [SOp.pure] at pos_
        · cases hT
      · simp only [Option.bind_eq_some_iff] at hT
        obtain ⟨_,_,hT⟩:=hT
        split at hT
        · simp only [Option.map_eq_some_iff] at hT
          obtain ⟨_,_,e⟩:=hT
          rw [← e] at pos_; simp [SOp.pure] at pos_
        · cases hT
      · simp only [Option.bind_eq_some_iff] at hT
        obtain ⟨_,_,hT⟩:=hT
        split at hT
        · simp only [Option.some.injEq] at hT; rw [← hT] at pos_; simp [SOp.pure] at pos_
        · cases hT
      · simp only [Option.bind_eq_some_iff] at hT
        obtain ⟨_,_,hT⟩:=hT
        split at hT
        · simp only [Option.bind_eq_some_iff,Option.map_eq_some_iff] at hT
          obtain ⟨_,_,_,_,e⟩:=hT
          rw [← e] at pos_; simp [SOp.pure] at pos_
        · cases hT
      · rename_i x r
        simp only [Option.some.injEq] at hT
        obtain rfl:=base_eq hT.symm rfl
        simp only [pev,List.map_cons] at h
        rw [List.map_cons] at ra
        cases hcl:cargs.toList.map ρ with
        | nil=>rw [hcl] at ra; cases ra
        | cons u l =>
          rw [hcl] at ra
          cases ra with
          | cons h1 h2 =>
            obtain ⟨v',hv,hz⟩:=mxmnL_run (P:=P) h h1 h2 w
            refine ⟨v',?_,hz⟩
            simp only [execOp,Sem.run_bind,resolve,em,hcl,Sem.run_pure,Result.andThen_ok,invoke,builtin,Builtin.max_]
            simp at hv
            simp [hv]
      · rename_i x r
        simp only [Option.some.injEq] at hT
        obtain rfl:=base_eq hT.symm rfl
        simp only [pev,List.map_cons] at h
        rw [List.map_cons] at ra
        cases hcl:cargs.toList.map ρ with
        | nil=>rw [hcl] at ra; cases ra
        | cons u l =>
          rw [hcl] at ra
          cases ra with
          | cons h1 h2 =>
            obtain ⟨v',hv,hz⟩:=mxmnL_run (P:=P) h h1 h2 w
            refine ⟨v',?_,hz⟩
            simp only [execOp,Sem.run_bind,resolve,em,hcl,Sem.run_pure,Result.andThen_ok,invoke,builtin,Builtin.min_]
            simp at hv
            simp [hv]
      · cases hT
  all_goals
    exfalso
    have hp:so.base.pure=true:=by rw [SOp.pure_base]; exact pev_pure h
  case alloc e=>simp only [Option.map_eq_some_iff] at hT; obtain ⟨z,_,e⟩:=hT; rw [← e] at hp; simp [SOp.pure] at hp
  case box e x=>simp only [Option.bind_eq_some_iff,Option.map_eq_some_iff] at hT; obtain ⟨_,_,z,_,e⟩:=hT; rw [← e] at hp; simp [SOp.pure] at hp
  case load e x=>simp only [Option.bind_eq_some_iff,Option.map_eq_some_iff] at hT; obtain ⟨_,_,z,_,e⟩:=hT; rw [← e] at hp; simp [SOp.pure] at hp
  case store e x y=>simp only [Option.bind_eq_some_iff,Option.map_eq_some_iff] at hT; obtain ⟨_,_,_,_,z,_,e⟩:=hT; rw [← e] at hp; simp [SOp.pure] at hp
  case buildSlice t n ps =>
    split at hT
    · simp only [Option.bind_eq_some_iff] at hT
      obtain ⟨_,_,_,_,_,_,hT⟩:=hT
      split at hT
      · simp only [Option.some.injEq] at hT; rw [← hT] at hp; simp [SOp.pure] at hp
      · cases hT
    · cases hT
  case makeMap t r =>
    cases r
    · simp only [Option.some.injEq] at hT; rw [← hT] at hp; simp [SOp.pure] at hp
    · cases hT
  case makeSlice t l c =>
    split at hT
    · simp only [Option.bind_eq_some_iff] at hT
      obtain ⟨_,_,_,_,_,_,_,_,hT⟩:=hT
      split at hT
      · simp only [Option.some.injEq] at hT; rw [← hT] at hp; simp [SOp.pure] at hp
      · cases hT
    · cases hT
  case lookup t m k ok =>
    simp only [Option.bind_eq_some_iff] at hT
    obtain ⟨_,_,_,_,hT⟩:=hT
    split at hT
    · simp only [Option.bind_eq_some_iff,Option.map_eq_some_iff] at hT
      obtain ⟨_,_,_,_,_,_,e⟩:=hT
      rw [← e] at hp; simp [SOp.pure] at hp
    · cases hT
  case mapUpdate t m k x =>
    simp only [Option.bind_eq_some_iff] at hT
    obtain ⟨_,_,_,_,_,_,hT⟩:=hT
    split at hT
    · simp only [Option.bind_eq_some_iff,Option.map_eq_some_iff] at hT
      obtain ⟨_,_,_,_,e⟩:=hT
      rw [← e] at hp; simp [SOp.pure] at hp
    · cases hT
  case insert t m k x =>
    simp only [Option.bind_eq_some_iff] at hT
    obtain ⟨_,_,_,_,_,_,hT⟩:=hT
    split at hT
    · simp only [Option.bind_eq_some_iff,Option.map_eq_some_iff] at hT
      obtain ⟨_,_,_,_,e⟩:=hT
      rw [← e] at hp; simp [SOp.pure] at hp
    · cases hT
  case panic x=>simp only [Option.some.injEq] at hT; rw [← hT] at hp; simp [SOp.pure] at hp
  all_goals cases hT
end Go.Sh

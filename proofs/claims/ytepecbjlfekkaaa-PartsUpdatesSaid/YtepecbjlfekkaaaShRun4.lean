import Derived.Test.YtepecbjlfekkaaaShRm
set_option linter.all false
set_option linter.unusedVariables false
set_option linter.unusedSimpArgs false
set_option autoImplicit false
namespace Go.Sh
variable {P:Program}
theorem rmT_rangem {nt:Nat} {a b:Code} {y z:SCode} (h:rmT P nt a b y=some z):∃ mp it nx more out next pair ks pre asg body,z=.rangem mp it nx more out next pair ks pre asg body:=by
  unfold rmT at h
  split at h
  · split at h
    · rw [Option.ite_none_right_eq_some] at h
      obtain ⟨_,h⟩:=h
      simp only [Option.bind_eq_some_iff,Option.map_eq_some_iff] at h
      obtain ⟨_,_,_,_,_,_,rfl⟩:=h
      exact ⟨_,_,_,_,_,_,_,_,_,_,_,rfl⟩
    · cases h
  · cases h
theorem mkSeq_cases {nt:Nat} {a b:Code} {x y:SCode}:mkSeq P nt a b x y=.seq x y ∨ ∃ mp it nx more out next pair ks pre asg body,mkSeq P nt a b x y=.rangem mp it nx more out next pair ks pre asg body ∧ rmT P nt a b y=some (.rangem mp it nx more out next pair ks pre asg body):=by
  unfold mkSeq
  cases h:rmT P nt a b y with
  | none=>exact .inl rfl
  | some z =>
    obtain ⟨mp,it,nx,more,out,next,pair,ks,pre,asg,body,rfl⟩:=rmT_rangem h
    exact .inr ⟨mp,it,nx,more,out,next,pair,ks,pre,asg,body,rfl,rfl⟩
theorem mkSeq_ne {nt:Nat} {a b:Code} {x y z:SCode} (h1:∀ u v,z ≠ .seq u v) (h2:∀ mp it nx more out next pair ks pre asg body,z ≠ .rangem mp it nx more out next pair ks pre asg body):(mkSeq P nt a b x y=z)=False:=by
  refine eq_false fun h=>?_
  rcases mkSeq_cases (P:=P) (nt:=nt) (a:=a) (b:=b) (x:=x) (y:=y) with e | ⟨_,_,_,_,_,_,_,_,_,_,_,e,_⟩
  · exact h1 _ _ (h.symm.trans e)
  · exact h2 _ _ _ _ _ _ _ _ _ _ _ (h.symm.trans e)
section ne
variable {nt:Nat} {a b:Code} {x y:SCode}
theorem mkSeq_skip:(mkSeq P nt a b x y=.skip)=False:=mkSeq_ne (by intros; simp) (by intros; simp)
theorem mkSeq_region {d l}:(mkSeq P nt a b x y=.region d l)=False:=mkSeq_ne (by intros; simp) (by intros; simp)
theorem mkSeq_cond {c u v}:(mkSeq P nt a b x y=.cond c u v)=False:=mkSeq_ne (by intros; simp) (by intros; simp)
theorem mkSeq_block {i u}:(mkSeq P nt a b x y=.block i u)=False:=mkSeq_ne (by intros; simp) (by intros; simp)
theorem mkSeq_loop {i u}:(mkSeq P nt a b x y=.loop i u)=False:=mkSeq_ne (by intros; simp) (by intros; simp)
theorem mkSeq_rangef {i j u v}:(mkSeq P nt a b x y=.rangef i j u v)=False:=mkSeq_ne (by intros; simp) (by intros; simp)
theorem mkSeq_exit {i}:(mkSeq P nt a b x y=.exit i)=False:=mkSeq_ne (by intros; simp) (by intros; simp)
theorem mkSeq_ret:(mkSeq P nt a b x y=.ret)=False:=mkSeq_ne (by intros; simp) (by intros; simp)
theorem mkSeq_kp {i u}:(mkSeq P nt a b x y=.kp i u)=False:=mkSeq_ne (by intros; simp) (by intros; simp)
end ne
section inv
variable {oc:Bool} {nt:Nat} {cr:Code}
theorem codeT_skip (h:codeT P oc nt cr=some .skip):cr=.skip ∨ ∃ l,cr=.label l:=by
  cases cr <;> simp only [codeT,Option.bind_eq_some_iff,Option.map_eq_some_iff,Option.ite_none_right_eq_some,Option.some.injEq,SCode.region.injEq,SCode.seq.injEq,SCode.cond.injEq,SCode.block.injEq,SCode.loop.injEq,SCode.rangef.injEq,SCode.exit.injEq,mkSeq_skip,mkSeq_region,mkSeq_cond,mkSeq_block,mkSeq_loop,mkSeq_rangef,mkSeq_exit,mkSeq_ret,mkSeq_kp,reduceCtorEq,and_false,false_and,exists_false] at h
  · exact .inl rfl
  · exact .inr ⟨_,rfl⟩
theorem codeT_region {d:Bool} {l:List SOper} (h:codeT P oc nt cr=some (.region d l)):∃ id ops,cr=.region id ops d ∧ regionT P oc nt ops d=some l:=by
  cases cr <;> simp only [codeT,Option.bind_eq_some_iff,Option.map_eq_some_iff,Option.ite_none_right_eq_some,Option.some.injEq,SCode.region.injEq,SCode.seq.injEq,SCode.cond.injEq,SCode.block.injEq,SCode.loop.injEq,SCode.rangef.injEq,SCode.exit.injEq,mkSeq_skip,mkSeq_region,mkSeq_cond,mkSeq_block,mkSeq_loop,mkSeq_rangef,mkSeq_exit,mkSeq_ret,mkSeq_kp,reduceCtorEq,and_false,false_and,exists_false] at h
  obtain ⟨l',h1,rfl,rfl⟩:=h
  exact ⟨_,_,rfl,h1⟩
theorem codeT_seq {x y:SCode} (h:codeT P oc nt cr=some (.seq x y)):∃ a b,cr=.seq a b ∧ codeT P oc nt a=some x ∧ codeT P oc nt b=some y:=by
  cases cr <;> simp only [codeT,Option.bind_eq_some_iff,Option.map_eq_some_iff,Option.ite_none_right_eq_some,Option.some.injEq,SCode.region.injEq,SCode.seq.injEq,SCode.cond.injEq,SCode.block.injEq,SCode.loop.injEq,SCode.rangef.injEq,SCode.exit.injEq,mkSeq_skip,mkSeq_region,mkSeq_cond,mkSeq_block,mkSeq_loop,mkSeq_rangef,mkSeq_exit,mkSeq_ret,mkSeq_kp,reduceCtorEq,and_false,false_and,exists_false] at h
  obtain ⟨a,ha,b,hb,h⟩:=h
  rcases mkSeq_cases (P:=P) (nt:=nt) (x:=a) (y:=b) with e | ⟨_,_,_,_,_,_,_,_,_,_,_,e,_⟩
  · rw [e] at h
    simp only [SCode.seq.injEq] at h
    obtain ⟨rfl,rfl⟩:=h
    exact ⟨_,_,rfl,ha,hb⟩
  · rw [e] at h; cases h
theorem codeT_cond {c:Opd} {x y:SCode} (h:codeT P oc nt cr=some (.cond c x y)):∃ d a b,cr=.cond d a b ∧ opdT d=some c ∧ codeT P oc nt a=some x ∧ codeT P oc nt b=some y:=by
  cases cr <;> simp only [codeT,Option.bind_eq_some_iff,Option.map_eq_some_iff,Option.ite_none_right_eq_some,Option.some.injEq,SCode.region.injEq,SCode.seq.injEq,SCode.cond.injEq,SCode.block.injEq,SCode.loop.injEq,SCode.rangef.injEq,SCode.exit.injEq,mkSeq_skip,mkSeq_region,mkSeq_cond,mkSeq_block,mkSeq_loop,mkSeq_rangef,mkSeq_exit,mkSeq_ret,mkSeq_kp,reduceCtorEq,and_false,false_and,exists_false] at h
  obtain ⟨d,hd,a,ha,b,hb,rfl,rfl,rfl⟩:=h
  exact ⟨_,_,_,rfl,hd,ha,hb⟩
theorem codeT_block {i:Nat} {x:SCode} (h:codeT P oc nt cr=some (.block i x)):∃ a,cr=.block i a ∧ codeT P oc nt a=some x:=by
  cases cr <;> simp only [codeT,Option.bind_eq_some_iff,Option.map_eq_some_iff,Option.ite_none_right_eq_some,Option.some.injEq,SCode.region.injEq,SCode.seq.injEq,SCode.cond.injEq,SCode.block.injEq,SCode.loop.injEq,SCode.rangef.injEq,SCode.exit.injEq,mkSeq_skip,mkSeq_region,mkSeq_cond,mkSeq_block,mkSeq_loop,mkSeq_rangef,mkSeq_exit,mkSeq_ret,mkSeq_kp,reduceCtorEq,and_false,false_and,exists_false] at h
  obtain ⟨a,ha,rfl,rfl⟩:=h
  exact ⟨_,rfl,ha⟩
theorem codeT_loop {ks:Option (List Nat)} {x:SCode} (h:codeT P oc nt cr=some (.loop ks x)):∃ a,cr=.loop a ∧ codeT P oc nt a=some x:=by
  cases cr <;> simp only [codeT,Option.bind_eq_some_iff,Option.map_eq_some_iff,Option.ite_none_right_eq_some,Option.some.injEq,SCode.region.injEq,SCode.seq.injEq,SCode.cond.injEq,SCode.block.injEq,SCode.loop.injEq,SCode.rangef.injEq,SCode.exit.injEq,mkSeq_skip,mkSeq_region,mkSeq_cond,mkSeq_block,mkSeq_loop,mkSeq_rangef,mkSeq_exit,mkSeq_ret,mkSeq_kp,reduceCtorEq,and_false,false_and,exists_false] at h
  obtain ⟨a,ha,rfl,rfl⟩:=h
  exact ⟨_,rfl,ha⟩
theorem codeT_rangef {f:Opd} {ps:List Nat} {x y:SCode} (h:codeT P oc nt cr=some (.rangef f ps x y)) :
    ∃ g qs a b,cr=.rangeFunc g qs a b ∧ opdT g=some f ∧ qs.toList=ps ∧ (∀ t ∈ ps,t < nt) ∧ codeT P oc nt a=some x ∧ codeT P oc nt b=some y:=by
  cases cr <;> simp only [codeT,Option.bind_eq_some_iff,Option.map_eq_some_iff,Option.ite_none_right_eq_some,Option.some.injEq,SCode.region.injEq,SCode.seq.injEq,SCode.cond.injEq,SCode.block.injEq,SCode.loop.injEq,SCode.rangef.injEq,SCode.exit.injEq,mkSeq_skip,mkSeq_region,mkSeq_cond,mkSeq_block,mkSeq_loop,mkSeq_rangef,mkSeq_exit,mkSeq_ret,mkSeq_kp,reduceCtorEq,and_false,false_and,exists_false] at h
  obtain ⟨f',hf,a,ha,b,hb,hlt,rfl,rfl,rfl,rfl⟩:=h
  exact ⟨_,_,_,_,rfl,hf,rfl,fun t ht=>of_decide_eq_true (List.all_eq_true.1 hlt t ht),ha,hb⟩
theorem codeT_rangem {mp:Opd} {it nx more out next pair:Nat} {ks:List Nat} {pre asg:List SOper} {body:SCode} (h:codeT P oc nt cr=some (.rangem mp it nx more out next pair ks pre asg body)) :
    ∃ i0 ops0 i1 ops1 i2 ops2 cb,∃ (o0 o1 o2 o3:Oper) (pres rest:List Oper) (t kt et:TypeId) (x:Operand),cr=.seq (.region i0 ops0 false) (.block out (.loop (rmBody i1 ops1 more out next i2 ops2 cb))) ∧
      ops0.toList=pres ++ [o0] ∧ o0.dst=some it ∧ o0.op=.range t x ∧ o0.guard=none ∧ P.underlying t=some (.map kt et) ∧ opdT x=some mp ∧ opersT P nt ops0 pres=some pre ∧
      ops1.toList=[o1,o2] ∧ ops2.toList=o3 :: rest ∧ o1.dst=some nx ∧ o1.op=.next (.tmp it) false ∧ o1.guard=none ∧ o2.dst=some more ∧ o2.op=.extract (.tmp nx) 0 ∧ o2.guard=none ∧ o3.dst=some pair ∧ o3.op=.entry (.tmp it) ∧ o3.guard=none ∧
      it ≠ nx ∧ it ≠ more ∧ it < nt ∧ nx < nt ∧ more < nt ∧ pair < nt ∧ opersT P nt ops2 rest=some asg ∧ codeT P oc nt cb=some body:=by
  cases cr <;> simp only [codeT,Option.bind_eq_some_iff,Option.map_eq_some_iff,Option.ite_none_right_eq_some,Option.some.injEq,SCode.region.injEq,SCode.seq.injEq,SCode.cond.injEq,SCode.block.injEq,SCode.loop.injEq,SCode.rangef.injEq,SCode.exit.injEq,reduceCtorEq,and_false,false_and,exists_false] at h
  rename_i a b
  obtain ⟨x',ha,y,hb,h⟩:=h
  rcases mkSeq_cases (P:=P) (nt:=nt) (a:=a) (b:=b) (x:=x') (y:=y) with e | ⟨_,_,_,_,_,_,_,_,_,_,_,e,hrm⟩
  · rw [e] at h; cases h
  · rw [e] at h
    cases h
    unfold rmT at hrm
    split at hrm
    · rename_i i0 ops0 out' i1 ops1 mo out'' next' i2 ops2 cb _ _ _ _ _ _ body'
      split at hrm
      · rename_i it' t x'' _ _ _ pre' nx' it2 _ _ _ more' nx2 _ _ _ pair' it3 _ _ _ rest' e0 e1 e2
        rw [Option.ite_none_right_eq_some] at hrm
        obtain ⟨hcond,hrm⟩:=hrm
        obtain ⟨rfl,rfl,rfl,rfl,rfl,n1,n2,l1,l2,l3,l4,hmap⟩:=hcond
        simp only [Option.bind_eq_some_iff,Option.map_eq_some_iff,SCode.rangem.injEq] at hrm
        obtain ⟨mp',hmp,pre2,hpre,asg',hasg,rfl,rfl,rfl,rfl,rfl,rfl,rfl,rfl,rfl,rfl,rfl⟩:=hrm
        obtain ⟨_,hb1,hb2⟩:=codeT_block hb
        cases hb1
        obtain ⟨_,hb3,hb4⟩:=codeT_loop hb2
        cases hb3
        obtain ⟨_,_,hb5,_,hb6⟩:=codeT_seq hb4
        cases hb5
        obtain ⟨_,_,hb7,_,hb8⟩:=codeT_seq hb6
        cases hb7
        obtain ⟨_,hb9,hb10⟩:=codeT_block hb8
        cases hb9
        obtain ⟨_,_,hb11,_,hb12⟩:=codeT_seq hb10
        cases hb11
        obtain ⟨kt,et,hkt⟩:∃ kt et,P.underlying t=some (.map kt et):=by
          split at hmap
          · exact ⟨_,_,‹_›⟩
          · cases hmap
        exact ⟨i0,ops0,i1,ops1,i2,ops2,cb,_,_,_,_,pre'.reverse,rest',t,kt,et,x'',rfl,List.reverse_eq_cons_iff.1 e0,rfl,rfl,rfl,hkt,hmp,hpre,e1,e2,rfl,rfl,rfl,rfl,rfl,rfl,rfl,rfl,rfl,n1,n2,l1,l2,l3,l4,hasg,hb12⟩
      · cases hrm
    · cases hrm
theorem codeT_exit {i:Nat} (h:codeT P oc nt cr=some (.exit i)):cr=.exit i:=by
  cases cr <;> simp only [codeT,Option.bind_eq_some_iff,Option.map_eq_some_iff,Option.ite_none_right_eq_some,Option.some.injEq,SCode.region.injEq,SCode.seq.injEq,SCode.cond.injEq,SCode.block.injEq,SCode.loop.injEq,SCode.rangef.injEq,SCode.exit.injEq,mkSeq_skip,mkSeq_region,mkSeq_cond,mkSeq_block,mkSeq_loop,mkSeq_rangef,mkSeq_exit,mkSeq_ret,mkSeq_kp,reduceCtorEq,and_false,false_and,exists_false] at h
  subst h; rfl
theorem codeT_ret (h:codeT P oc nt cr=some .ret):cr=.ret:=by
  cases cr <;> simp only [codeT,Option.bind_eq_some_iff,Option.map_eq_some_iff,Option.ite_none_right_eq_some,Option.some.injEq,SCode.region.injEq,SCode.seq.injEq,SCode.cond.injEq,SCode.block.injEq,SCode.loop.injEq,SCode.rangef.injEq,SCode.exit.injEq,mkSeq_skip,mkSeq_region,mkSeq_cond,mkSeq_block,mkSeq_loop,mkSeq_rangef,mkSeq_exit,mkSeq_ret,mkSeq_kp,reduceCtorEq,and_false,false_and,exists_false] at h
  rfl
end inv
theorem Post.more {μ:Mu} {m:Mem} {w:World} (o:Obj) (h:Sim P μ m w):Post P μ m w μ m (w.alloc o):=by
  have hold:∀ r,r < w.heap.size → (w.alloc o).heap[r]? = w.heap[r]? := fun r hr=>by
    show (w.heap.push o)[r]? = _
    rw [Array.getElem?_push,if_neg (by omega)]
  have hsz:(w.alloc o).heap.size=w.heap.size + 1:=by show (w.heap.push o).size=_; simp
  exact { sim:=⟨fun b x hb=>⟨(h.dom b x hb).1,by have:=(h.dom b x hb).2; omega⟩,fun b r base N x hb hx=>(h.blk b r base N x hb hx).sub (fun _ _ h=>h) (hold r (h.dom b _ hb).2),h.inj,h.cl⟩,
          go:=.refl m,keep:=fun _ _ h=>h,new:=fun _ _ h=>.inl h,frm:=fun r hr _=>hold r hr,os:=rfl,tape:=rfl,out:=rfl,size:=by omega,old:=fun _ _ _ _ h _=>h }
theorem MarksP.more {B:Nat} {μ:Mu} {m:Mem} {w:World} {ds:List Deferred} (hs:Sim P μ m w) (h:MarksP B w μ ds) (hB:B ≤ w.heap.size):MarksP B (w.alloc (.deferred (some []))) μ (markOf w.heap.size :: ds):=by
  have h':=h.post (P:=P) (Post.more (.deferred (some [])) hs)
  obtain ⟨rs,h1,h2,h3⟩:=h'
  obtain ⟨rs₀,h1₀,_,h3₀⟩:=h
  refine ⟨w.heap.size :: rs,by rw [h1]; rfl,List.nodup_cons.2 ⟨fun hmem=>?_,h2⟩,fun r hr=>?_⟩
  · have e:rs.map markOf=rs₀.map markOf:=h1.symm.trans h1₀
    have:markOf w.heap.size ∈ rs₀.map markOf:=e ▸ List.mem_map.2 ⟨_,hmem,rfl⟩
    obtain ⟨q,hq,he⟩:=List.mem_map.1 this
    have:q=w.heap.size:=by simpa [markOf] using he
    subst this
    have:=(Array.getElem?_eq_some_iff.1 (h3₀ _ hq).2.1).1
    omega
  · rcases List.mem_cons.1 hr with rfl | hr
    · exact ⟨hB,World.alloc_heap_new _ _,fun b x hb e=>by have:=(hs.dom b x hb).2; omega⟩
    · exact h3 r hr
theorem new_lv {m m':Mem} {x:SBk} {b:Bk} (h:m.new true x=some (b,m')):b.lv m.lvl.1 m'.lvl.2=true ∧ m.lvl.2 ≤ m'.lvl.2:=by
  simp only [Mem.new,if_true] at h
  cases hs:m.stk with
  | nil=>simp [hs] at h
  | cons f r =>
    simp only [hs,Option.some.injEq,Prod.mk.injEq] at h
    obtain ⟨rfl,rfl⟩:=h
    simp [Bk.lv,Mem.lvl,hs]
theorem sc_step {Tb:Tbl} {n:Nat} (hC:SC P Tb n) (hR:SR P Tb n) (hL:SL P Tb n) (hF:SF P Tb n) (hM:SM P Tb n) (hP:∀ n',n' < n → SP P Tb n'):SC P Tb (n + 1):=by
  intro sc fr m e fr' m' h cr oc nt hc F hw B k μ w a hs hf hnt hro hm hB
  cases sc with
  | skip =>
    simp only [runC,Option.some.injEq,Prod.mk.injEq] at h
    obtain ⟨rfl,rfl,rfl⟩:=h
    rcases codeT_skip hc with rfl | ⟨l,rfl⟩
    · exact wpIn_skip ⟨rfl,μ,.refl hs,hf,rfl,hm⟩
    · exact wpIn_label ⟨rfl,μ,.refl hs,hf,rfl,hm⟩
  | region d l =>
    simp only [runC,Option.map_eq_some_iff] at h
    obtain ⟨⟨fr₁,m₁⟩,h,e'⟩:=h
    simp only [Prod.mk.injEq] at e'
    obtain ⟨rfl,rfl,rfl⟩:=e'
    obtain ⟨id,ops,rfl,hreg⟩:=codeT_region hc
    exact hR d l fr m _ _ h oc nt ops hreg F hw id B k μ w a hs hf hnt hm
  | seq x y =>
    simp only [runC,Option.bind_eq_some_iff] at h
    obtain ⟨⟨e₁,fr₁,m₁⟩,h1,h⟩:=h
    obtain ⟨ca,cb,rfl,ha,hb⟩:=codeT_seq hc
    refine wpIn_seq (wpIn_mono (hC x fr m e₁ fr₁ m₁ h1 ca oc nt ha F hw B k μ w a hs hf hnt hro hm hB) ?_)
    intro ex a₁ w₁ hq
    obtain ⟨hex,μ₁,hp₁,hf₁,hsz₁,hm₁⟩:=hq
    subst hex
    cases e₁ with
    | normal =>
      exact wpIn_mono (hC y fr₁ m₁ e fr' m' h cb oc nt hb F hw B k μ₁ w₁ a₁ hp₁.sim hf₁ (by rw [hsz₁]; exact hnt) (hro.post hp₁) hm₁ (Nat.le_trans hB hp₁.size)) fun ex a₂ w₂ hq=>hsz₁ ▸ hq.of hs hp₁
    | exit id =>
      simp only [Option.some.injEq,Prod.mk.injEq] at h
      obtain ⟨rfl,rfl,rfl⟩:=h
      exact ⟨rfl,μ₁,hp₁,hf₁,hsz₁,hm₁⟩
    | ret =>
      simp only [Option.some.injEq,Prod.mk.injEq] at h
      obtain ⟨rfl,rfl,rfl⟩:=h
      exact ⟨rfl,μ₁,hp₁,hf₁,hsz₁,hm₁⟩
  | cond c x y =>
    simp only [runC] at h
    obtain ⟨d,ca,cb,rfl,hd,ha,hb⟩:=codeT_cond hc
    cases hv:c.ev fr with
    | bool t =>
      simp only [hv] at h
      have hr:=opdT_rel hf hd
      rw [hv] at hr
      have hev:a.eval d=.bool t:=by cases hu:a.eval d <;> rw [hu] at hr <;> cases hr <;> rfl
      refine wpIn_cond_split hev (fun ht=>?_) (fun ht=>?_)
      · subst ht
        exact hC x fr m e fr' m' h ca oc nt ha F hw B k μ w a hs hf hnt hro hm hB
      · subst ht
        exact hC y fr m e fr' m' (by simpa using h) cb oc nt hb F hw B k μ w a hs hf hnt hro hm hB
    | _=>simp [hv] at h
  | block id x =>
    simp only [runC,Option.map_eq_some_iff] at h
    obtain ⟨⟨e₁,fr₁,m₁⟩,h1,h⟩:=h
    simp only [Prod.mk.injEq] at h
    obtain ⟨rfl,rfl,rfl⟩:=h
    obtain ⟨ca,rfl,ha⟩:=codeT_block hc
    refine wpIn_block (wpIn_mono (hC x fr m e₁ _ _ h1 ca oc nt ha F hw B k μ w a hs hf hnt hro hm hB) ?_)
    intro ex a₁ w₁ hq
    obtain ⟨hex,hq⟩:=hq
    subst hex
    cases e₁ with
    | normal=>exact ⟨rfl,hq⟩
    | ret=>exact ⟨rfl,hq⟩
    | exit j =>
      show Exit.inBlock id _ (.exit j) a₁ w₁
      simp only [Exit.inBlock]
      by_cases hj:j=id
      · subst hj; simp only [if_true]; exact ⟨rfl,hq⟩
      · have:¬ SEx.exit j=SEx.exit id:=fun h=>hj (by cases h; rfl)
        simp only [hj,this,if_false]
        exact ⟨rfl,hq⟩
  | loop ks x =>
    simp only [runC] at h
    obtain ⟨ca,rfl,ha⟩:=codeT_loop hc
    exact wpIn_loop_rounds n (hL _ ks x fr m e fr' m' h ca oc nt ha F hw B k μ m w μ w a a.tmps.size hs rfl (.refl hs) hf rfl hnt hro hm hB)
  | rangef f ps x y =>
    simp only [runC,Option.bind_eq_some_iff] at h
    obtain ⟨⟨b,m₁⟩,hnew,⟨v,m₂⟩,hcall,h⟩:=h
    obtain ⟨g,qs,ca,cb,rfl,hg,hqs,hlt,ha,hb⟩:=codeT_rangef hc
    cases hfv:f.ev fr with
    | fn gf first caps =>
      simp only [hfv] at hcall
      have hr:=opdT_rel hf hg
      rw [hfv] at hr
      obtain ⟨x',y',hu,hx,hy⟩:=hr.fn_inv
      -- the record
      have record:∀ (fn:FuncId) (w₀:World) (dd:Nat),Post P μ m w μ m w₀ →
          ∃ μ₁,Post P μ m w₀ μ₁ m₁ (w₀.alloc (.loop { state:=.ready,pending:=none,fn,tmps:=a.tmps,params:=qs,assign:=ca,body:=cb,defers:=dd })) ∧ Post P μ m w μ₁ m₁ (w₀.alloc (.loop { state:=.ready,pending:=none,fn,tmps:=a.tmps,params:=qs,assign:=ca,body:=cb,defers:=dd })) ∧ μ₁ b=some (w₀.heap.size,0,0):=by
        intro fn w₀ dd hp₀
        have:=hp₀.sim.new (N:=0) (o:=.loop { state:=.ready,pending:=none,fn,tmps:=a.tmps,params:=qs,assign:=ca,body:=cb,defers:=dd }) hnew
          ⟨_,World.alloc_heap_new _ _,rfl,rfl,hqs,fun t=>(hf t).restrict _ (by rw [new_room hnew]; exact hs.lv (hf t)),oc,nt,hnt,hlt,ha,hb⟩
        exact ⟨_,this.1,hp₀.trans this.1 hs,this.2⟩
      refine wpIn_rangeFunc fun fn hfn=>?_
      obtain ⟨l,mark,w₁,μ₁,henter,hp₁,hb₁,hm₁⟩:∃ (l:Nat) (mark:List Deferred) (w₁:World) (μ₁:Mu),(Instr.enterLoop fn a.tmps qs ca cb F.round).run P w=.ok (l,mark) w₁ ∧ Post P μ m w μ₁ m₁ w₁ ∧ μ₁ b=some (l,0,0) ∧ MarksP B w₁ μ₁ (mark ++ a.defers):=by
        cases hround:F.round with
        | none =>
          have hp₀:=Post.more (.deferred (some [])) hs
          obtain ⟨μ₁,h0,h1,h2⟩:=record fn _ w.heap.size hp₀
          have hsz:(w.alloc (.deferred (some []))).heap.size=w.heap.size + 1:=by show (w.heap.push _).size=_; simp
          refine ⟨_,_,_,μ₁,run_enterLoop_outer fn a.tmps qs ca cb,h1,by rw [← hsz]; exact h2,(MarksP.more hs hm hB).post h0⟩
        | some l₀ =>
          obtain ⟨b₀,base₀,N₀,r₀,q1,q2⟩:=hro l₀ hround
          obtain ⟨L₀,hL₀,_⟩:=hs.loopOf q1 q2
          obtain ⟨μ₁,_,h1,h2⟩:=record fn w L₀.defers (.refl hs)
          exact ⟨_,_,_,μ₁,run_enterLoop_inner hL₀ fn a.tmps qs ca cb,h1,h2,by simpa using hm.post h1⟩
      have hargs:VRs μ₁ (first ++ [SV.yld b] ++ caps) (x' ++ [.func (.yield l) #[] #[]] ++ y') :=
        ((hx.sub hp₁.keep).append (.cons (.yld hb₁) .nil)).append (hy.sub hp₁.keep)
      obtain ⟨hcal,hcalls⟩:=hF gf _ m₁ v m₂ hcall F hw (k - 1) μ₁ w₁ _ hp₁.sim hargs
      refine ⟨l,mark,w₁,{ target:=.fn (.func gf) ⟨y'⟩,args:=⟨x' ++ [.func (.yield l) #[] #[]]⟩ },w₁,gf,⟨x' ++ [.func (.yield l) #[] #[]] ++ y'⟩,w₁,henter,?_,fun f' _=>hw.1 f',?_,hw.depth,?_⟩
      · simp only [resolve,Sem.run_bind,hu,Deferred.ofValue,Sem.run_pure,Result.andThen_ok,List.map_toArray,List.map_cons,List.map_nil]
        simp [Act.eval]
      · have:(⟨x' ++ [.func (.yield l) #[] #[]]⟩:Array Value) ++ (⟨y'⟩:Array Value)=⟨x' ++ [.func (.yield l) #[] #[]] ++ y'⟩:=by simp
        simp only [invoke,this]
        exact callFunc_run hcal _ w₁
      · refine hcalls.mono ?_
        intro ed w₃ hret
        obtain ⟨u,μ₂,rfl,hv₂,hp₂⟩:=hret
        cases hg₂:m₂.get b with
        | none=>simp [hg₂] at h
        | some z =>
          cases z with
          | cells rw c=>simp [hg₂] at h
          | map es=>simp [hg₂] at h
          | iter=>simp [hg₂] at h
          | loop r₂ =>
            simp only [hg₂] at h
            split at h
            · cases h
            · rename_i hnb
              simp only [Option.some.injEq,Prod.mk.injEq] at h
              obtain ⟨rfl,rfl,rfl⟩:=h
              have hb₂:=hp₂.keep b _ hb₁
              obtain ⟨L₂,hL₂,e1,e2,_⟩:=hp₂.sim.loopOf hb₂ hg₂
              have hmay:m₂.may b=true:=by
                cases hh:m₂.may b with
                | true=>rfl
                | false=>exact absurd (.inr hh) hnb
              have hturn:=LoopTurn .exhausted r₂.pending hp₂.sim hb₂ hg₂ hmay hL₂
              rw [← e2] at hturn
              have hfin:=(hp₁.trans hp₂ hs).trans hturn hs
              have hmf:=(hm₁.post hp₂).post hturn
              have hff:FrR μ₂ fr a.tmps:=(hf.sub hp₁.keep).sub hp₂.keep
              refine ⟨L₂.pending,_,run_endLoop hL₂ (by rw [e1]; exact fun hh=>hnb (.inl hh)),?_⟩
              split
              · rename_i hn
                rw [hn] at e2
                cases hpend:r₂.pending with
                | none=>rw [hpend] at hfin; exact ⟨rfl,μ₂,hfin,hff,rfl,hmf⟩
                | some j=>rw [hpend] at e2; simp at e2
              · rename_i cc hn
                rw [hn] at e2
                cases hpend:r₂.pending with
                | none=>rw [hpend] at e2; simp at e2
                | some j =>
                  rw [hpend] at hfin e2
                  simp only [Option.map_some,Option.some.injEq] at e2
                  subst e2
                  cases j with
                  | ret=>exact wpIn_ret ⟨rfl,μ₂,hfin,hff,rfl,hmf⟩
                  | exit id=>exact wpIn_exit ⟨rfl,μ₂,hfin,hff,rfl,hmf⟩
    | _=>simp [hfv] at hcall
  | exit id =>
    simp only [runC,Option.some.injEq,Prod.mk.injEq] at h
    obtain ⟨rfl,rfl,rfl⟩:=h
    obtain rfl:=codeT_exit hc
    exact wpIn_exit ⟨rfl,μ,.refl hs,hf,rfl,hm⟩
  | ret =>
    simp only [runC,Option.some.injEq,Prod.mk.injEq] at h
    obtain ⟨rfl,rfl,rfl⟩:=h
    obtain rfl:=codeT_ret hc
    exact wpIn_ret ⟨rfl,μ,.refl hs,hf,rfl,hm⟩
  | rangem mp it nx more out next pair ks pre asg body =>
    simp only [runC,Option.bind_eq_some_iff] at h
    obtain ⟨⟨fr1,m1⟩,hpre,h⟩:=h
    simp only at h
    obtain ⟨i0,ops0,i1,ops1,i2,ops2,cb,o0,o1,o2,o3,pres,rest,t,kt,et,x,rfl,hops0,d0,p0,g0,hkt,hmp,hpreT,hops1,hops2,d1,p1,g1,d2,p2,g2,d3,p3,g3,n1,n2,l1,l2,l3,l4,hasg,hcb⟩:=codeT_rangem hc
    refine wpIn_seq (wpIn_region_list ?_)
    rw [hops0]
    refine list_stepT hw n hP pre pres [o0] fr m fr1 m1 hpre hpreT μ w a hs hf hnt ?_
    intro a1 w1 μ1 hp1 hf1 hsz1 hd1
    split at h
    · rename_i j v hmv
      split at h
      · rename_i es hg
        simp only [Option.bind_eq_some_iff,Option.map_eq_some_iff] at h
        obtain ⟨⟨b,m2⟩,hnew,⟨e',fr3,m3⟩,hrun,hres⟩:=h
        simp only [Prod.mk.injEq] at hres
        obtain ⟨rfl,rfl,rfl⟩:=hres
        have hs1:=hp1.sim
        have rx:=opdT_rel hf1 hmp
        rw [hmv] at rx
        obtain ⟨mb,base,N,hmu,hev⟩:=rx.map_inv
        obtain ⟨E,clock,hh,hm',hbo⟩:=hs1.mapOf hmu hg
        simp only [wpListIn,wanted_none g0,if_true]
        refine ⟨fun f _=>hw.1 f,?_⟩
        rw [Oper.semAt_eq _ _ _ (by rw [p0]; simp)]
        have x0:(execOp a1.eval o0).run P w1=.ok (.value (.pointer (some ⟨w1.heap.size,0,none⟩))) (w1.alloc (.mapIter (some mb) clock #[] clock)):=by
          have:=run_range_map (P:=P) w1 t kt et mb E clock hkt hh
          simp [execOp,p0,hev,this]
        rw [x0]
        obtain ⟨hpn,hbn⟩:=hs1.shutH.new (N:=0) (o:=.mapIter (some mb) clock #[] clock) hnew ⟨_,_,_,_,World.alloc_heap_new _ _⟩
        obtain ⟨q1,q2⟩:=new_lv hnew
        generalize hμ2:μ1.up b (w1.heap.size,0,0)=μ2 at hpn hbn
        have hsz1':a1.tmps.size=a.tmps.size:=hsz1
        have hblk:(Code.block out (.loop (rmBody i1 ops1 more out next i2 ops2 cb))).wpIn F k P (QC P B μ1 m1.shutH w1 a.tmps.size e' fr3 m3) (a1.put o0.dst (.pointer (some ⟨w1.heap.size,0,none⟩))) (w1.alloc (.mapIter (some mb) clock #[] clock)):=by
          refine wpIn_block (wpIn_loop_rounds n (hM b m2.lvl.2 it nx more out next pair ks asg body es _ m2 e' fr3 m3 hrun oc nt i1 i2 ops1 ops2 cb o1 o2 o3 rest hops1 hops2 d1 p1 g1 d2 p2 g2 d3 p3 g3 n1 n2 l1 l2 l3 l4 hasg hcb F hw B k μ1 m1.shutH w1 μ2 _ _ a.tmps.size w1.heap.size mb E clock clock clock #[] hs1.shutH q2 q1 hpn ?_ ?_ hnt ?_ ?_ (Nat.le_trans hB hp1.size) hbn (World.alloc_heap_new _ _) (Nat.le_refl _) (Nat.le_refl _) (Nat.le_refl _) hh ?_ hbo.1 hbo.2 ?_))
          · rw [d0]
            exact FrR.put (d:=some it) (hf1.sub hpn.keep) (by simpa using VR.ptr (off:=0) hbn) (fun t' ht=>by cases ht; omega)
          · rw [put_size]; exact hsz1
          · intro l hl
            obtain ⟨b',base',N',r',z1,z2⟩:=hro.post hp1 l hl
            exact ⟨b',base',N',r',z1,by rw [shutH_get]; exact z2⟩
          · rw [put_defers,hd1]; exact (hm.post hp1).post hpn
          · rintro c y hc hy ⟨z,hz,hro',hmay⟩
            rw [shutH_get] at hz
            by_cases e:c=.hp j v
            · subst e; rw [shutH_may (Mem.get_has hg)] at hmay; cases hmay
            · have:=(hs1.inj c (.hp j v) y _ z _ hc hmu hy hz hg e).2
              simp [SBk.ro] at this
          · have hall:(leftOf E #[]).toList=E.toList:=by
              unfold leftOf; rw [Array.toList_filter]; refine List.filter_eq_self.2 fun x _=>?_; simp
            rw [hall]
            refine hm'.sub fun c z hc=>?_
            obtain ⟨z1,z2⟩:=Mu.on_some.1 hc
            exact Mu.on_some.2 ⟨z1,hpn.keep c z z2⟩
        refine wpIn_mono hblk ?_
        intro ex a3 w3 hq
        obtain ⟨hex,μ3,hp3,hf3,hsz3,hm3⟩:=hq
        exact ⟨hex,μ3,hp1.trans hp3.reopenH hs,hf3,hsz3,hm3⟩
      · cases h
    · cases h
  | kp ks x =>
    simp only [runC,Option.map_eq_some_iff] at h
    obtain ⟨⟨e₁,fr₁,m₁⟩,h1,h⟩:=h
    simp only [Prod.mk.injEq] at h
    obtain ⟨rfl,rfl,rfl⟩:=h
    refine wpIn_mono (hC x fr m e₁ fr₁ _ h1 cr oc nt hc F hw B k μ w a hs hf hnt hro hm hB) ?_
    intro ex a₁ w₁ hq
    obtain ⟨hex,μ₁,hp₁,hf₁,hq⟩:=hq
    refine ⟨hex,μ₁,hp₁,?_,hq⟩
    split
    · exact hf₁.keep ks
    · exact hf₁
end Go.Sh

import Derived.Test.YtepecbjlfekkaaaShMap
set_option linter.all false
set_option linter.unusedVariables false
set_option linter.unusedSimpArgs false
set_option autoImplicit false
namespace Go.Sh
variable {P:Program}
theorem base_spec {so t:SOp} (h:so.base=t):(∀ z,t=.alloc false z → ∃ st,so=.alloc st z) ∧ (∀ n x,t=.box false n x → ∃ st,so=.box st n x) ∧ (∀ e b z x y,t=.append e b z [] x y → ∃ l,so=.append e b z l x y) ∧
    (∀ n a x,t=.store n [] a x → ∃ l,so=.store n l a x):=by
  subst h
  refine ⟨fun z e=>?_,fun n x e=>?_,fun e' b z x y e=>?_,fun n a x e=>?_⟩ <;> cases so <;> simp [SOp.base] at e ⊢ <;> (try simp_all)
theorem newVar_run (t:TypeId) (v:Value) (w:World):(newVar t v).run P w=.ok ⟨w.heap.size,0,none⟩ (w.alloc (.cells v.cells t)):=by
  simp only [newVar,newRow,Sem.run_bind,run_newObj,Result.andThen_ok,Sem.run_pure]; rfl
theorem mo_alloc {dst ty pos after guard} {e:TypeId} {so:SOp} {fr:Fr} {m m':Mem} {v:SV} (hT:opT P (.alloc e)=some so.base) (h:memop so fr m=some (v,m')):MemOk P ⟨dst,.alloc e,ty,pos,after,guard⟩ fr m v m':=by
  intro μ w ρ hr hs
  simp only [opT,Option.map_eq_some_iff] at hT
  obtain ⟨z,hz,hT⟩:=hT
  obtain ⟨st,rfl⟩:=(base_spec hT.symm).1 _ rfl
  simp only [memop] at h
  split at h
  · rename_i hc
    simp only [Option.map_eq_some_iff,Prod.mk.injEq] at h
    obtain ⟨⟨b,m2⟩,hn,rfl,rfl⟩:=h
    obtain ⟨zv,hzr,hzv⟩:=r_zero hz w
    have hcs:=(hzv μ).cells (zeroT_known hz)
    obtain ⟨hp,hb⟩:=hs.newCells e hn hcs (new_alls0 (m:=m) (m':=m2) (st:=st) (x:=.cells true z.cells) hc)
    refine ⟨.pointer (some ⟨w.heap.size,0,none⟩),_,_,.inl ?_,?_,hp⟩
    · simp only [execOp,Instr.alloc,Sem.run_bind,hzr,Result.andThen_ok,newVar_run]
      simp
    · have:=VR.ptr (off:=0) hb
      simpa using this
  · cases h
theorem mo_box {dst ty pos after guard} {e:TypeId} {x:Operand} {so:SOp} {fr:Fr} {m m':Mem} {v:SV} (hT:opT P (.box e x)=some so.base) (h:memop so fr m=some (v,m')):MemOk P ⟨dst,.box e x,ty,pos,after,guard⟩ fr m v m':=by
  intro μ w ρ hr hs
  simp only [opT,Option.bind_eq_some_iff,Option.map_eq_some_iff] at hT
  obtain ⟨y,hy,n,hn,hT⟩:=hT
  obtain ⟨st,rfl⟩:=(base_spec hT.symm).2.1 _ _ rfl
  have rx:=hr x y (by simp [Op.operands]) hy
  simp only [memop] at h
  by_cases hc:(y.ev fr).cells.length=n ∧ (if st then SV.cellsOk m.lvl.1 m.lvl.2 (y.ev fr).cells else SV.cellsOk 0 0 (y.ev fr).cells)=true
  · rw [if_pos hc] at h
    obtain ⟨hlen,hc⟩:=hc
    simp only [Option.map_eq_some_iff,Prod.mk.injEq] at h
    obtain ⟨⟨b,m2⟩,hnew,rfl,rfl⟩:=h
    have hkn:y.ev fr ≠ .unk:=by
      cases st with
      | true=>simp at hc; exact known_of_cells hc
      | false=>simp at hc; exact known_of_cells hc
    have hcs:=rx.cells hkn
    obtain ⟨hp,hb⟩:=hs.newCells e hnew hcs (new_alls hnew (by cases st <;> simpa using hc))
    refine ⟨.pointer (some ⟨w.heap.size,0,none⟩),_,_,.inl ?_,?_,hp⟩
    · simp only [execOp,Instr.box,Sem.run_bind,newVar_run,Result.andThen_ok]
      simp
    · have:=VR.ptr (off:=0) hb
      simpa using this
  · rw [if_neg hc] at h; cases h
theorem VRs.flat {μ:Mu} {z:List SV} {x:List Value} (h:VRs μ z x):∀ n,VRs μ (List.replicate n z).flatten (List.replicate n x).flatten
  | 0=>.nil
  | n + 1=>by simp [List.replicate_succ]; exact h.append (h.flat n)
theorem range_flat (x:Array Value) (h:0 < x.size) (n:Nat):((Array.range (n * x.size)).map fun i=>x[i % x.size]!)=⟨(List.replicate n x.toList).flatten⟩:=by
  apply Array.toList_inj.1
  induction n with
  | zero=>simp
  | succ n ih =>
    simp only [Array.toList_map,Array.toList_range] at ih ⊢
    rw [Nat.succ_mul,List.range_add,List.map_append,ih,List.replicate_succ',List.flatten_append]
    congr 1
    simp only [List.map_map,List.flatten_cons,List.flatten_nil,List.append_nil]
    apply List.ext_getElem?
    intro i
    simp only [List.getElem?_map,Array.getElem?_toList]
    by_cases hi:i < x.size
    · rw [List.getElem?_range hi]
      have:(n * x.size + i) % x.size=i:=by rw [Nat.mul_comm,Nat.mul_add_mod,Nat.mod_eq_of_lt hi]
      simp [this,hi]
    · simp [hi]
theorem mo_bslice {dst ty pos after guard} {t:TypeId} {n:Nat} {ps:Array (Nat × Operand)} {so:SOp} {fr:Fr} {m m':Mem} {v:SV} (hT:opT P (.buildSlice t n ps)=some so.base) (h:memop so fr m=some (v,m')) :
    MemOk P ⟨dst,.buildSlice t n ps,ty,pos,after,guard⟩ fr m v m':=by
  intro μ w ρ hr hs
  simp only [opT] at hT
  split at hT
  · rename_i e hu
    simp only [Option.bind_eq_some_iff] at hT
    obtain ⟨s,hsz,z,hz,qs,hq,hT⟩:=hT
    split at hT
    · rename_i hc
      obtain ⟨hsl,hpos,hle⟩:=hc
      simp only [Option.some.injEq] at hT
      obtain rfl:=base_eq hT.symm rfl
      simp only [memop,Option.bind_eq_some_iff] at h
      obtain ⟨c,hf,h⟩:=h
      split at h
      · rename_i hok
        simp only [Option.map_eq_some_iff,Prod.mk.injEq] at h
        obtain ⟨⟨b,m2⟩,hnew,rfl,rfl⟩:=h
        obtain ⟨zv,hzr,hzv⟩:=r_zero hz w
        have hcs:=(hzv μ).cells (zeroT_known hz)
        have hzl:zv.cells.size=s:=by rw [hsl,hcs.length]; simp
        obtain ⟨q,hq1,hq2⟩:=fillv_run hq hf (hcs.flat n) fun a y ha=>hr a y (by simpa [Op.operands] using ha)
        have hlen:q.length=n * s:=by
          rw [← hq2.length]
          have fl:∀ (ps:List (Nat × Nat × SV)) (cs out:List SV),fillv cs ps=some out → out.length=cs.length:=by
            intro ps
            induction ps with
            | nil=>intro cs out h; simp [fillv] at h; rw [h]
            | cons p ps ih =>
              intro cs out h
              obtain ⟨o,s,v⟩:=p
              simp only [fillv] at h
              split at h
              · rename_i hc; rw [ih _ _ h]; simp; omega
              · cases h
          rw [fl _ _ _ hf]
          simp [← hsl]
        obtain ⟨hp,hb⟩:=hs.newCells e hnew hq2 (new_alls0 (m:=m) (m':=m2) (st:=false) (x:=.cells true c) hok)
        refine ⟨.slice (some ⟨w.heap.size,0,none⟩) n n,_,_,.inl ?_,?_,hp⟩
        · have h1:¬ (n * s > 2 ^ 24):=by omega
          have h2:((Array.range (n * s)).map fun i=>zv.cells[i % zv.cells.size]!)=⟨(List.replicate n zv.cells.toList).flatten⟩:=by rw [← hzl]; exact range_flat _ (by omega) n
          have h3:(ps.map fun (x:Nat × Operand)=>(x.1,ρ x.2)).toList=ps.toList.map fun (i,a)=>(i,ρ a):=by simp
          have run:(Instr.buildSlice t n (ps.map fun (x:Nat × Operand)=>(x.1,ρ x.2))).run P w=.ok (.slice (some ⟨w.heap.size,0,none⟩) n n) (w.alloc (.cells ⟨q⟩ e)):=by
            simp only [Instr.buildSlice,Sem.run_bind,r_und hu,Result.andThen_ok,r_sz hsz]
            rw [if_neg h1]
            by_cases h0:n * s=0
            · have hn0:n=0:=by rcases Nat.mul_eq_zero.1 h0 with h | h <;> omega
              subst hn0
              have hq1':Instr.fill (fun i=>some (i * s,s)) #[] (ps.toList.map fun (i,a)=>(i,ρ a))=some ⟨q⟩:=by simpa using hq1
              have hrg:((Array.range (0 * s)).map fun i=>(#[]:Array Value)[i % (#[]:Array Value).size]!)=#[]:=by simp
              rw [if_pos h0]
              simp only [Sem.run_pure,Result.andThen_ok,h3,hrg,hq1',Sem.run_bind,newRow,run_newObj]
              rfl
            · rw [if_neg h0]
              simp only [Sem.run_bind,hzr,Sem.run_pure,Result.andThen_ok,h3,h2,hq1,newRow,run_newObj]
              rfl
          simp only [execOp,Sem.run_bind,run,Result.andThen_ok,Sem.run_pure]
        · have:=VR.sl (off:=0) (len:=n) (c:=n) (z:=s) (cap:=some n) hb (Nat.le_refl _) (fun k hk=>by simpa using hk) (by rw [hlen]; omega)
          simpa using this
      · cases h
    · cases hT
  · cases hT
theorem mo_load {dst ty pos after guard} {t:TypeId} {x:Operand} {so:SOp} {fr:Fr} {m m':Mem} {v:SV} (hT:opT P (.load t x)=some so.base) (h:memop so fr m=some (v,m')):MemOk P ⟨dst,.load t x,ty,pos,after,guard⟩ fr m v m':=by
  intro μ w ρ hr hs
  simp only [opT,Option.bind_eq_some_iff,Option.map_eq_some_iff] at hT
  obtain ⟨y,hy,n,hn,hT⟩:=hT
  obtain rfl:=base_eq hT.symm rfl
  have rx:=hr x y (by simp [Op.operands]) hy
  simp only [memop] at h
  split at h
  · rename_i b off e
    rw [e] at rx
    simp only [Option.map_eq_some_iff,Prod.mk.injEq] at h
    obtain ⟨z,hz,rfl,rfl⟩:=h
    obtain ⟨r,base,N,hmu,hk⟩:=rx.ptr_inv
    obtain ⟨u,hu,hur⟩:=hs.load hmu hz hn
    exact ⟨u,w,μ,.inl (by simp [execOp,Instr.loadAt,hk,Instr.sureAddr,hu]),hur,.refl hs⟩
  · cases h
theorem mo_store {dst ty pos after guard} {t:TypeId} {a x:Operand} {so:SOp} {fr:Fr} {m m':Mem} {v:SV} (hT:opT P (.store t a x)=some so.base) (h:memop so fr m=some (v,m')):MemOk P ⟨dst,.store t a x,ty,pos,after,guard⟩ fr m v m':=by
  intro μ w ρ hr hs
  simp only [opT,Option.bind_eq_some_iff,Option.map_eq_some_iff] at hT
  obtain ⟨a',ha,x',hx,n,hn,hT⟩:=hT
  obtain ⟨l,rfl⟩:=(base_spec hT.symm).2.2.2 _ _ _ rfl
  have ra:=hr a a' (by simp [Op.operands]) ha
  have rx:=hr x x' (by simp [Op.operands]) hx
  simp only [memop] at h
  split at h
  · rename_i b off e
    rw [e] at ra
    split at h
    · rename_i hc
      simp only [Option.map_eq_some_iff,Prod.mk.injEq] at h
      obtain ⟨m2,hst,rfl,rfl⟩:=h
      obtain ⟨r,base,N,hmu,hk⟩:=ra.ptr_inv
      have hkn:x'.ev fr ≠ .unk:=by
        unfold Mem.store at hst
        split at hst
        · rename_i hh; exact known_of_cells hh.2
        · cases hst
      have hcs:=rx.cells hkn
      obtain ⟨w',hrun,hp⟩:=hs.store hmu hst hcs
      refine ⟨undef,w',μ,.inr ⟨?_,rfl⟩,.tup .nil,hp⟩
      have h1:(ρ x).cells.size=n:=by have:=hcs.length; simp at this; omega
      have h2:¬ ((ρ x).cells.size ≠ n):=by simp [h1]
      simp only [execOp,Instr.storeAt,storeVar,Sem.run_bind,hk,Instr.sureAddr,Sem.run_pure,Result.andThen_ok,r_sz hn]
      rw [if_neg h2]
      simp [hrun]
    · cases h
  · cases h
theorem elems_len {m:Mem} {esz n:Nat} {x:SV} {c:List SV} (h:m.elems esz n x=some c) (hn:lenv x=some n):c.length=n * esz:=by
  unfold Mem.elems at h
  split at h
  · cases h; simp [lenv] at hn; subst hn; simp
  · split at h
    · split at h
      · rename_i hle; cases h; simp; omega
      · cases h
    · cases h
  · split at h
    · rename_i hc; cases h; simp [lenv] at hn; subst hn; simp [hc.1];
    · cases h
  · cases h; simp [lenv] at hn; subst hn; simp
  · cases h
theorem elems_run {μ:Mu} {m:Mem} {w:World} (hs:Sim P μ m w) {esz n:Nat} {x:SV} {u:Value} {c:List SV} (h:m.elems esz n x=some c) (hr:VR μ x u) (hn:(lenv x).all (n ≤ ·)=true) :
    ∃ y,(∀ dr,(Builtin.firstCells esz n u).run P ({ w with drawn:=dr }:World)=.ok ⟨y⟩ ({ w with drawn:=dr }:World)) ∧ VRs μ c y:=by
  unfold Mem.elems at h
  split at h
  · simp at h; subst h; rw [hr.nils_inv]; exact ⟨[],fun _=>by simp [Builtin.firstCells],.nil⟩
  · rename_i b off len cap z
    cases hg:m.get b with
    | none=>simp [hg] at h
    | some y =>
      rw [hg] at h
      cases y with
      | map es=>simp at h
      | loop l=>simp at h
      | iter=>simp at h
      | cells rw c' =>
        simp only at h
        split at h
        · rename_i hle
          cases h
          obtain ⟨r,base,N,hmu,⟨k,rfl,hk1,hk2,hk3⟩ | ⟨a,rfl,h0,_⟩⟩:=hr.sl_inv
          · obtain ⟨C,e,lo,hi,hh,hN,hbl,hvr,_⟩:=hs.row hmu hg
            refine ⟨(C.toList.drop (base + off)).take (n * esz),?_,?_⟩
            · intro dr; simp only [Builtin.firstCells]; exact run_loadCells' P (w:={ w with drawn:=dr }) hh (by omega)
            · rw [← take_drop_take C.toList base c'.length off (n * esz) hle]
              exact (hvr.off.drop off).take _
          · subst h0
            have:n=0:=by simpa [lenv] using hn
            subst this
            refine ⟨[],?_,?_⟩
            · intro dr; simp [Builtin.firstCells,loadCells,loadCellsFrom]
            · simp; exact .nil
        · cases h
  · rename_i s
    split at h
    case isFalse=>cases h
    simp only [Option.some.injEq] at h
    subst h
    rw [hr.str_inv]
    refine ⟨(s.data.toList.take n).map fun b=>.int .u8 b.toNat,?_,?_⟩
    · have:((s.extract 0 n).data.map fun b=>Value.int .u8 b.toNat)=⟨(s.data.toList.take n).map fun b=>.int .u8 b.toNat⟩:=by
        apply Array.toList_inj.1
        rw [ByteArray.data_extract]
        simp [List.extract_eq_take_drop]
      intro dr; simp only [Builtin.firstCells,Sem.run_pure]; rw [this]
    · generalize s.data.toList.take n=l
      induction l with
      | nil=>exact .nil
      | cons a l ih=>exact .cons (.int _ _) ih
  · simp at h; subst h
    obtain ⟨a,rfl⟩:=hr.emp_inv
    have:n=0:=by simpa [lenv] using hn
    subst this
    exact ⟨[],fun dr=>by simp [Builtin.firstCells,loadCells,loadCellsFrom],.nil⟩
  · cases h
end Go.Sh

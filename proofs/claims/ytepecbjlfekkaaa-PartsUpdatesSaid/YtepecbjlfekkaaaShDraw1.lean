import Derived.Test.YtepecbjlfekkaaaShRun4
set_option linter.all false
set_option linter.unusedVariables false
set_option linter.unusedSimpArgs false
set_option autoImplicit false
namespace Go.Sh
variable {P:Program}
def AllocOk (P:Program) (o:Oper) (fr:Fr) (m:Mem) (v:SV) (m':Mem):Prop :=
  ∃ st b y,m.new st y=some (b,m') ∧ ∀ μ w ρ,OpsR μ fr ρ o.op → ∃ obj u N,(execOp ρ o).run P w=.ok (.value u) (w.alloc obj) ∧ BR P (μ.on (Bk.lv b.room.1 b.room.2)) (w.alloc obj) w.heap.size 0 N y ∧
    ∀ μ':Mu,μ' b=some (w.heap.size,0,N) → VR μ' v u
theorem cellsBR {μ:Mu} {w:World} {c:List SV} {x:List Value} {b:Bk} (e:TypeId) (hx:VRs μ c x) (hc:SV.alls (Bk.lv b.room.1 b.room.2) c=true) :
    BR P (μ.on (Bk.lv b.room.1 b.room.2)) (w.alloc (.cells ⟨x⟩ e)) w.heap.size 0 x.length (.cells true c):=by
  refine ⟨⟨x⟩,e,0,0,?_,rfl,by rw [hx.length]; omega,?_,fun _=>.inl rfl⟩
  · show (w.heap.push _)[w.heap.size]? = _; simp
  · have:(x.drop 0).take c.length=x:=by rw [hx.length]; simp
    show VRs _ c ((x.drop 0).take c.length)
    rw [this]
    exact hx.restrict _ hc
theorem al_alloc {dst ty pos after guard} {e:TypeId} {so:SOp} {fr:Fr} {m m':Mem} {v:SV} (hT:opT P (.alloc e)=some so.base) (h:memop so fr m=some (v,m')):AllocOk P ⟨dst,.alloc e,ty,pos,after,guard⟩ fr m v m':=by
  simp only [opT,Option.map_eq_some_iff] at hT
  obtain ⟨z,hz,hT⟩:=hT
  obtain ⟨st,rfl⟩:=(base_spec hT.symm).1 _ rfl
  simp only [memop] at h
  split at h
  · rename_i hc
    simp only [Option.map_eq_some_iff,Prod.mk.injEq] at h
    obtain ⟨⟨b,m2⟩,hn,rfl,rfl⟩:=h
    refine ⟨st,b,_,hn,fun μ w ρ hr=>?_⟩
    obtain ⟨zv,hzr,hzv⟩:=r_zero hz w
    have hcs:=(hzv μ).cells (zeroT_known hz)
    refine ⟨.cells zv.cells e,.pointer (some ⟨w.heap.size,0,none⟩),_,?_,cellsBR e hcs (new_alls0 (m:=m) (m':=m2) (st:=st) (x:=.cells true z.cells) hc),fun μ' hb=>?_⟩
    · simp only [execOp,Instr.alloc,Sem.run_bind,hzr,Result.andThen_ok,newVar_run]
      simp
    · have:=VR.ptr (off:=0) hb
      simpa using this
  · cases h
theorem al_box {dst ty pos after guard} {e:TypeId} {x:Operand} {so:SOp} {fr:Fr} {m m':Mem} {v:SV} (hT:opT P (.box e x)=some so.base) (h:memop so fr m=some (v,m')):AllocOk P ⟨dst,.box e x,ty,pos,after,guard⟩ fr m v m':=by
  simp only [opT,Option.bind_eq_some_iff,Option.map_eq_some_iff] at hT
  obtain ⟨y,hy,n,hn,hT⟩:=hT
  obtain ⟨st,rfl⟩:=(base_spec hT.symm).2.1 _ _ rfl
  simp only [memop] at h
  by_cases hc:(y.ev fr).cells.length=n ∧ (if st then SV.cellsOk m.lvl.1 m.lvl.2 (y.ev fr).cells else SV.cellsOk 0 0 (y.ev fr).cells)=true
  · rw [if_pos hc] at h
    obtain ⟨hlen,hc⟩:=hc
    simp only [Option.map_eq_some_iff,Prod.mk.injEq] at h
    obtain ⟨⟨b,m2⟩,hnew,rfl,rfl⟩:=h
    have hkn:y.ev fr ≠ .unk:=by
      cases st with
      | true=>simp at hc; exact known_of_cells hc
      | false=>simp at hc; exact known_of_cells hc
    refine ⟨st,b,_,hnew,fun μ w ρ hr=>?_⟩
    have rx:=hr x y (by simp [Op.operands]) hy
    have hcs:=rx.cells hkn
    refine ⟨.cells (ρ x).cells e,.pointer (some ⟨w.heap.size,0,none⟩),_,?_,cellsBR e hcs (new_alls hnew (by cases st <;> simpa using hc)),fun μ' hb=>?_⟩
    · simp only [execOp,Instr.box,Sem.run_bind,newVar_run,Result.andThen_ok]
      simp
    · have:=VR.ptr (off:=0) hb
      simpa using this
  · rw [if_neg hc] at h; cases h
theorem al_bslice {dst ty pos after guard} {t:TypeId} {n:Nat} {ps:Array (Nat × Operand)} {so:SOp} {fr:Fr} {m m':Mem} {v:SV} (hT:opT P (.buildSlice t n ps)=some so.base) (h:memop so fr m=some (v,m')) :
    AllocOk P ⟨dst,.buildSlice t n ps,ty,pos,after,guard⟩ fr m v m':=by
  simp only [opT] at hT
  split at hT
  · rename_i e hu
    simp only [Option.bind_eq_some_iff] at hT
    obtain ⟨s,hsz,z,hz,qs,hq,hT⟩:=hT
    split at hT
    · rename_i hc
      obtain ⟨hsl,hpos,hle⟩:=hc
      simp only [Option.some.injEq] at hT
      obtain rfl:=base_eq hT.symm rfl
      simp only [memop,Option.bind_eq_some_iff] at h
      obtain ⟨c,hf,h⟩:=h
      split at h
      · rename_i hok
        simp only [Option.map_eq_some_iff,Prod.mk.injEq] at h
        obtain ⟨⟨b,m2⟩,hnew,rfl,rfl⟩:=h
        refine ⟨false,b,_,hnew,fun μ w ρ hr=>?_⟩
        obtain ⟨zv,hzr,hzv⟩:=r_zero hz w
        have hcs:=(hzv μ).cells (zeroT_known hz)
        have hzl:zv.cells.size=s:=by rw [hsl,hcs.length]; simp
        obtain ⟨q,hq1,hq2⟩:=fillv_run hq hf (hcs.flat n) fun a y ha=>hr a y (by simpa [Op.operands] using ha)
        have hlen:q.length=n * s:=by
          rw [← hq2.length]
          have fl:∀ (ps:List (Nat × Nat × SV)) (cs out:List SV),fillv cs ps=some out → out.length=cs.length:=by
            intro ps
            induction ps with
            | nil=>intro cs out h; simp [fillv] at h; rw [h]
            | cons p ps ih =>
              intro cs out h
              obtain ⟨o,s,v⟩:=p
              simp only [fillv] at h
              split at h
              · rename_i hc; rw [ih _ _ h]; simp; omega
              · cases h
          rw [fl _ _ _ hf]
          simp [← hsl]
        refine ⟨.cells ⟨q⟩ e,.slice (some ⟨w.heap.size,0,none⟩) n n,_,?_,cellsBR e hq2 (new_alls0 (m:=m) (m':=m2) (st:=false) (x:=.cells true c) hok),fun μ' hb=>?_⟩
        · have h1:¬ (n * s > 2 ^ 24):=by omega
          have h2:((Array.range (n * s)).map fun i=>zv.cells[i % zv.cells.size]!)=⟨(List.replicate n zv.cells.toList).flatten⟩:=by rw [← hzl]; exact range_flat _ (by omega) n
          have h3:(ps.map fun (x:Nat × Operand)=>(x.1,ρ x.2)).toList=ps.toList.map fun (i,a)=>(i,ρ a):=by simp
          have run:(Instr.buildSlice t n (ps.map fun (x:Nat × Operand)=>(x.1,ρ x.2))).run P w=.ok (.slice (some ⟨w.heap.size,0,none⟩) n n) (w.alloc (.cells ⟨q⟩ e)):=by
            simp only [Instr.buildSlice,Sem.run_bind,r_und hu,Result.andThen_ok,r_sz hsz]
            rw [if_neg h1]
            by_cases h0:n * s=0
            · have hn0:n=0:=by rcases Nat.mul_eq_zero.1 h0 with h | h <;> omega
              subst hn0
              have hq1':Instr.fill (fun i=>some (i * s,s)) #[] (ps.toList.map fun (i,a)=>(i,ρ a))=some ⟨q⟩:=by simpa using hq1
              have hrg:((Array.range (0 * s)).map fun i=>(#[]:Array Value)[i % (#[]:Array Value).size]!)=#[]:=by simp
              rw [if_pos h0]
              simp only [Sem.run_pure,Result.andThen_ok,h3,hrg,hq1',Sem.run_bind,newRow,run_newObj]
              rfl
            · rw [if_neg h0]
              simp only [Sem.run_bind,hzr,Sem.run_pure,Result.andThen_ok,h3,h2,hq1,newRow,run_newObj]
              rfl
          simp only [execOp,Sem.run_bind,run,Result.andThen_ok,Sem.run_pure]
        · have:=VR.sl (off:=0) (len:=n) (c:=n) (z:=s) (cap:=some n) hb (Nat.le_refl _) (fun k hk=>by simpa using hk) (by rw [hlen]; omega)
          simpa using this
      · cases h
    · cases hT
  · cases hT
theorem al_mkmap {dst ty pos after guard} {t:TypeId} {r:Option Operand} {so:SOp} {fr:Fr} {m m':Mem} {v:SV} (hT:opT P (.makeMap t r)=some so.base) (h:memop so fr m=some (v,m')):AllocOk P ⟨dst,.makeMap t r,ty,pos,after,guard⟩ fr m v m':=by
  cases r with
  | some r=>simp [opT] at hT
  | none =>
    simp only [opT,Option.some.injEq] at hT
    obtain rfl:=base_eq hT.symm rfl
    simp only [memop,Option.map_eq_some_iff,Prod.mk.injEq] at h
    obtain ⟨⟨b,m2⟩,hnew,rfl,rfl⟩:=h
    refine ⟨false,b,_,hnew,fun μ w ρ hr=>⟨.map #[] 0,.map (some w.heap.size),0,?_,⟨#[],0,by show (w.heap.push _)[w.heap.size]? = _; simp,trivial,fun x hx=>by simp at hx,by simp⟩,fun μ' hb=>.map hb⟩⟩
    simp only [execOp,Instr.makeMap,Option.map_none,Sem.run_bind,run_newObj,Sem.run_pure,Result.andThen_ok]
    rfl
theorem al_mkslice {dst ty pos after guard} {t:TypeId} {l c:Operand} {so:SOp} {fr:Fr} {m m':Mem} {v:SV} (hT:opT P (.makeSlice t l c)=some so.base) (h:memop so fr m=some (v,m')):AllocOk P ⟨dst,.makeSlice t l c,ty,pos,after,guard⟩ fr m v m':=by
  simp only [opT] at hT
  split at hT
  · rename_i e hu
    simp only [Option.bind_eq_some_iff] at hT
    obtain ⟨l',hl,c',hc,by_,hby,z,hz,hT⟩:=hT
    split at hT
    · rename_i hsz
      obtain ⟨hsz,hpos⟩:=hsz
      simp only [Option.some.injEq] at hT
      obtain rfl:=base_eq hT.symm rfl
      simp only [memop] at h
      split at h
      · rename_i i k e1 e2
        split at h
        · rename_i hcond
          obtain ⟨h0,h1,h2,h3,hok⟩:=hcond
          simp only [Option.map_eq_some_iff,Prod.mk.injEq] at h
          obtain ⟨⟨b,m2⟩,hnew,rfl,rfl⟩:=h
          refine ⟨false,b,_,hnew,fun μ w ρ hr=>?_⟩
          have rl:=hr l l' (by simp [Op.operands]) hl
          have rc:=hr c c' (by simp [Op.operands]) hc
          rw [e1] at rl; rw [e2] at rc
          obtain ⟨zv,hzr,hzv⟩:=r_zero hz w
          obtain ⟨inf,hinf,hinfb⟩:=r_by hby w
          have hcs:=(hzv μ).cells (zeroT_known hz)
          have hzl:zv.cells.size=z.cells.length:=by rw [hcs.length]; simp
          have hfl:=hcs.flat k.toNat
          have hall:SV.alls (Bk.lv b.room.1 b.room.2) (List.replicate k.toNat z.cells).flatten=true:=by
            have h1:SV.alls (Bk.lv b.room.1 b.room.2) z.cells=true:=new_alls0 (m:=m) (m':=m2) (st:=false) (x:=.cells true z.cells) hok
            have hsplit:∀ (a b':List SV),SV.alls (Bk.lv b.room.1 b.room.2) (a ++ b')=(SV.alls (Bk.lv b.room.1 b.room.2) a && SV.alls (Bk.lv b.room.1 b.room.2) b'):=by
              intro a b'; induction a with
              | nil=>simp [SV.alls]
              | cons x a ih=>simp [SV.alls,ih,Bool.and_assoc]
            generalize k.toNat=n
            induction n with
            | zero=>rfl
            | succ n ih=>simp [List.replicate_succ,hsplit,h1,ih]
          have hlen:(List.replicate k.toNat zv.cells.toList).flatten.length=k.toNat * z.cells.length:=by rw [← hfl.length]; simp
          refine ⟨.cells ⟨(List.replicate k.toNat zv.cells.toList).flatten⟩ e,.slice (some ⟨w.heap.size,0,none⟩) i.toNat k.toNat,_,?_,cellsBR e hfl hall,fun μ' hb=>?_⟩
          · have hwi:IntKind.i64.wrap i=i:=wrap_in (by omega) (by omega)
            have hwk:IntKind.i64.wrap k=k:=wrap_in (by omega) (by omega)
            have hb3:¬ ((by_:Int) * k > 2 ^ 48):=by simp only [two48] at h3; omega
            have n1:¬ k < 0:=by omega
            have n2:¬ i < 0:=by omega
            have n3:¬ i > k:=by omega
            have hrow:((Array.range (k.toNat * z.cells.length)).map fun j=>zv.cells[j % zv.cells.size]!)=⟨(List.replicate k.toNat zv.cells.toList).flatten⟩:=by rw [← hzl]; exact range_flat _ (by omega) _
            have run:(Instr.makeSlice t (.int .i64 i) (.int .i64 k)).run P w=.ok (.slice (some ⟨w.heap.size,0,none⟩) i.toNat k.toNat) (w.alloc (.cells ⟨(List.replicate k.toNat zv.cells.toList).flatten⟩ e)):=by
              simp only [Instr.makeSlice,Sem.run_bind,r_und hu,Result.andThen_ok,asInt,asIntOf,Sem.run_pure,hinf,hinfb,hwi,hwk]
              rw [if_neg (by simp [n1,n2,n3]; omega)]
              simp only [Sem.run_bind,run_askRoom,Result.andThen_ok,r_sz hsz]
              by_cases hz0:k.toNat * z.cells.length=0
              · have hk0:k.toNat=0:=by rcases Nat.mul_eq_zero.1 hz0 with h | h <;> omega
                rw [if_pos hz0]
                have hrg:((Array.range (0 * z.cells.length)).map fun j=>(#[]:Array Value)[j % (#[]:Array Value).size]!)=⟨(List.replicate 0 zv.cells.toList).flatten⟩:=by simp
                simp only [Sem.run_pure,Result.andThen_ok,newRow,Sem.run_bind,run_newObj,hz0,hk0,hrg]
                rfl
              · rw [if_neg hz0]
                simp only [Sem.run_bind,hzr,Sem.run_pure,Result.andThen_ok,newRow,run_newObj,hrow]
                rfl
            simp only [execOp,rl.int_inv,rc.int_inv,Sem.run_bind,run,Result.andThen_ok,Sem.run_pure]
          · have:=VR.sl (off:=0) (len:=i.toNat) (c:=k.toNat) (z:=z.cells.length) (cap:=some k.toNat) hb (by omega) (fun j hj=>by simpa using hj) (by rw [hlen]; omega)
            simpa using this
        · cases h
      · cases h
    · cases hT
  · cases hT
theorem alloc_sound {o:Oper} {so:SOp} {fr:Fr} {m m':Mem} {v:SV} (hT:opT P o.op=some so.base) (ha:so.isAlloc=true) (h:memop so fr m=some (v,m')):AllocOk P o fr m v m':=by
  obtain ⟨dst,op,ty,pos,after,guard⟩:=o
  dsimp only at hT
  have hb:so.base.isAlloc=true:=by cases so <;> first | rfl | (cases ha)
  have key:(∃ e,op=.alloc e) ∨ (∃ e x,op=.box e x) ∨ (∃ t n ps,op=.buildSlice t n ps) ∨ (∃ t r,op=.makeMap t r) ∨ (∃ t l c,op=.makeSlice t l c):=by
    refine Classical.byContradiction fun hcon=>?_
    have : AllS (fun s=>s.isAlloc=false) (opT P op):=by
      cases op <;> simp only [opT]
      case alloc e=>exact absurd (.inl ⟨_,rfl⟩) hcon
      case box e x=>exact absurd (.inr (.inl ⟨_,_,rfl⟩)) hcon
      case buildSlice t n ps=>exact absurd (.inr (.inr (.inl ⟨_,_,_,rfl⟩))) hcon
      case makeMap t r=>exact absurd (.inr (.inr (.inr (.inl ⟨_,_,rfl⟩)))) hcon
      case makeSlice t l c=>exact absurd (.inr (.inr (.inr (.inr ⟨_,_,_,rfl⟩)))) hcon
      case makeFunc f x y=>cases f <;> first | exact AllS.none | exact AllS.bind fun _=>AllS.map fun _=>rfl
      case call c =>
        unfold callT
        refine AllS.bind fun args=>?_
        split
        · unfold builtinT
          repeat' (first | exact AllS.none | exact AllS.some rfl | (refine AllS.bind fun _=>?_) | (refine AllS.map fun _=>?_) | rfl | split | (dsimp only))
        all_goals repeat' (first | exact AllS.none | exact AllS.some rfl | (refine AllS.bind fun _=>?_) | (refine AllS.map fun _=>?_) | rfl | split | (dsimp only))
      all_goals repeat' (first | exact AllS.none | exact AllS.some rfl | (refine AllS.bind fun _=>?_) | (refine AllS.map fun _=>?_) | rfl | split | (dsimp only))
    rw [this _ hT] at hb
    cases hb
  rcases key with ⟨e,rfl⟩ | ⟨e,x,rfl⟩ | ⟨t,n,ps,rfl⟩ | ⟨t,r,rfl⟩ | ⟨t,l,c,rfl⟩
  · exact al_alloc hT h
  · exact al_box hT h
  · exact al_bslice hT h
  · exact al_mkmap hT h
  · exact al_mkslice hT h
theorem awayL_mem {fr:Fr} {b:Bk}:∀ {l:List Opd},awayL fr b l=true → ∀ x ∈ l,∀ c off,x.ev fr=.ptr c off → c ≠ b
  | [],_,x,h=>by cases h
  | y :: l,h,x,hx=>by
    simp only [awayL,Bool.and_eq_true] at h
    rcases List.mem_cons.1 hx with rfl | hx
    · intro c off e
      have h1:=h.1
      rw [e] at h1
      simpa using h1
    · exact awayL_mem h.2 x hx
theorem Mem.new_get {m m':Mem} {st:Bool} {y z:SBk} {b c:Bk} (h:m.new st y=some (b,m')) (hc:m.get c=some z):m'.get c=some z:=by
  obtain ⟨hf,hget,_⟩:=Mem.new_spec h
  rw [hget,if_neg (fun e=>by subst e; have:=Mem.get_has hc; rw [hf] at this; cases this)]
  exact hc
def looseP (lo:List Opd):SOp → SOp
  | .append e b z _ x y=>.append e b z lo x y
  | .store n _ a x=>.store n lo a x
  | o=>o
theorem put_away {s : SOp} {lo:List Opd} {fr:Fr} {m m':Mem} {v:SV} (hp:s.isPut=true) (h:memop (looseP lo s) fr m=some (v,m')) {x:Opd} (hx:x ∈ lo) {c:Bk} {off:Nat} (he:x.ev fr=.ptr c off) {y:SBk} (hy:m.get c=some y):m'.get c=some y:=by
  cases s <;> simp only [SOp.isPut,Bool.false_eq_true] at hp
  case store n l a x' =>
    simp only [looseP,memop] at h
    split at h
    · rename_i b off' e
      split at h
      · rename_i hc
        simp only [Option.map_eq_some_iff,Prod.mk.injEq] at h
        obtain ⟨m2,hst,rfl,rfl⟩:=h
        have hne:=awayL_mem hc.2 x hx c off he
        unfold Mem.store at hst
        split at hst
        · split at hst
          · rename_i c' hg
            split at hst
            · cases hst
              rw [Mem.note_get,Mem.get_set hg,if_neg hne]
              exact hy
            · cases hst
          · cases hst
        · cases hst
      · cases h
    · cases h
  case append e b z l x' y' =>
    simp only [looseP,memop] at h
    split at h
    · simp only [Option.bind_eq_some_iff] at h
      obtain ⟨new,hnew,h⟩:=h
      split at h
      · cases h; exact hy
      · split at h
        · split at h
          · simp only [Option.map_eq_some_iff,Prod.mk.injEq] at h
            obtain ⟨⟨b',m2⟩,hn,rfl,rfl⟩:=h
            exact Mem.new_get hn hy
          · simp only [Option.map_eq_some_iff,Prod.mk.injEq] at h
            obtain ⟨⟨b',m2⟩,hn,rfl,rfl⟩:=h
            exact Mem.new_get hn hy
          · simp only [Option.bind_eq_some_iff] at h
            obtain ⟨old,hold,h⟩:=h
            split at h
            · split at h
              · simp only [Option.map_eq_some_iff,Prod.mk.injEq] at h
                obtain ⟨⟨b',m2⟩,hn,rfl,rfl⟩:=h
                exact Mem.new_get hn hy
              · split at h
                · rename_i k v' cc _ hg
                  split at h
                  · rename_i hc
                    simp only [Option.some.injEq,Prod.mk.injEq] at h
                    obtain ⟨rfl,rfl⟩:=h
                    have hne:=awayL_mem hc.2 x hx c off he
                    rw [Mem.note_get]
                    cases c with
                    | st d i=>exact hy
                    | hp n u =>
                      have hnk:n ≠ k:=by
                        rintro rfl
                        simp only [Mem.get] at hy hg
                        cases hh:m.heap[n]? with
                        | none=>simp [hh] at hg
                        | some p =>
                          obtain ⟨w,q⟩:=p
                          simp only [hh] at hy hg
                          split at hy
                          · split at hg
                            · rename_i e1 e2; subst e1; subst e2; exact hne rfl
                            · cases hg
                          · cases hy
                      simp only [Mem.get] at hy ⊢
                      rw [List.getElem?_set_ne (fun h=>hnk h.symm)]
                      exact hy
                  · cases h
                · cases h
            · cases h
          · cases h
        · cases h
    · cases h
end Go.Sh

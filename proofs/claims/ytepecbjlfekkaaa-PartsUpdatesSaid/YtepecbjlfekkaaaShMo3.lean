import Derived.Test.YtepecbjlfekkaaaShMo2
set_option linter.all false
set_option linter.unusedVariables false
set_option linter.unusedSimpArgs false
set_option autoImplicit false
namespace Go.Sh
variable {P:Program}
theorem mo_mkmap {dst ty pos after guard} {t:TypeId} {r:Option Operand} {so:SOp} {fr:Fr} {m m':Mem} {v:SV} (hT:opT P (.makeMap t r)=some so.base) (h:memop so fr m=some (v,m')):MemOk P ⟨dst,.makeMap t r,ty,pos,after,guard⟩ fr m v m':=by
  intro μ w ρ hr hs
  cases r with
  | some r=>simp [opT] at hT
  | none =>
    simp only [opT,Option.some.injEq] at hT
    obtain rfl:=base_eq hT.symm rfl
    simp only [memop,Option.map_eq_some_iff,Prod.mk.injEq] at h
    obtain ⟨⟨b,m2⟩,hnew,rfl,rfl⟩:=h
    obtain ⟨hp,hb⟩:=hs.new (N:=0) (o:=.map #[] 0) hnew ⟨#[],0,by show (w.heap.push _)[w.heap.size]? = _; simp,trivial,fun x hx=>by simp at hx,by simp⟩
    refine ⟨.map (some w.heap.size),_,_,.inl ?_,.map hb,hp⟩
    simp only [execOp,Instr.makeMap,Option.map_none,Sem.run_bind,run_newObj,Sem.run_pure,Result.andThen_ok]
    rfl
theorem wrap_in {x:Int} (h0:0 ≤ x) (h1:x < 9223372036854775808):IntKind.i64.wrap x=x:=by
  simp only [IntKind.wrap,IntKind.bits,IntKind.signed]
  simp
  omega
theorem mo_mkslice {dst ty pos after guard} {t:TypeId} {l c:Operand} {so:SOp} {fr:Fr} {m m':Mem} {v:SV} (hT:opT P (.makeSlice t l c)=some so.base) (h:memop so fr m=some (v,m')):MemOk P ⟨dst,.makeSlice t l c,ty,pos,after,guard⟩ fr m v m':=by
  intro μ w ρ hr hs
  simp only [opT] at hT
  split at hT
  · rename_i e hu
    simp only [Option.bind_eq_some_iff] at hT
    obtain ⟨l',hl,c',hc,by_,hby,z,hz,hT⟩:=hT
    split at hT
    · rename_i hsz
      obtain ⟨hsz,hpos⟩:=hsz
      simp only [Option.some.injEq] at hT
      obtain rfl:=base_eq hT.symm rfl
      have rl:=hr l l' (by simp [Op.operands]) hl
      have rc:=hr c c' (by simp [Op.operands]) hc
      simp only [memop] at h
      split at h
      · rename_i i k e1 e2
        rw [e1] at rl; rw [e2] at rc
        split at h
        · rename_i hcond
          obtain ⟨h0,h1,h2,h3,hok⟩:=hcond
          simp only [Option.map_eq_some_iff,Prod.mk.injEq] at h
          obtain ⟨⟨b,m2⟩,hnew,rfl,rfl⟩:=h
          obtain ⟨zv,hzr,hzv⟩:=r_zero hz w
          obtain ⟨inf,hinf,hinfb⟩:=r_by hby w
          have hcs:=(hzv μ).cells (zeroT_known hz)
          have hzl:zv.cells.size=z.cells.length:=by rw [hcs.length]; simp
          have hfl:=hcs.flat k.toNat
          have hall:SV.alls (Bk.lv b.room.1 b.room.2) (List.replicate k.toNat z.cells).flatten=true:=by
            have h1:SV.alls (Bk.lv b.room.1 b.room.2) z.cells=true:=new_alls0 (m:=m) (m':=m2) (st:=false) (x:=.cells true z.cells) hok
            have hsplit:∀ (a b':List SV),SV.alls (Bk.lv b.room.1 b.room.2) (a ++ b')=(SV.alls (Bk.lv b.room.1 b.room.2) a && SV.alls (Bk.lv b.room.1 b.room.2) b'):=by
              intro a b'; induction a with
              | nil=>simp [SV.alls]
              | cons x a ih=>simp [SV.alls,ih,Bool.and_assoc]
            generalize k.toNat=n
            induction n with
            | zero=>rfl
            | succ n ih=>simp [List.replicate_succ,hsplit,h1,ih]
          obtain ⟨hp,hb⟩:=hs.newCells e hnew hfl hall
          have hlen:(List.replicate k.toNat zv.cells.toList).flatten.length=k.toNat * z.cells.length:=by rw [← hfl.length]; simp
          refine ⟨.slice (some ⟨w.heap.size,0,none⟩) i.toNat k.toNat,_,_,.inl ?_,?_,hp⟩
          · have hwi:IntKind.i64.wrap i=i:=wrap_in (by omega) (by omega)
            have hwk:IntKind.i64.wrap k=k:=wrap_in (by omega) (by omega)
            have hb3:¬ ((by_:Int) * k > 2 ^ 48):=by simp only [two48] at h3; omega
            have n1:¬ k < 0:=by omega
            have n2:¬ i < 0:=by omega
            have n3:¬ i > k:=by omega
            have hrow:((Array.range (k.toNat * z.cells.length)).map fun j=>zv.cells[j % zv.cells.size]!)=⟨(List.replicate k.toNat zv.cells.toList).flatten⟩:=by rw [← hzl]; exact range_flat _ (by omega) _
            have run:(Instr.makeSlice t (.int .i64 i) (.int .i64 k)).run P w=.ok (.slice (some ⟨w.heap.size,0,none⟩) i.toNat k.toNat) (w.alloc (.cells ⟨(List.replicate k.toNat zv.cells.toList).flatten⟩ e)):=by
              simp only [Instr.makeSlice,Sem.run_bind,r_und hu,Result.andThen_ok,asInt,asIntOf,Sem.run_pure,hinf,hinfb,hwi,hwk]
              rw [if_neg (by simp [n1,n2,n3]; omega)]
              simp only [Sem.run_bind,run_askRoom,Result.andThen_ok,r_sz hsz]
              by_cases hz0:k.toNat * z.cells.length=0
              · have hk0:k.toNat=0:=by rcases Nat.mul_eq_zero.1 hz0 with h | h <;> omega
                rw [if_pos hz0]
                have hrg:((Array.range (0 * z.cells.length)).map fun j=>(#[]:Array Value)[j % (#[]:Array Value).size]!)=⟨(List.replicate 0 zv.cells.toList).flatten⟩:=by simp
                simp only [Sem.run_pure,Result.andThen_ok,newRow,Sem.run_bind,run_newObj,hz0,hk0,hrg]
                rfl
              · rw [if_neg hz0]
                simp only [Sem.run_bind,hzr,Sem.run_pure,Result.andThen_ok,newRow,run_newObj,hrow]
                rfl
            simp only [execOp,rl.int_inv,rc.int_inv,Sem.run_bind,run,Result.andThen_ok,Sem.run_pure]
          · have:=VR.sl (off:=0) (len:=i.toNat) (c:=k.toNat) (z:=z.cells.length) (cap:=some k.toNat) hb (by omega) (fun j hj=>by simpa using hj) (by rw [hlen]; omega)
            simpa using this
        · cases h
      · cases h
    · cases hT
  · cases hT
theorem mo_sliceArr {dst ty pos after guard} {t:TypeId} {x:Operand} {lo hi mx:Option Operand} {so:SOp} {fr:Fr} {m m':Mem} {v:SV} (hT:opT P (.slice t x lo hi mx)=some so.base) (hnp:so.pure=false) (h:memop so fr m=some (v,m')) :
    MemOk P ⟨dst,.slice t x lo hi mx,ty,pos,after,guard⟩ fr m v m':=by
  intro μ w ρ hr hs
  simp only [opT,Option.bind_eq_some_iff] at hT
  obtain ⟨y,hy,lo',hlo,hi',hhi,mx',hmx,hT⟩:=hT
  have rx:=hr x y (by simp [Op.operands]) hy
  split at hT
  · rename_i n e' hu
    simp only [Option.map_eq_some_iff] at hT
    obtain ⟨s,hsz,e⟩:=hT
    obtain rfl:=base_eq e.symm rfl
    simp only [memop] at h
    split at h
    · rename_i lo2 hi2 mx2 e1 e2 e3
      have q1:=optO (optI_run hlo e1 fun a b ha=>hr a b (by simp [Op.operands] at ha ⊢; simp [ha]))
      have q2:=optO (optI_run hhi e2 fun a b ha=>hr a b (by simp [Op.operands] at ha ⊢; simp [ha]))
      have q3:=optO (optI_run hmx e3 fun a b ha=>hr a b (by simp [Op.operands] at ha ⊢; simp [ha]))
      split at h
      · rename_i b off e
        rw [e] at rx
        split at h
        · rename_i rw_ cs hg
          split at h
          · rename_i hle
            simp only [Option.map_eq_some_iff,Prod.mk.injEq] at h
            obtain ⟨⟨l,hh,c⟩,hb,rfl,rfl⟩:=h
            obtain ⟨r,base,N,hmu,hk⟩:=rx.ptr_inv
            obtain ⟨C,e,lo3,hi3,hh3,hN,hbl,_,_⟩:=hs.row hmu hg
            obtain ⟨k,hm,h1,h2,h3,h4⟩:=bnds_run (P:=P) (isS:=false) hb (Nat.le_refl _) (fun j hj=>by simpa using hj) q1 q2 q3 w
            refine ⟨.slice (some (if k=l then ⟨r,base + off,none⟩ else ⟨r,base + (off + l * s),none⟩)) (hh - l) (k - l),w,μ,.inl ?_,?_,.refl hs⟩
            · by_cases hml:k=l
              · simp [execOp,Instr.sliceAt,r_und hu,hk,Instr.sureAddr,hm,r_sz hsz,hml]
              · simp [execOp,Instr.sliceAt,r_und hu,hk,Instr.sureAddr,hm,r_sz hsz,hml,add_none,Nat.add_assoc]
            · by_cases hml:k=l
              · have e1:hh - l=0:=by omega
                have e2:k - l=0:=by omega
                simp only [e1,e2]
                exact .sl0 hmu _ fun j hj=>by have:=h4 j hj; omega
              · rw [if_neg hml]
                show VR μ (.sl b (off + l * s) (hh - l) c s) _
                refine .sl hmu (by omega) h4 ?_
                have:l * s + (k - l) * s=k * s:=by rw [← Nat.add_mul]; congr 1; omega
                have:k * s ≤ n * s:=Nat.mul_le_mul_right s h3
                omega
          · cases h
        · cases h
      · cases h
    · cases h
  · simp only [Option.map_eq_some_iff] at hT
    obtain ⟨s,hsz,e⟩:=hT
    obtain rfl:=base_eq e.symm rfl
    simp [SOp.pure] at hnp
  · split at hT
    · simp only [Option.some.injEq] at hT
      obtain rfl:=base_eq hT.symm rfl
      simp [SOp.pure] at hnp
    · cases hT
  · cases hT
theorem run_getMap {w:World} {r:Nat} {E:Array MapEntry} {c:Nat} (h:w.heap[r]? = some (.map E c)):(getObj r).run P w=.ok (.map E c) w:=by simp [getObj,Sem.run,h]
theorem run_setMap {w:World} {r:Nat} {E:Array MapEntry} {c:Nat} (o:Obj) (h:w.heap[r]? = some (.map E c)):(setObj r o).run P w=.ok () (w.putObj r o):=by simp [setObj,Sem.run,h,World.putObj]
theorem checkKey_like {kt:TypeId} {ks:List Kd} {ag:Bool} (hk:eqT P 8 kt=some ks) (hag:aggT P kt=some ag) {μ:Mu} {k:SV} {u:Value} (hl:likeK ag ks k=true) (hu:VR μ k u) (b:Bool) (w:World) :
    (Instr.checkKey b 10000 kt u).run P w=.ok () w:=by
  obtain ⟨l,x,h1,rfl,h3,h4,h5,h6⟩:=likeK_split hl hu (fun e=>eqT_len hk (e ▸ hag))
  exact checkKey_ok b 8 10000 (by omega) kt ks hk μ l x ag w h4 h3 hag
theorem eqT_und {d:Nat} {kt:TypeId} {ks:List Kd} (hk:eqT P d kt=some ks):∃ kd,P.underlying kt=some kd:=by
  cases d with
  | zero=>simp [eqT] at hk
  | succ d =>
    cases hu:P.underlying kt with
    | none=>simp [eqT,hu] at hk
    | some kd=>exact ⟨kd,rfl⟩
theorem Sim.mapOf {μ:Mu} {m:Mem} {w:World} (h:Sim P μ m w) {b:Bk} {r base N:Nat} {es:List (SV × SV)} (hb:μ b=some (r,base,N)) (hg:m.get b=some (.map es)) :
    ∃ E clock,w.heap[r]? = some (.map E clock) ∧ MR (μ.on (Bk.lv b.room.1 b.room.2)) es E.toList ∧ BornOk E.toList clock:=h.blk b r base N _ hb hg
theorem MR.off {μ:Mu} {p:Bk → Bool} {es:List (SV × SV)} {E:List MapEntry} (h:MR (μ.on p) es E):MR μ es E:=h.sub fun b x hx=>(Mu.on_some.1 hx).2
theorem mo_lookup {dst ty pos after guard} {t:TypeId} {mp k:Operand} {ok:Bool} {so:SOp} {fr:Fr} {m m':Mem} {v:SV} (hT:opT P (.lookup t mp k ok)=some so.base) (h:memop so fr m=some (v,m')):MemOk P ⟨dst,.lookup t mp k ok,ty,pos,after,guard⟩ fr m v m':=by
  intro μ w ρ hr hs
  simp only [opT,Option.bind_eq_some_iff] at hT
  obtain ⟨mp',hmp,k',hk,hT⟩:=hT
  split at hT
  · rename_i kt e hu
    simp only [Option.bind_eq_some_iff,Option.map_eq_some_iff] at hT
    obtain ⟨ks,hks,ag,hag,z,hz,e⟩:=hT
    obtain rfl:=base_eq e.symm rfl
    have rm:=hr mp mp' (by simp [Op.operands]) hmp
    have rk:=hr k k' (by simp [Op.operands]) hk
    obtain ⟨zv,hzr,hzv⟩:=r_zero hz w
    obtain ⟨kd,hkd⟩:=eqT_und hks
    simp only [memop] at h
    split at h
    · rename_i hl
      have hck:=fun b=>checkKey_like hks hag hl rk b w
      split at h
      · rename_i e
        rw [e] at rm
        simp only [Option.some.injEq,Prod.mk.injEq] at h
        obtain ⟨rfl,rfl⟩:=h
        have hf:(Instr.findKey kt (ρ k) []).run P w=.ok none w:=find_run hkd (by simp [Instr.findAsking])
        cases ok
        · exact ⟨zv,w,μ,.inl (by simp [execOp,Instr.lookup,r_und hu,rm.nilm_inv,hck,hf,hzr]),hzv μ,.refl hs⟩
        · exact ⟨.tuple #[zv,.bool false],w,μ,.inl (by simp [execOp,Instr.lookup,r_und hu,rm.nilm_inv,hck,hf,hzr]),.tup (.cons (hzv μ) (.cons (.bool _) .nil)),.refl hs⟩
      · rename_i b e
        rw [e] at rm
        obtain ⟨r,base,N,hmu,hk'⟩:=rm.map_inv
        split at h
        · rename_i es hg
          obtain ⟨E,clock,hh,hm,hbo⟩:=hs.mapOf hmu hg
          simp only [Option.map_eq_some_iff,Prod.mk.injEq] at h
          obtain ⟨q,hq,rfl,rfl⟩:=h
          have hg':=run_getMap (P:=P) hh
          rcases ask_run hks hag hl rk w 0 hq hm.off with ⟨rfl,q2,_,_⟩ | ⟨n,z',q,e',rfl,q2,q3,_⟩
          · have hf:=find_run hkd q2
            cases ok
            · exact ⟨zv,w,μ,.inl (by simp [execOp,Instr.lookup,r_und hu,hk',hg',hck,hf,hzr]),hzv μ,.refl hs⟩
            · exact ⟨.tuple #[zv,.bool false],w,μ,.inl (by simp [execOp,Instr.lookup,r_und hu,hk',hg',hck,hf,hzr]),.tup (.cons (hzv μ) (.cons (.bool _) .nil)),.refl hs⟩
          · have hf:=find_run hkd q2
            cases ok
            · exact ⟨q,w,μ,.inl (by simp [execOp,Instr.lookup,r_und hu,hk',hg',hck,hf]),q3,.refl hs⟩
            · exact ⟨.tuple #[q,.bool true],w,μ,.inl (by simp [execOp,Instr.lookup,r_und hu,hk',hg',hck,hf]),.tup (.cons q3 (.cons (.bool _) .nil)),.refl hs⟩
        · cases h
      · cases h
    · cases h
  · cases hT
theorem bornOk_push {E:Array MapEntry} {clock:Nat} (h:BornOk E.toList clock) (u v:Value):BornOk (E.push ⟨u,v,clock⟩).toList (clock + 1):=by
  obtain ⟨h1,h2⟩:=h
  refine ⟨fun x hx=>?_,?_⟩
  · simp only [Array.toList_push,List.mem_append,List.mem_singleton] at hx
    rcases hx with hx | rfl
    · exact Nat.lt_succ_of_lt (h1 x hx)
    · exact Nat.lt_succ_self _
  · simp only [Array.toList_push,List.map_append,List.map_cons,List.map_nil]
    refine List.nodup_append.2 ⟨h2,by simp,?_⟩
    intro a ha b hb
    simp only [List.mem_singleton] at hb
    subst hb
    obtain ⟨x,hx,rfl⟩:=List.mem_map.1 ha
    exact Nat.ne_of_lt (h1 x hx)
theorem bornOk_map {E E':Array MapEntry} {clock:Nat} (h:BornOk E.toList clock) (he:E'.toList.map (·.born)=E.toList.map (·.born)):BornOk E'.toList clock:=by
  refine ⟨fun x hx=>?_,by rw [he]; exact h.2⟩
  have:x.born ∈ E'.toList.map (·.born):=List.mem_map.2 ⟨x,hx,rfl⟩
  rw [he] at this
  obtain ⟨y,hy,e⟩:=List.mem_map.1 this
  rw [← e]; exact h.1 y hy
theorem bornOk_modify {E:Array MapEntry} {clock:Nat} (h:BornOk E.toList clock) (i:Nat) (u v:Value):BornOk (E.modify i fun e=>{ e with key:=u,val:=v }).toList clock:=by
  refine bornOk_map h ?_
  apply List.ext_getElem?
  intro j
  simp only [List.getElem?_map,Array.getElem?_toList,Array.getElem?_modify]
  split
  · cases E[j]? <;> rfl
  · rfl
theorem bornOk_erase {E:Array MapEntry} {clock:Nat} (h:BornOk E.toList clock) (i:Nat):BornOk (E.eraseIdxIfInBounds i).toList clock:=by
  have hs:(E.eraseIdxIfInBounds i).toList.Sublist E.toList:=by
    unfold Array.eraseIdxIfInBounds
    split
    · simp only [Array.toList_eraseIdx]; exact List.eraseIdx_sublist _ _
    · exact List.Sublist.refl _
  exact ⟨fun x hx=>h.1 x (hs.subset hx),(hs.map _).nodup h.2⟩
theorem Sim.turnMap {μ:Mu} {m m':Mem} {w:World} (h:Sim P μ m w) {b:Bk} {r base N hx:Nat} {es es':List (SV × SV)} {E E':Array MapEntry} {c c':Nat} (hb:μ b=some (r,base,N)) (hg:m.get b=some (.map es)) (hmay:m.may b=true)
    (hh:w.heap[r]? = some (.map E c)) (hm:MR (μ.on (Bk.lv b.room.1 b.room.2)) es' E'.toList) (hbo:BornOk E'.toList c')
    (hm':m'=(m.set b (.map es')).note b hx) (hn:∀ B,hx ≤ B → (SBk.map es).names (lowB B) → (SBk.map es').names (lowB B)):Post P μ m w μ m' (w.putObj r (.map E' c')):=by
  subst hm'
  obtain ⟨n1,n2,n3,n4,n5,n6⟩:=Mem.note_spec (m.set b (.map es')) b hx
  have hlt:r < w.heap.size:=(h.dom b _ hb).2
  refine h.turn (x:=.map es') hb hg rfl hmay (fun k=>by rw [Mem.note_get,Mem.get_set hg]) (fun k=>by rw [Mem.note_has,Mem.has_set hg]) ?_ ?_ ?_ ?_ ?_ ⟨E',c',World.putObj_heap_same hlt,hm,hbo⟩ (fun k hk=>World.putObj_heap_other hk) (by simp [World.putObj]) rfl rfl rfl (fun l hl=>by cases hl) ?_
  · rw [n1]; cases b <;> simp [Mem.set,stkSet_length]
  · rw [n3]; cases b <;> rfl
  · rw [n4]; cases b <;> rfl
  · rw [n2]; cases b <;> simp [Mem.set]
  · intro B hB; have:=n5 B hB; cases b <;> exact this
  · intro B D ho hD he hy
    have hst:(m.set b (.map es')).stk.length=m.stk.length:=by cases b <;> simp [Mem.set,stkSet_length]
    exact hn B (n6 B D ho (by rw [hst]; exact hD) he) hy
theorem set_names {p:Bk → Bool} {k x:SV} (hk:k.all p=true) (hx:x.all p=true):∀ {es:List (SV × SV)},(SBk.map es).names p → (SBk.map (assocSet k x es)).names p
  | [],_=>fun e he=>by simp [assocSet] at he; subst he; exact ⟨hk,hx⟩
  | (a,z) :: es,h=>by
    intro e he
    simp only [assocSet] at he
    split at he
    · rcases List.mem_cons.1 he with rfl | he
      · exact ⟨hk,hx⟩
      · exact h e (List.mem_cons_of_mem _ he)
    · rcases List.mem_cons.1 he with rfl | he
      · exact h _ List.mem_cons_self
      · exact set_names hk hx (fun e he=>h e (List.mem_cons_of_mem _ he)) e he
theorem del_names {p:Bk → Bool} {k:SV}:∀ {es:List (SV × SV)},(SBk.map es).names p → (SBk.map (assocDel k es)).names p
  | [],_=>fun e he=>by simp [assocDel] at he
  | (a,z) :: es,h=>by
    intro e he
    simp only [assocDel] at he
    split at he
    · exact h e (List.mem_cons_of_mem _ he)
    · rcases List.mem_cons.1 he with rfl | he
      · exact h _ List.mem_cons_self
      · exact del_names (fun e he=>h e (List.mem_cons_of_mem _ he)) e he
theorem mapUpdate_run {t kt e:TypeId} {ks:List Kd} {ag:Bool} (hu:P.underlying t=some (.map kt e)) (hks:eqT P 8 kt=some ks) (hag:aggT P kt=some ag) {μ:Mu} {m m':Mem} {w:World} (hs:Sim P μ m w) {mp k x:SV} {um uk ux:Value}
    (rm:VR μ mp um) (rk:VR μ k uk) (rx:VR μ x ux) (hl:likeK ag ks k=true) (hkn:x.known=true) {b:Bk} (hb:mp=.map b) {es:List (SV × SV)} (hg:m.get b=some (.map es)) {q:Option SV} (hq:assoc k es=some q)
    (hmay:m.may b=true) (lk:SV.lv b.room.1 b.room.2 k=true) (lx:SV.lv b.room.1 b.room.2 x=true) (hm':m'=(m.set b (.map (assocSet k x es))).note b (max k.hx x.hx)) :
    ∃ w',(Instr.mapUpdate t um uk ux).run P w=.ok () w' ∧ Post P μ m w μ m' w':=by
  subst hb
  obtain ⟨r,base,N,hmu,rfl⟩:=rm.map_inv
  obtain ⟨E,clock,hh,hm,hbo⟩:=hs.mapOf hmu hg
  obtain ⟨kd,hkd⟩:=eqT_und hks
  have hck:=checkKey_like hks hag hl rk false w
  have hg':=run_getMap (P:=P) hh
  rw [SV.lv_all] at lk lx
  have rk':=rk.restrict _ lk
  have rx':=rx.restrict _ lx
  have hn:∀ B,max k.hx x.hx ≤ B → (SBk.map es).names (lowB B) → (SBk.map (assocSet k x es)).names (lowB B):=fun B hB hy =>
    set_names ((SV.hx_all B k).1 (by omega)) ((SV.hx_all B x).1 (by omega)) hy
  rcases ask_run hks hag hl rk' w 0 hq hm with ⟨rfl,q2,_,q4⟩ | ⟨n,z',q,e',rfl,q2,q3,q4,q5,q6,q7⟩
  · have hf:=find_run hkd q2
    refine ⟨_,?_,hs.turnMap (E':=E.push ⟨uk,ux,clock⟩) (c':=clock + 1) hmu hg hmay hh (by simpa using q4 x ux rx' clock) (bornOk_push hbo _ _) hm' hn⟩
    simp [Instr.mapUpdate,r_und hu,hg',hck,hf,run_setMap _ hh]
  · have hf:=find_run hkd q2
    refine ⟨_,?_,hs.turnMap (E':=E.modify n fun e=>{ e with key:=uk,val:=ux }) (c':=clock) hmu hg hmay hh (by simpa using q7 x ux rx') (bornOk_modify hbo n _ _) hm' hn⟩
    have e1:E[n]? = some e':=by simpa using q4
    have hky:(Instr.keyThatStays (((E[n]?).map (·.key)).getD uk) uk).run P w=.ok uk w:=by
      rw [e1]; simp [Instr.keyThatStays,q5]
    simp only [Nat.zero_add] at hf
    simp only [Instr.mapUpdate,Sem.run_bind,r_und hu,Result.andThen_ok,hg',hck,hf,hky,run_setMap _ hh]
theorem mo_mapset {dst ty pos after guard} {t:TypeId} {mp k x:Operand} {op:Op} (hop:op=.mapUpdate t mp k x ∨ op=.insert t mp k x) {so:SOp} {fr:Fr} {m m':Mem} {v:SV} (hT:opT P op=some so.base) (h:memop so fr m=some (v,m')) :
    MemOk P ⟨dst,op,ty,pos,after,guard⟩ fr m v m':=by
  intro μ w ρ hr hs
  have hT':((opdT mp).bind fun m=>(opdT k).bind fun k=>(opdT x).bind fun x=>match P.underlying t with
      | some (.map kt _)=>(eqT P 8 kt).bind fun ks=>(aggT P kt).map fun ag=>SOp.mapset ag ks m k x
      | _=>none)=some so.base:=by rcases hop with rfl | rfl <;> exact hT
  have hops:mp ∈ op.operands ∧ k ∈ op.operands ∧ x ∈ op.operands:=by rcases hop with rfl | rfl <;> simp [Op.operands]
  have hex:execOp ρ ⟨dst,op,ty,pos,after,guard⟩=(do Instr.mapUpdate t (ρ mp) (ρ k) (ρ x); pure .skip):=by rcases hop with rfl | rfl <;> rfl
  simp only [Option.bind_eq_some_iff] at hT'
  obtain ⟨mp',hmp,k',hk,x',hx,hT⟩:=hT'
  split at hT
  · rename_i kt e hu
    simp only [Option.bind_eq_some_iff,Option.map_eq_some_iff] at hT
    obtain ⟨ks,hks,ag,hag,e⟩:=hT
    rcases base_mapset e.symm with rfl | ⟨lo,rfl⟩
    case inr=>simp [memop,pev] at h
    have rm:=hr mp mp' hops.1 hmp
    have rk:=hr k k' hops.2.1 hk
    have rx:=hr x x' hops.2.2 hx
    simp only [memop] at h
    split at h
    · rename_i hl
      split at h
      · rename_i b e
        split at h
        · rename_i hc
          split at h
          · rename_i es hg
            simp only [Option.map_eq_some_iff,Prod.mk.injEq] at h
            obtain ⟨q,hq,rfl,rfl⟩:=h
            obtain ⟨w',hrun,hp⟩:=mapUpdate_run hu hks hag hs rm rk rx hl.1 hl.2 e hg hq hc.1 hc.2.1 hc.2.2 rfl
            exact ⟨undef,w',μ,.inr ⟨by rw [hex]; simp [hrun],rfl⟩,.tup .nil,hp⟩
          · cases h
        · cases h
      · cases h
    · cases h
  · cases hT
end Go.Sh

import Derived.Test.YtepecbjlfekkaaaShPure3
set_option linter.all false
set_option linter.unusedVariables false
set_option linter.unusedSimpArgs false
set_option autoImplicit false
namespace Go.Sh
variable {P:Program}
def MemOk (P:Program) (o:Oper) (fr:Fr) (m:Mem) (v:SV) (m':Mem):Prop :=
  ∀ μ w ρ,OpsR μ fr ρ o.op → Sim P μ m w → ∃ u w' μ',((execOp ρ o).run P w=.ok (.value u) w' ∨ ((execOp ρ o).run P w=.ok .skip w' ∧ u=undef)) ∧ VR μ' v u ∧ Post P μ m w μ' m' w'
theorem cellsOk_all {d i:Nat}:∀ {l:List SV},SV.cellsOk d i l=true → SV.alls (Bk.lv d i) l=true
  | [],_=>rfl
  | v :: r,h=>by
    simp only [SV.cellsOk,List.all_cons,Bool.and_eq_true] at h
    have h1:v.lv d i=true:=by cases v <;> simp [SV.cell] at h ⊢ <;> exact h.1
    rw [SV.lv_all] at h1
    simp only [SV.alls,Bool.and_eq_true]
    exact ⟨h1,cellsOk_all h.2⟩
theorem one_of_cell {d i:Nat} {μ:Mu} {v:SV} {u:Value} (h:SV.cell d i v=true) (hr:VR μ v u):u.oneCell'=true:=by
  cases hr <;> first | rfl | (simp [SV.cell] at h)
theorem ones_of_cells {d i:Nat} {μ:Mu}:∀ {l:List SV} {x:List Value},SV.cellsOk d i l=true → VRs μ l x → ∀ u ∈ x,u.oneCell'=true
  | _,_,_,.nil,u,hu=>by cases hu
  | _,_,h,.cons hv ht,u,hu=>by
    simp only [SV.cellsOk,List.all_cons,Bool.and_eq_true] at h
    rcases List.mem_cons.1 hu with rfl | hu
    · exact one_of_cell h.1 hv
    · exact ones_of_cells h.2 ht u hu
theorem lv_zero (d i:Nat) (b:Bk) (hb:b.lv 0 0=true):b.lv d i=true:=by
  cases b with
  | hp n v=>rfl
  | st e j=>simp [Bk.lv] at hb
theorem known_of_cells {v:SV} {d i:Nat} (h:SV.cellsOk d i v.cells=true):v ≠ .unk:=by
  intro e; subst e; simp [SV.cells,SV.cellsOk,SV.cell] at h
theorem Sim.newCells {μ:Mu} {m m':Mem} {w:World} {st:Bool} {c:List SV} {x:List Value} {b:Bk} (e:TypeId) (h:Sim P μ m w) (hn:m.new st (.cells true c)=some (b,m'))
    (hx:VRs μ c x) (hc:SV.alls (Bk.lv b.room.1 b.room.2) c=true) :
    Post P μ m w (μ.up b (w.heap.size,0,x.length)) m' (w.alloc (.cells ⟨x⟩ e)) ∧ μ.up b (w.heap.size,0,x.length) b=some (w.heap.size,0,x.length):=by
  refine h.new hn ⟨⟨x⟩,e,0,0,?_,rfl,by rw [hx.length]; omega,?_,fun _=>.inl rfl⟩
  · show (w.heap.push _)[w.heap.size]? = _; simp
  · have:(x.drop 0).take c.length=x:=by rw [hx.length]; simp
    rw [this]
    exact hx.restrict _ hc
theorem new_room {m m':Mem} {st:Bool} {x:SBk} {b:Bk} (hn:m.new st x=some (b,m')):b.room=if st then m.lvl else (0,0):=by
  obtain ⟨_,_,_,_,_,_,_,_,h1,h2⟩:=Mem.new_spec hn
  cases st with
  | true=>rw [(h1 rfl).1]; rfl
  | false=>rw [(h2 rfl).1]; rfl
theorem new_alls {m m':Mem} {st:Bool} {x:SBk} {b:Bk} {c:List SV} (hn:m.new st x=some (b,m')) (hc:(if st then SV.cellsOk m.lvl.1 m.lvl.2 c else SV.cellsOk 0 0 c)=true) :
    SV.alls (Bk.lv b.room.1 b.room.2) c=true:=by
  rw [new_room hn]
  cases st with
  | true=>simpa using cellsOk_all hc
  | false=>simpa using cellsOk_all hc
theorem new_alls0 {m m':Mem} {st:Bool} {x:SBk} {b:Bk} {c:List SV} (hc:SV.cellsOk 0 0 c=true):SV.alls (Bk.lv b.room.1 b.room.2) c=true :=
  SV.alls_mono (lv_zero _ _) c (cellsOk_all hc)
theorem Sim.row {μ:Mu} {m:Mem} {w:World} (h:Sim P μ m w) {b:Bk} {r base N:Nat} {rw:Bool} {c:List SV} (hb:μ b=some (r,base,N)) (hg:m.get b=some (.cells rw c)) :
    ∃ C e lo hi,w.heap[r]? = some (.cells C e (lo,hi)) ∧ C.size=N ∧ base + c.length ≤ N ∧ VRs (μ.on (Bk.lv b.room.1 b.room.2)) c ((C.toList.drop base).take c.length) ∧ (rw=true → lo=hi ∨ N ≤ lo) :=
  h.blk b r base N _ hb hg
theorem VRs.off {μ:Mu} {l:List SV} {x:List Value} {p:Bk → Bool} (hv:VRs (μ.on p) l x):VRs μ l x :=
  hv.sub fun b x h=>(Mu.on_some.1 h).2
theorem take_drop_take (C:List Value) (base L off n:Nat) (h:off + n ≤ L):(((C.drop base).take L).drop off).take n=(C.drop (base + off)).take n:=by
  apply List.ext_getElem?
  intro i
  simp only [List.getElem?_take,List.getElem?_drop]
  by_cases hi:i < n
  · have:off + i < L:=by omega
    simp [hi,this,Nat.add_assoc]
  · simp [hi]
theorem Sim.load {μ:Mu} {m:Mem} {w:World} (h:Sim P μ m w) {b:Bk} {r base N off:Nat} {n:Option Nat} {v:SV} {t:TypeId} (hb:μ b=some (r,base,N)) (hl:m.load b off n=some v) (ht:varT P t=some n) :
    ∃ u,(loadVar t ⟨r,base + off,none⟩).run P w=.ok u w ∧ VR μ v u:=by
  unfold Mem.load at hl
  cases hg:m.get b with
  | none=>simp [hg] at hl
  | some y =>
    rw [hg] at hl
    cases y with
    | cells rw c =>
      obtain ⟨C,e,lo,hi,hh,hN,hle,hr,_⟩:=h.row hb hg
      unfold varT at ht
      simp only [Option.bind_eq_some_iff,Option.map_eq_some_iff] at ht
      obtain ⟨a,ha,s,hs,rfl⟩:=ht
      cases a with
      | true =>
        simp only [partv,if_true] at hl
        split at hl
        · rename_i hos
          cases hl
          refine ⟨.agg ⟨(C.toList.drop (base + off)).take s⟩,?_,?_⟩
          · simp only [loadVar,Sem.run_bind,r_agg ha,Result.andThen_ok,if_true,r_sz hs]
            rw [run_loadCells' P hh (by omega)]
            simp
          · rw [← take_drop_take C.toList base c.length off s hos]
            exact .agg ((hr.off.drop off).take s)
        · cases hl
      | false =>
        simp only [partv,Bool.false_eq_true,if_false] at hl
        obtain ⟨u,hu,hur⟩:=hr.off.get hl
        refine ⟨u,?_,hur⟩
        have hlt:off < c.length:=(List.getElem?_eq_some_iff.1 hl).1
        rw [List.getElem?_take,if_pos hlt,List.getElem?_drop] at hu
        have hc:w.cell? ⟨r,base + off,none⟩=some u:=by rw [cell_of hh]; simpa using hu
        simp [loadVar,r_agg ha,hc]
    | map es=>simp at hl
    | loop l=>simp at hl
    | iter=>simp at hl
theorem splice (C us:List Value) (base off L:Nat) (h:off + us.length ≤ L) (hL:base + L ≤ C.length) :
    ((C.take (base + off) ++ us ++ C.drop (base + off + us.length)).drop base).take L=((C.drop base).take L).take off ++ us ++ ((C.drop base).take L).drop (off + us.length):=by
  apply List.ext_getElem?
  intro i
  simp only [List.getElem?_take,List.getElem?_drop,List.getElem?_append,List.length_take,List.length_append,List.length_drop]
  by_cases h1:i < L
  · simp only [h1,if_true]
    by_cases h2:i < off
    · have e1:base + i < min (base + off) C.length + us.length:=by omega
      have e2:base + i < min (base + off) C.length:=by omega
      have e3:i < min off (min L (C.length - base)) + us.length:=by omega
      have e4:i < min off (min L (C.length - base)):=by omega
      have e5:base + i < base + off:=by omega
      simp [e1,e2,e3,e4,e5,h2,h1]
    · by_cases h3:i < off + us.length
      · have e1:base + i < min (base + off) C.length + us.length:=by omega
        have e2:¬ base + i < min (base + off) C.length:=by omega
        have e3:i < min off (min L (C.length - base)) + us.length:=by omega
        have e4:¬ i < min off (min L (C.length - base)):=by omega
        simp only [e1,e2,e3,e4,if_true,if_false]
        congr 1
        omega
      · have e1:¬ base + i < min (base + off) C.length + us.length:=by omega
        have e3:¬ i < min off (min L (C.length - base)) + us.length:=by omega
        simp only [e1,e3,if_false]
        have e6:off + us.length + (i - (min off (min L (C.length - base)) + us.length))=i:=by omega
        have e7:base + off + us.length + (base + i - (min (base + off) C.length + us.length))=base + i:=by omega
        rw [e6,e7]
        simp [h1]
  · have e3:¬ i < min off (min L (C.length - base)) + us.length:=by omega
    have e6:¬ off + us.length + (i - (min off (min L (C.length - base)) + us.length)) < L:=by omega
    simp [h1,e3,e6]
theorem Sim.store {μ:Mu} {m m':Mem} {w:World} (h:Sim P μ m w) {b:Bk} {r base N off:Nat} {vs:List SV} {us:List Value} (hb:μ b=some (r,base,N)) (hs:m.store b off vs=some m') (hu:VRs μ vs us) :
    ∃ w',(storeCells ⟨r,base + off,none⟩ us).run P w=.ok () w' ∧ Post P μ m w μ m' w':=by
  unfold Mem.store at hs
  split at hs
  · rename_i hc
    obtain ⟨hmay,hok⟩:=hc
    cases hg:m.get b with
    | none=>simp [hg] at hs
    | some y =>
      rw [hg] at hs
      cases y with
      | map es=>simp at hs
      | loop l=>simp at hs
      | iter=>simp at hs
      | cells rw c =>
        cases rw with
        | false=>simp at hs
        | true =>
          simp only at hs
          split at hs
          · rename_i hle
            cases hs
            obtain ⟨C,e,lo,hi,hh,hN,hbl,hr,hfz⟩:=h.row hb hg
            have hul:=hu.length
            have hCl:C.toList.length=C.size:=by simp
            obtain ⟨w',hrun,h1,h2,h3,h4,h5,h6⟩:=run_storeCells' P us w C (base + off) 0 hh (by omega) (ones_of_cells hok hu) (fun k hk1 hk2 hk3=>by have:=hfz rfl; simp at hk3; omega)
            refine ⟨w',hrun,?_⟩
            obtain ⟨n1,n2,n3,n4,n5,n6⟩:=Mem.note_spec (m.set b (.cells true (c.take off ++ vs ++ c.drop (off + vs.length)))) b (SV.hxs vs)
            refine h.turn hb hg rfl hmay (fun k=>by rw [Mem.note_get,Mem.get_set hg]) (fun k=>by rw [Mem.note_has,Mem.has_set hg]) ?_ ?_ ?_ ?_ ?_ ?_ h2 h3 h4 h5 h6 (fun l hl=>by cases hl) ?_
            · rw [n1]; cases b <;> simp [Mem.set,stkSet_length]
            · rw [n3]; cases b <;> rfl
            · rw [n4]; cases b <;> rfl
            · rw [n2]; cases b <;> simp [Mem.set]
            · intro B hB; have:=n5 B hB; cases b <;> exact this
            · have hlen:(c.take off ++ vs ++ c.drop (off + vs.length)).length=c.length:=by simp; omega
              refine ⟨_,e,lo,hi,h1,?_,?_,?_,fun _=>hfz rfl⟩
              · simp only [Array.size,List.length_append,List.length_take,List.length_drop]; simp; omega
              · rw [hlen]; exact hbl
              · rw [hlen]
                simp only [Nat.add_zero]
                rw [splice C.toList us base off c.length (by omega) (by omega)]
                have hvr:VRs (μ.on (Bk.lv b.room.1 b.room.2)) vs us:=hu.restrict _ (cellsOk_all hok)
                rw [← hul]
                exact ((hr.take off).append hvr).append (hr.drop _)
            · intro B D ho hD he hy
              have hst:(m.set b (.cells true (c.take off ++ vs ++ c.drop (off + vs.length)))).stk.length=m.stk.length:=by cases b <;> simp [Mem.set,stkSet_length]
              have hx:=n6 B D ho (by rw [hst]; exact hD) he
              rw [SV.hxs_alls] at hx
              show SV.alls _ _=true
              have hsplit:∀ (a b:List SV),SV.alls (lowB B) (a ++ b)=(SV.alls (lowB B) a && SV.alls (lowB B) b):=by
                intro a b; induction a with
                | nil=>simp [SV.alls]
                | cons x a ih=>simp [SV.alls,ih,Bool.and_assoc]
              have hpart:∀ (a:List SV) (n:Nat),SV.alls (lowB B) a=true → SV.alls (lowB B) (a.take n)=true ∧ SV.alls (lowB B) (a.drop n)=true:=by
                intro a n ha
                rw [← List.take_append_drop n a,hsplit,Bool.and_eq_true] at ha
                exact ha
              rw [hsplit,hsplit,(hpart c off hy).1,(hpart c _ hy).2]
              simp only [Bool.true_and,Bool.and_true]
              exact hx
          · cases hs
  · cases hs
end Go.Sh

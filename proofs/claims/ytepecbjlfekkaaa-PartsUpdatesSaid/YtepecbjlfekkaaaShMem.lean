import Derived.Test.YtepecbjlfekkaaaShSim
import Derived.Laws.World
set_option linter.all false
set_option linter.unusedVariables false
set_option linter.unusedSimpArgs false
set_option autoImplicit false
namespace Go.Sh
def Mu.up (μ:Mu) (b:Bk) (x:Nat × Nat × Nat):Mu:=fun c=>if c=b then some x else μ c
theorem Mu.up_keep {μ:Mu} {b:Bk} {x:Nat × Nat × Nat} (h:μ b=none):∀ c y,μ c=some y → μ.up b x c=some y:=by
  intro c y hc
  unfold Mu.up
  split
  · rename_i e; subst e; rw [h] at hc; cases hc
  · exact hc
theorem Sim.fresh {P:Program} {μ:Mu} {m:Mem} {w:World} (h:Sim P μ m w) {b:Bk} (hb:m.has b=false):μ b=none:=by
  cases hx:μ b with
  | none=>rfl
  | some x=>have:=(h.dom b x hx).1; rw [hb] at this; cases this
theorem Mem.may_eq {m m':Mem} (h1:m'.hb=m.hb) (h2:m'.db=m.db) (b:Bk):m'.may b=m.may b:=by
  cases b <;> simp [Mem.may,h1,h2]
theorem Mem.lvl_length (m:Mem):m.lvl.1=m.stk.length - 1:=by
  unfold Mem.lvl
  cases m.stk <;> simp
theorem Sim.new {P:Program} {μ:Mu} {m m':Mem} {w:World} {st:Bool} {x:SBk} {b:Bk} {N:Nat} {o:Obj} (h:Sim P μ m w) (hn:m.new st x=some (b,m'))
    (hx:BR P (μ.on (Bk.lv b.room.1 b.room.2)) (w.alloc o) w.heap.size 0 N x) :
    Post P μ m w (μ.up b (w.heap.size,0,N)) m' (w.alloc o) ∧ μ.up b (w.heap.size,0,N) b=some (w.heap.size,0,N):=by
  obtain ⟨hf,hget,hhas,hdep,hhb,hdb,hesc,hheap,hst,hhp⟩:=Mem.new_spec hn
  have hmu:μ b=none:=h.fresh hf
  have hk:=Mu.up_keep (x:=(w.heap.size,0,N)) hmu
  have hold:∀ r,r < w.heap.size → (w.alloc o).heap[r]? = w.heap[r]? := fun r hr=>by
    show (w.heap.push o)[r]? = _
    rw [Array.getElem?_push,if_neg (by omega)]
  have hne:∀ c y,μ c=some y → c ≠ b:=fun c y hc e=>by subst e; rw [hmu] at hc; cases hc
  have hsz:(w.alloc o).heap.size=w.heap.size + 1:=by show (w.heap.push o).size=_; simp
  refine ⟨{ sim:=⟨?_,?_,?_,?_⟩,go:=⟨hdep,hhb,hdb,hheap,fun c hc=>(hhas c).2 (.inr hc),?_,?_,fun B hB=>hesc ▸ hB,fun c hc _=>by rw [hget,if_neg (fun e=>by subst e; rw [hf] at hc; cases hc)]⟩,keep:=hk,new:=?_,frm:=fun r hr _=>hold r hr,os:=rfl,tape:=rfl,out:=rfl,size:=by omega,old:=?_ },by simp [Mu.up]⟩
  · intro c y hc
    unfold Mu.up at hc
    split at hc
    · rename_i e; subst e; cases hc; exact ⟨(hhas _).2 (.inl rfl),by show w.heap.size < _; omega⟩
    · have:=h.dom c y hc; exact ⟨(hhas _).2 (.inr this.1),by omega⟩
  · intro c r base M y hc hy
    have hk':∀ d z,(μ.on (Bk.lv c.room.1 c.room.2)) d=some z → ((μ.up b (w.heap.size,0,N)).on (Bk.lv c.room.1 c.room.2)) d=some z:=fun d z hd=>by
      rw [Mu.on_some] at *; exact ⟨hd.1,hk _ _ hd.2⟩
    unfold Mu.up at hc
    split at hc
    · rename_i e; subst e; cases hc
      rw [hget,if_pos rfl] at hy
      cases hy
      exact hx.sub hk' rfl
    · rename_i e
      rw [hget,if_neg e] at hy
      exact (h.blk c r base M y hc hy).sub hk' (hold r (h.dom c _ hc).2)
  · intro c d y z u v hc hd e hu hv hcd
    unfold Mu.up at hc hd
    split at hc <;> split at hd
    · rename_i e1 e2; exact absurd (e1.trans e2.symm) hcd
    · rename_i e1 e2; cases hc; have:=(h.dom d z hd).2; simp at e; omega
    · rename_i e1 e2; cases hd; have:=(h.dom c y hc).2; simp at e; omega
    · rename_i e1 e2
      rw [hget,if_neg e1] at hu
      rw [hget,if_neg e2] at hv
      exact h.inj c d y z u v hc hd e hu hv hcd
  · intro c y hc
    rw [hget] at hc
    split at hc
    · rename_i e; subst e; cases hc
      exact hx.knows fun d z hd=>(hhas d).2 (.inr (h.dom d z hd).1)
    · exact SBk.names_mono (Mem.knows_mono fun d hd=>(hhas d).2 (.inr hd)) (h.cl c y hc)
  · intro c r hc
    have:c ≠ b:=fun e=>by subst e; have:=Mem.get_has hc; rw [hf] at this; cases this
    exact ⟨r,by rw [hget,if_neg this]; exact hc⟩
  · intro c hc ⟨y,hy,h1,h2⟩
    have:c ≠ b:=fun e=>by subst e; rw [hf] at hc; cases hc
    rw [hget,if_neg this] at hy
    exact ⟨y,hy,h1,by rw [← Mem.may_eq hhb hdb]; exact h2⟩
  · intro c y hc
    unfold Mu.up at hc
    split at hc
    · rename_i e; subst e; cases hc; exact .inr ⟨hf,.inl (Nat.le_refl _)⟩
    · exact .inl hc
  · intro B D hB hD ho _ c z hold' hz
    rw [hget] at hz
    split at hz
    · rename_i e
      subst e
      cases st with
      | true =>
        rw [(hst rfl).1] at hold'
        have:=Mem.lvl_length m
        simp [Bk.old] at hold'
        omega
      | false =>
        rw [(hhp rfl).1] at hold'
        simp [Bk.old] at hold'
        omega
    · exact ho c z hold' hz
theorem Mem.note_spec (m:Mem) (b:Bk) (h:Nat) :
    (m.note b h).stk=m.stk ∧ (m.note b h).heap=m.heap ∧ (m.note b h).hb=m.hb ∧ (m.note b h).db=m.db ∧ (∀ B,escOk B (m.note b h).esc=true → escOk B m.esc=true) ∧
    (∀ B D,b.old B D=true → D < m.stk.length → escOk B (m.note b h).esc=true → h ≤ B):=by
  have hmin:∀ (B:Nat) (e:Option Nat) (n:Nat),escOk B (escMin e (some n))=true → escOk B e=true ∧ 0 < B ∧ B ≤ n:=by
    intro B e n he
    cases e with
    | none=>simp [escMin,escOk] at he ⊢; omega
    | some k=>simp [escMin,escOk] at he ⊢; omega
  cases b with
  | hp n v =>
    simp only [Mem.note]
    split
    · rename_i hle
      exact ⟨rfl,rfl,rfl,rfl,fun _ h=>h,fun B D ho _ _=>by simp [Bk.old] at ho; omega⟩
    · exact ⟨rfl,rfl,rfl,rfl,fun B he=>(hmin B _ _ he).1,fun B D ho _ he=>by have:=hmin B _ _ he; simp [Bk.old] at ho; omega⟩
  | st d i =>
    simp only [Mem.note]
    split
    · rename_i hle
      refine ⟨rfl,rfl,rfl,rfl,fun _ h=>h,fun B D ho hD _=>?_⟩
      simp [Bk.old] at ho
      rcases hle with hle | hle <;> omega
    · exact ⟨rfl,rfl,rfl,rfl,fun B he=>by simp [escOk] at he; omega,fun B D _ _ he=>by simp [escOk] at he; omega⟩
theorem Mem.note_get (m:Mem) (b:Bk) (h:Nat) (c:Bk):(m.note b h).get c=m.get c:=by
  obtain ⟨h1,h2,_⟩:=Mem.note_spec m b h
  cases c <;> simp [Mem.get,h1,h2]
theorem Mem.note_has (m:Mem) (b:Bk) (h:Nat) (c:Bk):(m.note b h).has c=m.has c:=by
  obtain ⟨h1,h2,_⟩:=Mem.note_spec m b h
  cases c <;> simp [Mem.has,h1,h2]
theorem Sim.turn {P:Program} {μ:Mu} {m m':Mem} {w w':World} {b:Bk} {r base N:Nat} {x y:SBk} (h:Sim P μ m w) (hb:μ b=some (r,base,N)) (hy:m.get b=some y)
    (hro:y.ro=false) (hmay:m.may b=true) (hget:∀ c,m'.get c=if c=b then some x else m.get c) (hhas:∀ c,m'.has c=m.has c)
    (hdep:m'.stk.length=m.stk.length) (hhb:m'.hb=m.hb) (hdb:m'.db=m.db) (hheap:m'.heap.length=m.heap.length) (hesc:∀ B,escOk B m'.esc=true → escOk B m.esc=true)
    (hx:BR P (μ.on (Bk.lv b.room.1 b.room.2)) w' r base N x) (hoth:∀ k,k ≠ r → w'.heap[k]? = w.heap[k]?) (hsz:w'.heap.size=w.heap.size)
    (hos:w'.os=w.os) (htape:w'.tape=w.tape) (hout:w'.output=w.output) (hloop:∀ l,y=.loop l → ∃ l',x=.loop l')
    (hold:∀ B D,b.old B D=true → D < m.stk.length → escOk B m'.esc=true → y.names (lowB B) → x.names (lowB B)) :
    Post P μ m w μ m' w':=by
  have hlone:∀ c z u,μ c=some z → z.1=r → m.get c=some u → c=b:=by
    intro c z u hc hz hu
    by_cases e:c=b
    · exact e
    · have:=(h.inj c b z (r,base,N) u y hc hb hz hu hy e).2
      rw [hro] at this; cases this
  refine { sim:=⟨?_,?_,?_,?_⟩,go:=⟨hdep,hhb,hdb,by omega,fun c hc=>by rw [hhas]; exact hc,?_,?_,hesc,fun c _ hm=>by rw [hget,if_neg (fun e=>by subst e; rw [hmay] at hm; cases hm)]⟩,keep:=fun _ _ h=>h,new:=fun _ _ h=>.inl h,frm:=?_,os:=hos,tape:=htape,out:=hout,size:=by omega,old:=?_ }
  · intro c z hc; rw [hhas,hsz]; exact h.dom c z hc
  · intro c k base' M z hc hz
    rw [hget] at hz
    split at hz
    · rename_i e; subst e; cases hz; rw [hb] at hc; cases hc; exact hx
    · rename_i e
      refine (h.blk c k base' M z hc hz).sub (fun _ _ h=>h) (hoth k fun e'=>?_)
      exact e (hlone c (k,base',M) z hc e' hz)
  · intro c d z z' u v hc hd e hu hv hcd
    rw [hget] at hu hv
    split at hu <;> split at hv
    · rename_i e1 e2; exact absurd (e1.trans e2.symm) hcd
    · rename_i e1 e2; subst e1; rw [hb] at hc; cases hc; exact absurd (hlone d z' v hd e.symm hv) e2
    · rename_i e1 e2; subst e2; rw [hb] at hd; cases hd; exact absurd (hlone c z u hc e hu) e1
    · exact h.inj c d z z' u v hc hd e hu hv hcd
  · intro c z hc
    rw [hget] at hc
    split at hc
    · rename_i e; subst e; cases hc
      exact hx.knows fun d z hd=>by rw [hhas]; exact (h.dom d z hd).1
    · exact SBk.names_mono (Mem.knows_mono fun d hd=>by rw [hhas]; exact hd) (h.cl c z hc)
  · intro c l hc
    by_cases e:c=b
    · subst e; rw [hy] at hc; cases hc
      obtain ⟨l',hl'⟩:=hloop l rfl
      exact ⟨l',by rw [hget,if_pos rfl,hl']⟩
    · exact ⟨l,by rw [hget,if_neg e]; exact hc⟩
  · intro c _ ⟨z,hz,h1,h2⟩
    rw [Mem.may_eq hhb hdb] at h2
    by_cases e:c=b
    · subst e; exact ⟨y,hy,hro,hmay⟩
    · rw [hget,if_neg e] at hz; exact ⟨z,hz,h1,h2⟩
  · intro k _ hno
    refine hoth k fun e=>?_
    subst e
    exact hno b _ hb rfl ⟨y,hy,hro,hmay⟩
  · intro B D _ hD ho he c u hcold hu
    rw [hget] at hu
    split at hu
    · rename_i e; subst e; cases hu; exact hold B D hcold hD he (ho c y hcold hy)
    · exact ho c u hcold hu
theorem cell_of {w:World} {r o:Nat} {C:Array Value} {e:TypeId} {fz:Nat × Nat} (h:w.heap[r]? = some (.cells C e fz)):w.cell? ⟨r,o,none⟩=C[o]? := by
  simp [World.cell?,h]
theorem add_none (r o n:Nat):Addr.add ⟨r,o,none⟩ n=⟨r,o + n,none⟩:=by
  unfold Addr.add; split <;> simp_all
theorem run_loadFrom (P:Program) {w:World} {r o:Nat} {C:Array Value} {e:TypeId} {fz:Nat × Nat} (h:w.heap[r]? = some (.cells C e fz)) :
    ∀ (n i:Nat) (acc:Array Value),o + i + n ≤ C.size → (loadCellsFrom ⟨r,o,none⟩ i n acc).run P w=.ok ⟨acc.toList ++ (C.toList.drop (o + i)).take n⟩ w:=by
  intro n
  induction n with
  | zero=>intro i acc _; simp [loadCellsFrom]
  | succ n ih =>
    intro i acc hle
    have hlt:o + i < C.size:=by omega
    have hc:w.cell? ⟨r,o + i,none⟩=some C[o + i]:=by rw [cell_of h]; simp [hlt]
    simp only [loadCellsFrom,Sem.run_bind,run_load,add_none,hc,Result.andThen_ok]
    rw [ih (i + 1) _ (by omega)]
    have:(C.toList.drop (o + i)).take (n + 1)=C[o + i] :: (C.toList.drop (o + (i + 1))).take n:=by
      rw [show o + (i + 1)=o + i + 1 from rfl,List.drop_eq_getElem_cons (by simpa using hlt)]
      simp
    rw [this]
    simp
theorem run_loadCells' (P:Program) {w:World} {r o n:Nat} {C:Array Value} {e:TypeId} {fz:Nat × Nat} (h:w.heap[r]? = some (.cells C e fz)) (hle:o + n ≤ C.size) :
    (loadCells ⟨r,o,none⟩ n).run P w=.ok ⟨(C.toList.drop o).take n⟩ w:=by
  have:=run_loadFrom P h n 0 #[] (by omega)
  simpa [loadCells] using this
theorem getElem?_modify_self {w:Array Obj} {r:Nat} {x:Obj} (h:w[r]? = some x) (f:Obj → Obj):(w.modify r f)[r]? = some (f x):=by
  rw [Array.getElem?_modify,if_pos rfl,h]; rfl
theorem run_storeCells' (P:Program) {r:Nat} {e:TypeId} {fz:Nat × Nat}:∀ (vs:List Value) (w:World) (C:Array Value) (o i:Nat),w.heap[r]? = some (.cells C e fz) → o + i + vs.length ≤ C.size →
    (∀ v ∈ vs,v.oneCell'=true) → (∀ k,o + i ≤ k → k < o + i + vs.length → ¬ (fz.1 ≤ k ∧ k < fz.2)) →
    ∃ w',(storeCells ⟨r,o,none⟩ vs i).run P w=.ok () w' ∧ w'.heap[r]? = some (.cells ⟨C.toList.take (o + i) ++ vs ++ C.toList.drop (o + i + vs.length)⟩ e fz) ∧
      (∀ k,k ≠ r → w'.heap[k]? = w.heap[k]?) ∧ w'.heap.size=w.heap.size ∧ w'.os=w.os ∧ w'.tape=w.tape ∧ w'.output=w.output:=by
  intro vs
  induction vs with
  | nil =>
    intro w C o i h hle _ _
    refine ⟨w,by simp [storeCells],?_,fun _ _=>rfl,rfl,rfl,rfl,rfl⟩
    rw [h]; simp
  | cons v vs ih =>
    intro w C o i h hle hone hfz
    simp only [List.length_cons] at hle hfz
    have hlt:o + i < C.size:=by omega
    have hc:w.cell? ⟨r,o + i,none⟩=some C[o + i]:=by rw [cell_of h]; simp [hlt]
    have hf:w.frozen? ⟨r,o + i,none⟩=false:=by
      obtain ⟨lo,hi⟩:=fz
      have:=hfz (o + i) (Nat.le_refl _) (by omega)
      simp only [World.frozen?,h]
      simp at this ⊢
      exact this
    have h1:(w.setCell ⟨r,o + i,none⟩ v).heap[r]? = some (.cells (C.setIfInBounds (o + i) v) e fz):=by
      simp only [World.setCell]
      rw [getElem?_modify_self h]
      rfl
    obtain ⟨w',hrun,hr,ho,hsz,hos,ht,hout⟩:=ih (w.setCell ⟨r,o + i,none⟩ v) (C.setIfInBounds (o + i) v) o (i + 1) h1 (by simp; omega) (fun u hu=>hone u (List.mem_cons_of_mem _ hu))
      (fun k h1 h2=>hfz k (by omega) (by omega))
    refine ⟨w',?_,?_,?_,?_,hos,ht,hout⟩
    · simp only [storeCells,Sem.run_bind,add_none,run_store P w _ v .plain (hone v List.mem_cons_self),hc,hf,Bool.false_eq_true,if_false,Result.andThen_ok]
      exact hrun
    · rw [hr]
      congr 2
      apply Array.toList_inj.1
      simp only [Array.toList_setIfInBounds]
      have hlt':o + i < C.toList.length:=by simpa using hlt
      rw [show o + (i + 1)=o + i + 1 from rfl,List.take_succ_eq_append_getElem (by simpa using hlt)]
      simp only [List.getElem_set_self,List.take_set,List.length_cons]
      rw [List.set_eq_of_length_le (by rw [List.length_take]; omega),List.drop_set_of_lt (by omega)]
      simp
      congr 1
      omega
    · intro k hk
      rw [ho k hk]
      simp only [World.setCell,Array.getElem?_modify]
      rw [if_neg (fun e=>hk e.symm)]
    · rw [hsz]; simp [World.setCell]
end Go.Sh

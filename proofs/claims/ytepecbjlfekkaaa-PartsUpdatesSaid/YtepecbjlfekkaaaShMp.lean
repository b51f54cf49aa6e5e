import Derived.Test.YtepecbjlfekkaaaShSl
set_option linter.all false
set_option linter.unusedVariables false
set_option linter.unusedSimpArgs false
set_option autoImplicit false
namespace Go.Sh
set_option maxHeartbeats 8000000
set_option maxRecDepth 20000
def lookB (z:SV) (ok:Bool) (k:SV) (o:Option SBk) (m:Mem):Option (SV × Mem):=match o with
  | some (.map es)=>(assoc k es).map fun r=>(if ok then .tup [r.getD z,.bool r.isSome] else r.getD z,m)
  | _=>none
def lookV (z:SV) (ok:Bool) (v k:SV) (m:Mem):Option (SV × Mem):=match v with
  | .nilm=>some (if ok then .tup [z,.bool false] else z,m)
  | .map b=>lookB z ok k (m.get b) m
  | _=>none
def setB (b:Bk) (k x:SV) (o:Option SBk) (m:Mem):Option (SV × Mem):=match o with
  | some (.map es)=>(assoc k es).map fun _=>(.tup [],(m.set b (.map (assocSet k x es))).note b (max k.hx x.hx))
  | _=>none
def setV (v k x:SV) (m:Mem):Option (SV × Mem):=match v with
  | .map b=>if m.may b ∧ SV.lv b.room.1 b.room.2 k ∧ SV.lv b.room.1 b.room.2 x then setB b k x (m.get b) m else none
  | _=>none
def clearB (b:Bk) (o:Option SBk) (m:Mem):Option (SV × Mem):=match o with
  | some (.map _)=>some (.tup [],m.set b (.map []))
  | _=>none
def clearV (v:SV) (m:Mem):Option (SV × Mem):=match v with
  | .nilm=>some (.tup [],m)
  | .map b=>if m.may b then clearB b (m.get b) m else none
  | _=>none
variable {m:Mem}
theorem RP_lookV (F:Tbl) {fr:Fr} {ag ks z ok} {mp k:Opd}:RP F (.lookup ag ks z ok mp k) fr m=if likeK ag ks (k.ev fr) then lookV z ok (mp.ev fr) (k.ev fr) m else none:=by
  rw [RP_mem _ _ _ rfl]
  simp only [memop,lookV]
  split
  · cases mp.ev fr <;> first | rfl | (simp only [lookB]; split <;> simp_all)
  · rfl
theorem RP_setV (F:Tbl) {fr:Fr} {ag ks} {mp k x:Opd}:RP F (.mapset ag ks mp k x) fr m=if likeK ag ks (k.ev fr) ∧ (x.ev fr).known then setV (mp.ev fr) (k.ev fr) (x.ev fr) m else none:=by
  rw [RP_mem _ _ _ rfl]
  simp only [memop,setV]
  split
  · cases mp.ev fr <;> first | rfl | (simp only [setB]; split <;> first | rfl | (split <;> simp_all))
  · rfl
theorem RP_setVL (F:Tbl) {fr:Fr} {lo:List Opd} {ag ks} {mp k x:Opd}:RP F (.mapsetL lo ag ks mp k x) fr m=(if likeK ag ks (k.ev fr) ∧ (x.ev fr).known then setV (mp.ev fr) (k.ev fr) (x.ev fr) m else none).bind (awayB fr lo m):=by
  rw [RP_mapsetL,← RP_setV F,RP_mem _ _ _ rfl]
attribute [go_sem] RP_setVL
theorem RP_clearV (F:Tbl) {fr:Fr} {mp:Opd}:RP F (.clear mp) fr m=clearV (mp.ev fr) m:=by
  rw [RP_mem _ _ _ rfl]
  simp only [memop,clearV]
  cases mp.ev fr <;> first | rfl | (simp only [clearB]; split <;> first | rfl | (split <;> simp_all))
def delB (b:Bk) (k:SV) (o:Option SBk) (m:Mem):Option (SV × Mem):=match o with
  | some (.map es)=>(assoc k es).map fun _=>(.tup [],m.set b (.map (assocDel k es)))
  | _=>none
def delV (v k:SV) (m:Mem):Option (SV × Mem):=match v with
  | .nilm=>some (.tup [],m)
  | .map b=>if m.may b then delB b k (m.get b) m else none
  | _=>none
theorem RP_delV (F:Tbl) {fr:Fr} {ag ks} {mp k:Opd}:RP F (.delete ag ks mp k) fr m=if likeK ag ks (k.ev fr) then delV (mp.ev fr) (k.ev fr) m else none:=by
  rw [RP_mem _ _ _ rfl]
  simp only [memop,delV]
  split
  · cases mp.ev fr <;> first | rfl | (simp only [delB]; split <;> first | rfl | (split <;> simp_all))
  · rfl
def mlenB (o:Option SBk) (m:Mem):Option (SV × Mem):=match o with
  | some (.map es)=>some (.i es.length,m)
  | _=>none
def mlenV (v:SV) (m:Mem):Option (SV × Mem):=match v with
  | .nilm=>some (.i 0,m)
  | .map b=>mlenB (m.get b) m
  | _=>none
theorem RP_mlenV (F:Tbl) {fr:Fr} {x:Opd}:RP F (.mlen x) fr m=mlenV (x.ev fr) m:=by
  rw [RP_mem _ _ _ rfl]
  simp only [memop,mlenV]
  cases x.ev fr <;> first | rfl | (simp only [mlenB]; split <;> simp_all)
theorem delV_nilm (k:SV) (m:Mem):delV .nilm k m=some (.tup [],m):=rfl
theorem delV_map (b:Bk) (k:SV) (m:Mem):delV (.map b) k m=if m.may b then delB b k (m.get b) m else none:=rfl
theorem delB_map (b:Bk) (k:SV) (es) (m:Mem):delB b k (some (.map es)) m=(assoc k es).map fun _=>(.tup [],m.set b (.map (assocDel k es))):=rfl
theorem mlenV_nilm (m:Mem):mlenV .nilm m=some (.i 0,m):=rfl
theorem mlenV_map (b:Bk) (m:Mem):mlenV (.map b) m=mlenB (m.get b) m:=rfl
theorem mlenB_map (es) (m:Mem):mlenB (some (.map es)) m=some (.i es.length,m):=rfl
attribute [go_sem] RP_delV RP_mlenV delV_nilm delV_map delB_map mlenV_nilm mlenV_map mlenB_map
theorem lookV_nilm (z:SV) (ok:Bool) (k:SV) (m:Mem):lookV z ok .nilm k m=some (if ok then .tup [z,.bool false] else z,m):=rfl
theorem lookV_map (z:SV) (ok:Bool) (b:Bk) (k:SV) (m:Mem):lookV z ok (.map b) k m=lookB z ok k (m.get b) m:=rfl
theorem lookB_map (z:SV) (ok:Bool) (k:SV) (es) (m:Mem):lookB z ok k (some (.map es)) m=(assoc k es).map fun r=>(if ok then .tup [r.getD z,.bool r.isSome] else r.getD z,m):=rfl
theorem setV_map (b:Bk) (k x:SV) (m:Mem):setV (.map b) k x m=if m.may b ∧ SV.lv b.room.1 b.room.2 k ∧ SV.lv b.room.1 b.room.2 x then setB b k x (m.get b) m else none:=rfl
theorem setB_map (b:Bk) (k x:SV) (es) (m:Mem):setB b k x (some (.map es)) m=(assoc k es).map fun _=>(.tup [],(m.set b (.map (assocSet k x es))).note b (max k.hx x.hx)):=rfl
theorem clearV_map (b:Bk) (m:Mem):clearV (.map b) m=if m.may b then clearB b (m.get b) m else none:=rfl
theorem clearB_map (b:Bk) (es) (m:Mem):clearB b (some (.map es)) m=some (.tup [],m.set b (.map [])):=rfl
theorem note_hf' (f:List SBk) (e:Option Nat) (L:List (Nat × SBk)) (n v h:Nat):((m.fr f e).hap L).note (.hp n v) h=(m.fr f (if h ≤ n then e else escMin e (some n))).hap L:=by
  simp only [Mem.note]
  split <;> rfl
theorem may_hap (L:List (Nat × SBk)) (f:List SBk) (e:Option Nat) {h:Nat} (i v:Nat) (hh:h=m.hl) (hb:m.hb ≤ m.hl):((m.fr f e).hap L).may (.hp (h + i) v)=true:=by
  subst hh; simp only [Mem.may,decide_eq_true_eq]; show m.hb ≤ _; omega
theorem may_hap0 (L:List (Nat × SBk)) (f:List SBk) (e:Option Nat) {h:Nat} (v:Nat) (hh:h=m.hl) (hb:m.hb ≤ m.hl):((m.fr f e).hap L).may (.hp h v)=true:=may_hap L f e 0 v hh hb
theorem store_hf (L:List (Nat × SBk)) (f:List SBk) (e:Option Nat) {h:Nat} (i v off:Nat) (vs:List SV) (hh:h=m.hl) (hb:m.hb ≤ m.hl):((m.fr f e).hap L).store (.hp (h + i) v) off vs =
    if SV.cellsOk 0 0 vs then (match hapGet L i v with
    | some (.cells true c)=>if off + vs.length ≤ c.length then some ((m.fr f (if SV.hxs vs ≤ h + i then e else escMin e (some (h + i)))).hap (L.set i (v,.cells true (c.take off ++ vs ++ c.drop (off + vs.length))))) else none
    | _=>none) else none:=by
  have hm:=may_hap L f e i v hh hb
  have hh':h=(m.fr f e).hl:=by rw [hl_fr]; exact hh
  simp only [Mem.store,hm,true_and,Bk.room,get_hap (m.fr f e) L i v hh',set_hap (m.fr f e) L i v _ hh',note_hf']
  rfl
theorem room_hp (n v:Nat):Bk.room (.hp n v)=(0,0):=rfl
theorem shut_new_hap (m:Mem) (f:List SBk) (e:Option Nat) (L:List (Nat × SBk)) (x:SBk):((m.fr f e).hap L).shut.new true x=some (.st m.dep f.length,((m.fr (f ++ [x]) e).hap L).shutAs ((m.fr f e).hap L)):=by
  simp [Mem.shut,Mem.shutAs,Mem.fr,Mem.hap,Mem.new,Mem.dep]
theorem shutAs_reopen_hap (m m₀:Mem) (f g:List SBk) (e e':Option Nat) (L L':List (Nat × SBk)):(((m.fr g e).hap L).shutAs m₀).reopen ((m.fr f e').hap L')=(m.fr g e).hap L:=rfl
attribute [go_sem] shut_new_hap shutAs_reopen_hap Option.getD_none Option.getD_some Option.isSome_none Option.isSome_some
attribute [go_sem] RP_lookV RP_setV RP_clearV lookV_nilm lookV_map lookB_map setV_map setB_map clearV_map clearB_map note_hf' may_hap may_hap0 room_hp store_hf assoc assocSet
end Go.Sh

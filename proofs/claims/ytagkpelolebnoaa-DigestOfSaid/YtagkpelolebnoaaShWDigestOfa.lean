import Derived.Test.YtagkpelolebnoaaShTabDigestOf
import Derived.Test.YtagkpelolebnoaaShArg
set_option linter.all false
set_option linter.unusedVariables false
set_option linter.unusedSimpArgs false
set_option autoImplicit false
namespace Go.Sh.T
open Go.Sh
set_option maxHeartbeats 8000000
set_option maxRecDepth 20000
def or32 (a b : Int) : Int := IntKind.wrap .u32 ((BitVec.ofInt 32 a ||| BitVec.ofInt 32 b).toNat : Nat)
def xr32 (a b : Int) : Int := IntKind.wrap .u32 ((BitVec.ofInt 32 a ^^^ BitVec.ofInt 32 b).toNat : Nat)
def an32 (a b : Int) : Int := IntKind.wrap .u32 ((BitVec.ofInt 32 a &&& BitVec.ofInt 32 b).toNat : Nat)
theorem ib_or32 (a b : Int) : ibits .or .u32 a b = some (or32 a b) := id rfl
theorem ib_xr32 (a b : Int) : ibits .xor .u32 a b = some (xr32 a b) := id rfl
theorem ib_an32 (a b : Int) : ibits .and .u32 a b = some (an32 a b) := id rfl
theorem or32_comm (a b : Int) : or32 a b = or32 b a := by unfold or32; rw [BitVec.or_comm]
attribute [go_sem] ib_or32 ib_xr32 ib_an32
def rr (n x : Int) : Int := or32 (IntKind.wrap .u32 (x * 2 ^ (32 - n.toNat))) (x.fdiv (2 ^ n.toNat))
theorem turn_s {n : Int} (h : 1 ≤ n ∧ n ≤ 31) : ibits .and .u64 (IntKind.wrap .u64 (IntKind.wrap .i64 (0 - n))) 31 = some (32 - n) := by
  obtain ⟨k, rfl⟩ : ∃ k : Fin 32, n = (k.val : Int) := ⟨⟨n.toNat, by omega⟩, by show n = ((n.toNat : Nat) : Int); omega⟩
  revert k; decide
theorem wS {x : Int} (h1 : -9223372036854775808 ≤ x) (h2 : x ≤ 9223372036854775807) : IntKind.wrap .i64 x = x := by
  have e : IntKind.wrap .i64 x = if x % 18446744073709551616 ≥ 9223372036854775808 then x % 18446744073709551616 - 18446744073709551616 else x % 18446744073709551616 := by
    simp [IntKind.wrap, IntKind.signed, IntKind.bits]
  rw [e]; split <;> omega
theorem wSucc {i : Nat} (h : i ≤ 4611686018427387903) : IntKind.wrap .i64 ((i : Int) + 1) = ((i + 1 : Nat) : Int) := by rw [wS (by omega) (by omega)]; rfl
theorem wrap_u64 {x : Int} (h : 0 ≤ x ∧ x < 4294967296) : IntKind.wrap .u64 x = x := by
  show x % 18446744073709551616 = x
  omega
theorem r_digest_right {X : Mem} (hw : X.Wf) {n : Int} (h : 1 ≤ n ∧ n ≤ 31) (x : Int) : RF tb f_digest_right [.int .u32 x, .int .i64 n] X = some (.int .u32 (rr n x), X) := by
  rw [RF_go t_digest_right _ _ rfl]
  simp (maxDischargeDepth := 8) only [go_sem, s_digest_right, hw]
  rw [RF_go t_math_bits_RotateLeft32 _ _ rfl]
  simp (maxDischargeDepth := 8) only [go_sem, s_math_bits_RotateLeft32, hw, turn_s h, show (32 - n < 0) = False from eq_false (by omega), wrap_u64 (x := 32 - (32 - n)) (by omega), show (32 - (32 - n) < 0) = False from eq_false (by omega)]
  unfold rr
  rw [show min (32 - n).toNat 32 = 32 - n.toNat by omega, show min (32 - (32 - n)).toNat 32 = n.toNat by omega]
theorem r_ref27_turn {X : Mem} (hw : X.Wf) {n : Int} (h : 1 ≤ n ∧ n ≤ 31) (x : Int) : RF tb f_ref27_turn [.int .u32 x, .int .u64 n] X = some (.int .u32 (rr n x), X) := by
  rw [RF_go t_ref27_turn _ _ rfl]
  simp (maxDischargeDepth := 8) only [go_sem, s_ref27_turn, hw, show (n < 0) = False from eq_false (by omega), wrap_u64 (x := 32 - n) (by omega), show (32 - n < 0) = False from eq_false (by omega)]
  unfold rr
  rw [show min (32 - n).toNat 32 = 32 - n.toNat by omega, show min n.toNat 32 = n.toNat by omega, or32_comm]
abbrev wv (l : List Int) : List SV := l.map (SV.int .u32)
def hC : List Int := [0x6a09e667, 0xbb67ae85, 0x3c6ef372, 0xa54ff53a, 0x510e527f, 0x9b05688c, 0x1f83d9ab, 0x5be0cd19]
def kC : List Int := [
  0x428a2f98, 0x71374491, 0xb5c0fbcf, 0xe9b5dba5, 0x3956c25b, 0x59f111f1, 0x923f82a4, 0xab1c5ed5,
  0xd807aa98, 0x12835b01, 0x243185be, 0x550c7dc3, 0x72be5d74, 0x80deb1fe, 0x9bdc06a7, 0xc19bf174,
  0xe49b69c1, 0xefbe4786, 0x0fc19dc6, 0x240ca1cc, 0x2de92c6f, 0x4a7484aa, 0x5cb0a9dc, 0x76f988da,
  0x983e5152, 0xa831c66d, 0xb00327c8, 0xbf597fc7, 0xc6e00bf3, 0xd5a79147, 0x06ca6351, 0x14292967,
  0x27b70a85, 0x2e1b2138, 0x4d2c6dfc, 0x53380d13, 0x650a7354, 0x766a0abb, 0x81c2c92e, 0x92722c85,
  0xa2bfe8a1, 0xa81a664b, 0xc24b8b70, 0xc76c51a3, 0xd192e819, 0xd6990624, 0xf40e3585, 0x106aa070,
  0x19a4c116, 0x1e376c08, 0x2748774c, 0x34b0bcb5, 0x391c0cb3, 0x4ed8aa4a, 0x5b9cca4f, 0x682e6ff3,
  0x748f82ee, 0x78a5636f, 0x84c87814, 0x8cc70208, 0x90befffa, 0xa4506ceb, 0xbef9a3f7, 0xc67178f2]
theorem r_digest_begun {X : Mem} (hw : X.Wf) : RF tb f_digest_begun [] X = some (.agg (wv hC), X) := by
  rw [RF_go t_digest_begun _ _ rfl]
  simp (maxDischargeDepth := 8) only [go_sem, s_digest_begun, hw]
  rfl
theorem r_digest_constants {X : Mem} (hw : X.Wf) : RF tb f_digest_constants [] X = some (.agg (wv kC), X) := by
  rw [RF_go t_digest_constants _ _ rfl]
  simp (maxDischargeDepth := 8) only [go_sem, s_digest_constants, hw]
  rfl
/-! slices of whole numbers -/
theorem kF_even (k : IntKind) : (Fl.int k).Even := ⟨fun _ => rfl⟩
theorem kF_ok (k : IntKind) (l : List Int) : SV.cellsOk 0 0 (l.flatMap (Fl.int k).enc) = true := cellsOk_flat (fun _ => rfl) l
theorem kF_hx (k : IntKind) (l : List Int) : SV.hxs (l.flatMap (Fl.int k).enc) = 0 := by induction l with | nil => rfl | cons a l ih => simp only [List.flatMap_cons]; exact ih
theorem kF_flat (k : IntKind) (l : List Int) : l.flatMap (Fl.int k).enc = l.map (SV.int k) := by induction l with | nil => rfl | cons a l ih => simp only [List.flatMap_cons, ih]; rfl
theorem _root_.Go.Sh.LiesD.iaddrK {k : IntKind} {m : Mem} {v : SV} {l : List Int} (h : LiesD (Fl.int k) m v l) {i : Nat} (hi : i < l.length) (j : IntKind) (m' : Mem) : iaddrV 1 v (.int j (i : Int)) m' = some (.ptr (.hp (slN v) (slW v)) (slO v + i), m') := by
  have := LiesD.iaddr h hi j m'
  rw [show (Fl.int k).sz = 1 from rfl, Nat.mul_one] at this
  exact this
theorem _root_.Go.Sh.LiesD.loadK {k : IntKind} {m : Mem} {v : SV} {l : List Int} (h : LiesD (Fl.int k) m v l) {i : Nat} (hi : i < l.length) {X : Mem} (hX : HpSub m X) : X.load (.hp (slN v) (slW v)) (slO v + i) none = some (.int k (l.getD i 0)) := by
  have := LiesD.load1 (kF_even k) (h.sub hX) (show l[i]? = some (l.getD i 0) by rw [List.getD_eq_getElem?_getD, List.getElem?_eq_getElem hi]; rfl) (j := 0) (show (0 : Nat) < 1 by decide)
  rw [show (Fl.int k).sz = 1 from rfl, Nat.mul_one, Nat.add_zero] at this
  exact this
theorem _root_.Go.Sh.LiesD.dropK {k : IntKind} {m : Mem} {v : SV} {l : List Int} (h : LiesD (Fl.int k) m v l) {lo : Nat} (hl : lo ≤ l.length) : sliceV 1 v (some (lo : Int)) none none = some (dropV 1 lo v) := Lies.dropS h hl
theorem _root_.Go.Sh.LiesD.dropKl {k : IntKind} {m : Mem} {v : SV} {l : List Int} (h : LiesD (Fl.int k) m v l) {lo : Nat} (hl : lo ≤ l.length) : LiesD (Fl.int k) m (dropV 1 lo v) (l.drop lo) := h.drop (kF_even k) hl
def word4 (b : List Int) (i : Nat) : Int := or32 (or32 (or32 (IntKind.wrap .u32 (IntKind.wrap .u32 (b.getD i 0) * 2 ^ 24)) (IntKind.wrap .u32 (IntKind.wrap .u32 (b.getD (i + 1) 0) * 2 ^ 16))) (IntKind.wrap .u32 (IntKind.wrap .u32 (b.getD (i + 2) 0) * 2 ^ 8))) (IntKind.wrap .u32 (b.getD (i + 3) 0))
theorem r_digest_high4 {m : Mem} {v : SV} {b : List Int} (hl : LiesD (Fl.int .u8) m v b) (h4 : 4 ≤ b.length) {X : Mem} (hX : HpSub m X) (hw : X.Wf) : RF tb f_digest_high4 [v] X = some (.int .u32 (word4 b 0), X) := by
  rw [RF_go t_digest_high4 _ _ rfl]
  have l0 := hl.loadK (i := 0) (by omega) (X := X) hX
  rw [Nat.add_zero] at l0
  have l1 := hl.loadK (i := 1) (by omega) (X := X) hX
  have l2 := hl.loadK (i := 2) (by omega) (X := X) hX
  have l3 := hl.loadK (i := 3) (by omega) (X := X) hX
  have a0 := fun j m' => hl.iaddrK (i := 0) (by omega) j m'
  have a1 := fun j m' => hl.iaddrK (i := 1) (by omega) j m'
  have a2 := fun j m' => hl.iaddrK (i := 2) (by omega) j m'
  have a3 := fun j m' => hl.iaddrK (i := 3) (by omega) j m'
  simp only [Int.cast_ofNat_Int, Nat.add_zero] at a0 a1 a2 a3
  simp (maxDischargeDepth := 8) only [go_sem, s_digest_high4, hw, a0, a1, a2, a3, l0, l1, l2, l3]
  try rfl
abbrev w32 (x : Int) : Int := IntKind.wrap .u32 x
def wx (w : List Int) (i : Nat) : Int := w32 (w32 (w32 (w.getD (i - 16) 0 + w.getD (i - 7) 0) + xr32 (xr32 (rr 7 (w.getD (i - 15) 0)) (rr 18 (w.getD (i - 15) 0))) ((w.getD (i - 15) 0).fdiv (2 ^ 3))) + xr32 (xr32 (rr 17 (w.getD (i - 2) 0)) (rr 19 (w.getD (i - 2) 0))) ((w.getD (i - 2) 0).fdiv (2 ^ 10)))
def wfst (b : List Int) (n : Nat) : List Int := (List.range n).map fun j => word4 b (4 * j)
def wseq (b : List Int) : Nat → List Int
  | 0 => wfst b 16
  | m + 1 => wseq b m ++ [wx (wseq b m) (16 + m)]
theorem wfst_len (b : List Int) (n : Nat) : (wfst b n).length = n := by simp [wfst]
theorem wfst_succ (b : List Int) (n : Nat) : wfst b (n + 1) = wfst b n ++ [word4 b (4 * n)] := by simp [wfst, List.range_succ]
theorem wseq_len (b : List Int) (m : Nat) : (wseq b m).length = 16 + m := by
  induction m with
  | zero => exact wfst_len b 16
  | succ m ih => simp only [wseq, List.length_append, ih, List.length_cons, List.length_nil]; omega
def rt1 (e f g h k w : Int) : Int := w32 (w32 (w32 (w32 (h + xr32 (xr32 (rr 6 e) (rr 11 e)) (rr 25 e)) + xr32 (an32 e f) (an32 (xr32 4294967295 e) g)) + k) + w)
def rt2 (a b c : Int) : Int := w32 (xr32 (xr32 (rr 2 a) (rr 13 a)) (rr 22 a) + xr32 (xr32 (an32 a b) (an32 a c)) (an32 b c))
def rnd (k w : Int) : List Int → List Int
  | [a, b, c, d, e, f, g, h] => [w32 (rt1 e f g h k w + rt2 a b c), a, b, c, w32 (d + rt1 e f g h k w), e, f, g]
  | l => l
def rndN (ks ws : List Int) (v : List Int) : Nat → List Int
  | 0 => v
  | n + 1 => rnd (ks.getD n 0) (ws.getD n 0) (rndN ks ws v n)
theorem rnd_len {k w : Int} {v : List Int} (h : v.length = 8) : (rnd k w v).length = 8 := by
  unfold rnd; split
  · rfl
  · exact h
theorem rndN_len {ks ws v : List Int} (h : v.length = 8) (n : Nat) : (rndN ks ws v n).length = 8 := by
  induction n with
  | zero => exact h
  | succ n ih => exact rnd_len ih
def addN (h v : List Int) : Nat → List Int
  | 0 => h
  | i + 1 => (addN h v i).set i (w32 ((addN h v i).getD i 0 + v.getD i 0))
theorem addN_len {h v : List Int} (e : h.length = 8) (n : Nat) : (addN h v n).length = 8 := by
  induction n with
  | zero => exact e
  | succ n ih => simp only [addN, List.length_set, ih]
def blk (h b : List Int) : List Int := addN h (rndN kC (wseq b 48) h 64) 8
theorem blk_len {h b : List Int} (e : h.length = 8) : (blk h b).length = 8 := addN_len e 8
theorem len8 {l : List Int} (h : l.length = 8) : ∃ a b c d e f g i, l = [a, b, c, d, e, f, g, i] := by
  match l, h with
  | [a, b, c, d, e, f, g, i], _ => exact ⟨a, b, c, d, e, f, g, i, rfl⟩
theorem set_last {α : Type} (H : List α) (x y : α) : (H ++ [x]).set H.length y = H ++ [y] := by
  rw [List.set_append_right _ _ (Nat.le_refl _), Nat.sub_self]; rfl
theorem lvs_wv (a b : Nat) (l : List Int) : SV.lvs a b (wv l) = true := by
  induction l with
  | nil => rfl
  | cons x l ih => simp only [wv, List.map_cons, SV.lvs, SV.lv, Bool.true_and]; exact ih
/-! cells of words -/
theorem part_w {l : List Int} {R : List SV} {j : Nat} (h : j < l.length) : (wv l ++ R)[j]? = some (.int .u32 (l.getD j 0)) := by
  rw [List.getElem?_append_left (by simpa using h), List.getElem?_map, List.getElem?_eq_getElem h, List.getD_eq_getElem?_getD, List.getElem?_eq_getElem h]; rfl
theorem part_w0 {l : List Int} {j : Nat} (h : j < l.length) : (wv l)[j]? = some (.int .u32 (l.getD j 0)) := by
  have := part_w (R := []) h
  rwa [List.append_nil] at this
theorem set_end {l : List Int} {n : Nat} {x : Int} : (wv l ++ List.replicate (n + 1) (SV.int .u32 0)).take l.length ++ [SV.int .u32 x] ++ (wv l ++ List.replicate (n + 1) (SV.int .u32 0)).drop (l.length + 1) = wv (l ++ [x]) ++ List.replicate n (SV.int .u32 0) := by
  rw [List.take_append_of_le_length (by simp), List.take_of_length_le (by simp), List.drop_append, List.drop_of_length_le (by simp)]
  simp
theorem set_w {l : List Int} {R : List SV} {i : Nat} {x : Int} (h : i < l.length) : (wv l ++ R).take i ++ [SV.int .u32 x] ++ (wv l ++ R).drop (i + 1) = wv (l.set i x) ++ R := by
  have h2 : i < (wv l).length := by simpa using h
  rw [List.take_append_of_le_length (by omega), List.drop_append_of_le_length (by omega), ← List.append_assoc]
  show _ = (l.set i x).map (SV.int .u32) ++ R
  rw [List.map_set, List.set_eq_take_append_cons_drop, if_pos (by simpa using h)]
  simp
/-! slices of arrays; copies -/
def arrO (n esz : Nat) (b : Bk) (off : Nat) (lo hi mx : Option Int) (m : Mem) : Option SBk → Option (SV × Mem)
  | some (.cells _ cs) => if off + n * esz ≤ cs.length then (bnds n (some n) lo hi mx).map fun (l, h, c) => (.sl b (off + l * esz) (h - l) c esz, m) else none
  | _ => none
def arrP (n esz : Nat) (x : SV) (lo hi mx : Option SV) (m : Mem) : Option (SV × Mem) := match optS lo, optS hi, optS mx with
  | some lo, some hi, some mx => match x with
    | .ptr b off => arrO n esz b off lo hi mx m (m.get b)
    | _ => none
  | _, _, _ => none
theorem RP_arr (F : Tbl) {m : Mem} {fr : Fr} {n esz : Nat} {x : Opd} {lo hi mx : Option Opd} : RP F (.sliceArr n esz x lo hi mx) fr m = arrP n esz (x.ev fr) (lo.map (·.ev fr)) (hi.map (·.ev fr)) (mx.map (·.ev fr)) m := by
  rw [RP_mem _ _ _ rfl]
  have e : ∀ o : Option Opd, optI fr o = optS (o.map (·.ev fr)) := by intro o; cases o <;> rfl
  simp only [memop, arrP, e]
  cases optS (lo.map (·.ev fr)) <;> cases optS (hi.map (·.ev fr)) <;> cases optS (mx.map (·.ev fr)) <;> first | rfl | (cases x.ev fr <;> rfl)
theorem arrP_lo (n esz : Nat) (b : Bk) (off : Nat) (k : IntKind) (i : Int) (m : Mem) : arrP n esz (.ptr b off) (some (.int k i)) none none m = arrO n esz b off (some i) none none m (m.get b) := id rfl
theorem arrP_hi (n esz : Nat) (b : Bk) (off : Nat) (k : IntKind) (i : Int) (m : Mem) : arrP n esz (.ptr b off) none (some (.int k i)) none m = arrO n esz b off none (some i) none m (m.get b) := id rfl
theorem arrO_cells (n esz : Nat) (b : Bk) (off : Nat) (lo hi mx : Option Int) (m : Mem) (rw : Bool) (cs : List SV) : arrO n esz b off lo hi mx m (some (.cells rw cs)) = if off + n * esz ≤ cs.length then (bnds n (some n) lo hi mx).map fun (l, h, c) => (.sl b (off + l * esz) (h - l) c esz, m) else none := id rfl
theorem bnds_8a : bnds 8 (some 8) (some 1) none none = some (1, 8, some 7) := by decide
theorem bnds_8b : bnds 8 (some 8) none (some 7) none = some (0, 7, some 8) := by decide
def copE (esz : Nat) (b : Bk) (off k off' : Nat) (m : Mem) : Option SBk → Option (SV × Mem)
  | some (.cells _ cs) => if off' + k * esz ≤ cs.length then (m.store b off ((cs.drop off').take (k * esz))).map fun m => (.i k, m) else none
  | _ => none
def copV (esz : Nat) (x y : SV) (m : Mem) : Option (SV × Mem) :=
  match lenS x, lenv y with
    | some dl, some sl =>
      (m.elems esz (min sl dl) y).bind fun cs =>
        match x with
        | .nils => some (.i (min sl dl : Nat), m)
        | .sl b off _ _ _ => (m.store b off cs).map fun m => (.i (min sl dl : Nat), m)
        | _ => none
    | _, _ => none
theorem RP_cop (F : Tbl) {m : Mem} {fr : Fr} {esz : Nat} {x y : Opd} : RP F (.copy esz x y) fr m = copV esz (x.ev fr) (y.ev fr) m := by
  rw [RP_mem _ _ _ rfl]
  rfl
theorem copV_sl (esz : Nat) (b b' : Bk) (off off' n n' : Nat) (c c' : Option Nat) (z z' : Nat) (m : Mem) : copV esz (.sl b off n c z) (.sl b' off' n' c' z') m = copE esz b off (min n' n) off' m (m.get b') := by
  simp only [copV, lenS, lenv, Mem.elems]
  cases m.get b' with
  | none => rfl
  | some y =>
    cases y with
    | cells rw cs => simp only [copE]; split <;> rfl
    | _ => rfl
theorem copE_cells (esz : Nat) (b : Bk) (off k off' : Nat) (m : Mem) (rw : Bool) (cs : List SV) : copE esz b off k off' m (some (.cells rw cs)) = if off' + k * esz ≤ cs.length then (m.store b off ((cs.drop off').take (k * esz))).map fun m => (.i k, m) else none := id rfl
theorem not32 : (if IntKind.u32.signed = true then (-1 : Int) else IntKind.u32.max) = 4294967295 := by decide
attribute [go_sem] not32 shut_get Nat.min_self
theorem inB_8 : inB 0 8 = true ∧ inB 1 8 = true ∧ inB 2 8 = true ∧ inB 3 8 = true ∧ inB 4 8 = true ∧ inB 5 8 = true ∧ inB 6 8 = true ∧ inB 7 8 = true := by decide
attribute [go_sem] RP_arr arrP_lo arrP_hi arrO_cells bnds_8a bnds_8b RP_cop copV_sl copE_cells
theorem set_same {H : Hp} {k : Nat} {x : SBk} (h : hget H k 0 = some x) : H.set k (0, x) = H := by
  have hl := hget_lt h
  have : H[k]? = some (0, x) := by
    unfold hget at h
    rw [List.getElem?_eq_getElem hl] at h ⊢
    dsimp only at h
    split at h
    · cases h; congr 1; rename_i e; exact Prod.ext e rfl
    · cases h
  apply List.ext_getElem?
  intro j
  rw [List.getElem?_set]
  split
  · rename_i e; subst e; exact this.symm
  · rfl
theorem hget_sa {H : Hp} {k : Nat} (hk : k < H.length) (x : SBk) (L : Hp) : hget (H.set k (0, x) ++ L) k 0 = some x := by
  rw [hget_app _ (by simpa using hk), hget_set_eq hk, if_pos rfl]
theorem hget_sl {H : Hp} {k : Nat} (y : Nat × SBk) (x : SBk) : hget (H.set k y ++ [(0, x)]) H.length 0 = some x := by
  have := hget_new0 (H := H.set k y) 0 [(0, x)]
  rw [List.length_set] at this
  rw [this]; rfl
theorem set_sa {H : Hp} {k : Nat} (hk : k < H.length) (y z : Nat × SBk) (L : Hp) : (H.set k y ++ L).set k z = H.set k z ++ L := by
  rw [List.set_append_left _ _ (by simpa using hk), List.set_set]
theorem inB_nat {i n : Nat} (h : i < n) : inB (i : Int) n = true := by simp [inB]; omega
theorem r_words_block {X : Mem} {k : Nat} {hs : List Int} {R : List SV} {v : SV} {b : List Int} (hk : hget X.heap k 0 = some (.cells true (wv hs ++ R))) (h8 : hs.length = 8) (hl : LiesD (Fl.int .u8) (Hm X.heap) v b) (hb : 64 ≤ b.length) (hw : X.Wf) (hhb : X.hb ≤ k) : RF tb f_digest_words_block [.ptr (.hp k 0) 0, v] X = some (.tup [], X.hp (X.heap.set k (0, .cells true (wv (blk hs b) ++ R)))) := by
  rw [RF_go t_digest_words_block _ _ rfl, push_hp]
  generalize hH : X.heap = H at *
  have hHl : X.hl = H.length := by rw [← hH]; rfl
  simp (maxDischargeDepth := 8) only [go_sem, s_digest_words_block, hw, hH]
  rw [KL_keep _ _ _ (by simp (maxDischargeDepth := 8) only [go_sem, (LiesD.isSl hl).l, hw])]
  simp (maxDischargeDepth := 8) only [go_sem]
  refine KL_indE (α := Nat) (fun i => 16 - i) (fun i => [(0, .ptr (.hp k 0) 0), (1, v), (4, .ptr (.st X.dep 0) 0), (17, .int .i64 (i : Int))]) (fun i => (X.hp H).fr [.cells true (wv (wfst b i) ++ List.replicate (64 - i) (.int .u32 0))] none) (fun i => i ≤ 16) ?_ 0 (Nat.zero_le _)
  intro i hi ih
  simp (maxDischargeDepth := 8) only [go_sem, hw, (LiesD.isSl hl).l]
  by_cases hlt : i < 16
  · simp (maxDischargeDepth := 8) only [go_sem, show decide ((i : Int) < 16) = true from decide_eq_true (by omega), hw]
    have h4 : IntKind.wrap .i64 (4 * (i : Int)) = ((4 * i : Nat) : Int) := by rw [wS (by omega) (by omega)]; omega
    have hd := hl.dropKl (lo := 4 * i) (by omega)
    have e64 : 64 - i = (63 - i) + 1 := by omega
    have hlen : (wv (wfst b i)).length = i := by rw [List.length_map, wfst_len]
    have hz2 : i + 1 ≤ (wfst b i).length + (63 - i + 1) := by rw [wfst_len]; omega
    simp (maxDischargeDepth := 8) only [go_sem, h4, hl.dropK (lo := 4 * i) (by omega), r_digest_high4 hd (by rw [List.length_drop]; omega), hw, inB_nat (show i < 64 by omega), e64, List.length_append, List.length_map, List.length_replicate, Nat.mul_one, hz2, wSucc (show i ≤ 4611686018427387903 by omega)]
    rw [KL_keep _ _ _ (by simp (maxDischargeDepth := 8) only [go_sem, (LiesD.isSl hl).l, hw])]
    simp (maxDischargeDepth := 8) only [go_sem]
    have es := set_end (l := wfst b i) (n := 63 - i) (x := word4 (b.drop (4 * i)) 0)
    rw [wfst_len] at es
    rw [es]
    have := ih (i + 1) (by omega) (by omega)
    rw [wfst_succ, show 64 - (i + 1) = 63 - i by omega, show word4 b (4 * i) = word4 (b.drop (4 * i)) 0 by simp only [word4, List.getD_eq_getElem?_getD, List.getElem?_drop, Nat.add_zero, Nat.add_assoc]] at this
    exact this
  · have ei : i = 16 := by omega
    subst ei
    clear ih
    simp (maxDischargeDepth := 8) only [go_sem, hw]
    rw [KL_keep _ _ _ (by simp (maxDischargeDepth := 8) only [go_sem, hw])]
    simp (maxDischargeDepth := 8) only [go_sem]
    refine KL_indE (α := Nat) (fun i => 48 - i) (fun i => [(0, .ptr (.hp k 0) 0), (4, .ptr (.st X.dep 0) 0), (6, .int .i64 ((16 + i : Nat) : Int))]) (fun i => (X.hp H).fr [.cells true (wv (wseq b i) ++ List.replicate (48 - i) (.int .u32 0))] none) (fun i => i ≤ 48) ?_ 0 (Nat.zero_le _)
    intro i hi ih
    simp (maxDischargeDepth := 8) only [go_sem, hw]
    by_cases hlt : i < 48
    · simp (maxDischargeDepth := 8) only [go_sem, show decide (((16 + i : Nat) : Int) < 64) = true from decide_eq_true (by omega), hw]
      have hwl := wseq_len b i
      have s15 : IntKind.wrap .i64 (((16 + i : Nat) : Int) - 15) = ((i + 1 : Nat) : Int) := by rw [wS (by omega) (by omega)]; omega
      have s2 : IntKind.wrap .i64 (((16 + i : Nat) : Int) - 2) = ((14 + i : Nat) : Int) := by rw [wS (by omega) (by omega)]; omega
      have s16 : IntKind.wrap .i64 (((16 + i : Nat) : Int) - 16) = ((i : Nat) : Int) := by rw [wS (by omega) (by omega)]; omega
      have s7 : IntKind.wrap .i64 (((16 + i : Nat) : Int) - 7) = ((9 + i : Nat) : Int) := by rw [wS (by omega) (by omega)]; omega
      have e48 : 48 - i = (47 - i) + 1 := by omega
      have hz3 : 16 + i + 1 ≤ (wv (wseq b i) ++ List.replicate (47 - i + 1) (SV.int .u32 0)).length := by simp only [List.length_append, List.length_map, List.length_replicate]; omega
      have pw : ∀ {j : Nat}, j < 16 + i → (wv (wseq b i) ++ List.replicate (47 - i + 1) (SV.int .u32 0))[j]? = some (.int .u32 ((wseq b i).getD j 0)) := fun hj => part_w (by omega)
      simp (maxDischargeDepth := 8) only [go_sem, s15, s2, s16, s7, e48, inB_nat (show i + 1 < 64 by omega), inB_nat (show 14 + i < 64 by omega), inB_nat (show i < 64 by omega), inB_nat (show 9 + i < 64 by omega), inB_nat (show 16 + i < 64 by omega), Nat.mul_one, Int.toNat_natCast, pw (j := i + 1) (by omega), pw (j := 14 + i) (by omega), pw (j := i) (by omega), pw (j := 9 + i) (by omega), hw, hz3, r_digest_right, wSucc (show 16 + i ≤ 4611686018427387903 by omega)]
      rw [KL_keep _ _ _ (by simp (maxDischargeDepth := 8) only [go_sem, hw])]
      simp (maxDischargeDepth := 8) only [go_sem]
      have es := set_end (l := wseq b i) (n := 47 - i) (x := wx (wseq b i) (16 + i))
      rw [hwl] at es
      have ew : wx (wseq b i) (16 + i) = IntKind.wrap .u32 (IntKind.wrap .u32 (IntKind.wrap .u32 ((wseq b i).getD i 0 + (wseq b i).getD (9 + i) 0) + xr32 (xr32 (rr 7 ((wseq b i).getD (i + 1) 0)) (rr 18 ((wseq b i).getD (i + 1) 0))) (((wseq b i).getD (i + 1) 0).fdiv (2 ^ min 3 32))) + xr32 (xr32 (rr 17 ((wseq b i).getD (14 + i) 0)) (rr 19 ((wseq b i).getD (14 + i) 0))) (((wseq b i).getD (14 + i) 0).fdiv (2 ^ min 10 32))) := by
        unfold wx
        rw [show 16 + i - 16 = i by omega, show 16 + i - 7 = 9 + i by omega, show 16 + i - 15 = i + 1 by omega, show 16 + i - 2 = 14 + i by omega]
        rfl
      rw [← ew, es]
      have := ih (i + 1) (by omega) (by omega)
      rw [show 48 - (i + 1) = 47 - i by omega, show 16 + (i + 1) = 16 + i + 1 by omega] at this
      exact this
    · have ei : i = 48 := by omega
      subst ei
      clear ih
      obtain ⟨g0, g1, g2, g3, g4, g5, g6, g7, rfl⟩ := len8 h8
      have h8' : 8 ≤ (wv [g0, g1, g2, g3, g4, g5, g6, g7] ++ R).length := by simp
      have hkl := hget_lt hk
      simp (maxDischargeDepth := 8) only [go_sem, hw, hk, r_digest_constants, h8', hH, show X.hb ≤ H.length by omega]
      rw [KL_keep _ _ _ (by simp (maxDischargeDepth := 8) only [go_sem, hw, lvs_wv])]
      simp (maxDischargeDepth := 8) only [go_sem, set_last]
      have hwl := wseq_len b 48
      refine KL_indE (α := Nat) (fun i => 64 - i) (fun i => [(0, .ptr (.hp k 0) 0), (4, .ptr (.st X.dep 0) 0), (9, .ptr (.hp H.length 0) 0), (72, .agg (wv kC)), (73, .int .i64 (i : Int))]) (fun i => (X.hp (H ++ [(0, .cells true (wv (rndN kC (wseq b 48) [g0, g1, g2, g3, g4, g5, g6, g7] i)))])).fr [.cells true (wv (wseq b 48) ++ List.replicate 0 (.int .u32 0))] none) (fun i => i ≤ 64) ?_ 0 (Nat.zero_le _)
      intro i hi ih
      by_cases hlt : i < 64
      · obtain ⟨a0, a1, a2, a3, a4, a5, a6, a7, ha⟩ := len8 (rndN_len (ks := kC) (ws := wseq b 48) h8 i)
        have pk : (wv kC)[i]? = some (.int .u32 (kC.getD i 0)) := part_w0 (show i < kC.length from hlt)
        have pw : (wv (wseq b 48) ++ List.replicate 0 (SV.int .u32 0))[i]? = some (.int .u32 ((wseq b 48).getD i 0)) := part_w (by omega)
        simp (maxDischargeDepth := 8) only [go_sem, hw, show decide ((i : Int) < 64) = true from decide_eq_true (by omega), lvs_wv, inB_nat hlt, inB_8, Nat.mul_one, pk, pw, ha, r_digest_right, show X.hb ≤ H.length by omega, wSucc (show i ≤ 4611686018427387903 by omega), set_last]
        rw [KL_keep _ _ _ (by simp (maxDischargeDepth := 8) only [go_sem, hw, lvs_wv])]
        simp (maxDischargeDepth := 8) only [go_sem]
        have e1 : rndN kC (wseq b 48) [g0, g1, g2, g3, g4, g5, g6, g7] (i + 1) = rnd (kC.getD i 0) ((wseq b 48).getD i 0) [a0, a1, a2, a3, a4, a5, a6, a7] := by rw [← ha]; rfl
        have := ih (i + 1) (by omega) (by omega)
        rw [e1] at this
        exact this
      · have ei : i = 64 := by omega
        subst ei
        clear ih
        have v8 := rndN_len (ks := kC) (ws := wseq b 48) h8 64
        simp (maxDischargeDepth := 8) only [go_sem, hw, lvs_wv]
        rw [KL_keep _ _ _ (by simp (maxDischargeDepth := 8) only [go_sem, hw, lvs_wv])]
        simp (maxDischargeDepth := 8) only [go_sem]
        generalize hV : rndN kC (wseq b 48) [g0, g1, g2, g3, g4, g5, g6, g7] 64 = V at *
        have hfin : X.hp (H.set k (0, .cells true (wv (blk [g0, g1, g2, g3, g4, g5, g6, g7] b) ++ R))) = X.hp (H.set k (0, .cells true (wv (addN [g0, g1, g2, g3, g4, g5, g6, g7] V 8) ++ R))) := by rw [← hV]; rfl
        rw [hfin]
        clear hfin hV
        generalize hG : [g0, g1, g2, g3, g4, g5, g6, g7] = G at *
        rw [show H ++ [(0, SBk.cells true (wv V))] = H.set k (0, .cells true (wv (addN G V 0) ++ R)) ++ [(0, SBk.cells true (wv V))] by rw [show addN G V 0 = G from rfl, set_same hk]]
        refine KL_indE (α := Nat) (fun i => 8 - i) (fun i => [(0, .ptr (.hp k 0) 0), (9, .ptr (.hp H.length 0) 0), (146, .int .i64 (i : Int))]) (fun i => (X.hp (H.set k (0, .cells true (wv (addN G V i) ++ R)) ++ [(0, SBk.cells true (wv V))])).fr [.cells true (wv (wseq b 48) ++ List.replicate 0 (.int .u32 0))] none) (fun i => i ≤ 8) ?_ 0 (Nat.zero_le _)
        intro i hi ih
        have a8 := addN_len (v := V) h8 i
        by_cases hlt : i < 8
        · have pg : (wv (addN G V i) ++ R)[i]? = some (.int .u32 ((addN G V i).getD i 0)) := part_w (by omega)
          have pv : (wv V)[i]? = some (.int .u32 (V.getD i 0)) := part_w0 (by omega)
          have hz : i + 1 ≤ (wv (addN G V i) ++ R).length := by simp [a8]; omega
          simp (maxDischargeDepth := 8) only [go_sem, hw, show decide ((i : Int) < 8) = true from decide_eq_true (by omega), inB_nat hlt, Nat.mul_one, hget_sa hkl, hget_sl, pg, pv, hhb, hz, set_sa hkl, wSucc (show i ≤ 4611686018427387903 by omega)]
          rw [KL_keep _ _ _ (by simp (maxDischargeDepth := 8) only [go_sem, hw])]
          simp (maxDischargeDepth := 8) only [go_sem]
          have es := set_w (l := addN G V i) (R := R) (i := i) (x := w32 ((addN G V i).getD i 0 + V.getD i 0)) (by omega)
          rw [es]
          exact ih (i + 1) (by omega) (by omega)
        · have ei : i = 8 := by omega
          subst ei
          simp (maxDischargeDepth := 8) only [go_sem, hw, hH, hHl]
          rw [List.take_append_of_le_length (by simp), List.take_of_length_le (by simp)]
theorem r_words_blockS {X : Mem} {H : Hp} {b0 b1 : SBk} {hs : List Int} {v : SV} {b : List Int} (h8 : hs.length = 8) (hl : LiesD (Fl.int .u8) (Hm H) v b) (hb : 64 ≤ b.length) (hw : X.Wf) (hhb : X.hb ≤ H.length) : RF tb f_digest_words_block [.ptr (.st X.dep 2) 0, v] ((X.hp H).fr [b0, b1, .cells true (wv hs)] none) = some (.tup [], (X.hp H).fr [b0, b1, .cells true (wv (blk hs b))] none) := by
  rw [RF_go t_digest_words_block _ _ rfl, push_fr]
  simp (maxDischargeDepth := 8) only [go_sem, s_digest_words_block, hw]
  rw [KL_keep _ _ _ (by simp (maxDischargeDepth := 8) only [go_sem, (LiesD.isSl hl).l, hw])]
  simp (maxDischargeDepth := 8) only [go_sem]
  refine KL_indE (α := Nat) (fun i => 16 - i) (fun i => [(0, .ptr (.st X.dep 2) 0), (1, v), (4, .ptr (.st (X.dep + 1) 0) 0), (17, .int .i64 (i : Int))]) (fun i => ((X.hp H).fr [b0, b1, .cells true (wv hs)] none).fr [.cells true (wv (wfst b i) ++ List.replicate (64 - i) (.int .u32 0))] none) (fun i => i ≤ 16) ?_ 0 (Nat.zero_le _)
  intro i hi ih
  simp (maxDischargeDepth := 8) only [go_sem, hw, (LiesD.isSl hl).l]
  by_cases hlt : i < 16
  · simp (maxDischargeDepth := 8) only [go_sem, show decide ((i : Int) < 16) = true from decide_eq_true (by omega), hw]
    have h4 : IntKind.wrap .i64 (4 * (i : Int)) = ((4 * i : Nat) : Int) := by rw [wS (by omega) (by omega)]; omega
    have hd := hl.dropKl (lo := 4 * i) (by omega)
    have e64 : 64 - i = (63 - i) + 1 := by omega
    have hlen : (wv (wfst b i)).length = i := by rw [List.length_map, wfst_len]
    have hz2 : i + 1 ≤ (wfst b i).length + (63 - i + 1) := by rw [wfst_len]; omega
    simp (maxDischargeDepth := 8) only [go_sem, h4, hl.dropK (lo := 4 * i) (by omega), r_digest_high4 hd (by rw [List.length_drop]; omega), hw, inB_nat (show i < 64 by omega), e64, List.length_append, List.length_map, List.length_replicate, Nat.mul_one, hz2, wSucc (show i ≤ 4611686018427387903 by omega)]
    rw [KL_keep _ _ _ (by simp (maxDischargeDepth := 8) only [go_sem, (LiesD.isSl hl).l, hw])]
    simp (maxDischargeDepth := 8) only [go_sem]
    have es := set_end (l := wfst b i) (n := 63 - i) (x := word4 (b.drop (4 * i)) 0)
    rw [wfst_len] at es
    rw [es]
    have := ih (i + 1) (by omega) (by omega)
    rw [wfst_succ, show 64 - (i + 1) = 63 - i by omega, show word4 b (4 * i) = word4 (b.drop (4 * i)) 0 by simp only [word4, List.getD_eq_getElem?_getD, List.getElem?_drop, Nat.add_zero, Nat.add_assoc]] at this
    exact this
  · have ei : i = 16 := by omega
    subst ei
    clear ih
    simp (maxDischargeDepth := 8) only [go_sem, hw]
    rw [KL_keep _ _ _ (by simp (maxDischargeDepth := 8) only [go_sem, hw])]
    simp (maxDischargeDepth := 8) only [go_sem]
    refine KL_indE (α := Nat) (fun i => 48 - i) (fun i => [(0, .ptr (.st X.dep 2) 0), (4, .ptr (.st (X.dep + 1) 0) 0), (6, .int .i64 ((16 + i : Nat) : Int))]) (fun i => ((X.hp H).fr [b0, b1, .cells true (wv hs)] none).fr [.cells true (wv (wseq b i) ++ List.replicate (48 - i) (.int .u32 0))] none) (fun i => i ≤ 48) ?_ 0 (Nat.zero_le _)
    intro i hi ih
    simp (maxDischargeDepth := 8) only [go_sem, hw]
    by_cases hlt : i < 48
    · simp (maxDischargeDepth := 8) only [go_sem, show decide (((16 + i : Nat) : Int) < 64) = true from decide_eq_true (by omega), hw]
      have hwl := wseq_len b i
      have s15 : IntKind.wrap .i64 (((16 + i : Nat) : Int) - 15) = ((i + 1 : Nat) : Int) := by rw [wS (by omega) (by omega)]; omega
      have s2 : IntKind.wrap .i64 (((16 + i : Nat) : Int) - 2) = ((14 + i : Nat) : Int) := by rw [wS (by omega) (by omega)]; omega
      have s16 : IntKind.wrap .i64 (((16 + i : Nat) : Int) - 16) = ((i : Nat) : Int) := by rw [wS (by omega) (by omega)]; omega
      have s7 : IntKind.wrap .i64 (((16 + i : Nat) : Int) - 7) = ((9 + i : Nat) : Int) := by rw [wS (by omega) (by omega)]; omega
      have e48 : 48 - i = (47 - i) + 1 := by omega
      have hz3 : 16 + i + 1 ≤ (wv (wseq b i) ++ List.replicate (47 - i + 1) (SV.int .u32 0)).length := by simp only [List.length_append, List.length_map, List.length_replicate]; omega
      have pw : ∀ {j : Nat}, j < 16 + i → (wv (wseq b i) ++ List.replicate (47 - i + 1) (SV.int .u32 0))[j]? = some (.int .u32 ((wseq b i).getD j 0)) := fun hj => part_w (by omega)
      simp (maxDischargeDepth := 8) only [go_sem, s15, s2, s16, s7, e48, inB_nat (show i + 1 < 64 by omega), inB_nat (show 14 + i < 64 by omega), inB_nat (show i < 64 by omega), inB_nat (show 9 + i < 64 by omega), inB_nat (show 16 + i < 64 by omega), Nat.mul_one, Int.toNat_natCast, pw (j := i + 1) (by omega), pw (j := 14 + i) (by omega), pw (j := i) (by omega), pw (j := 9 + i) (by omega), hw, hz3, r_digest_right, wSucc (show 16 + i ≤ 4611686018427387903 by omega)]
      rw [KL_keep _ _ _ (by simp (maxDischargeDepth := 8) only [go_sem, hw])]
      simp (maxDischargeDepth := 8) only [go_sem]
      have es := set_end (l := wseq b i) (n := 47 - i) (x := wx (wseq b i) (16 + i))
      rw [hwl] at es
      have ew : wx (wseq b i) (16 + i) = IntKind.wrap .u32 (IntKind.wrap .u32 (IntKind.wrap .u32 ((wseq b i).getD i 0 + (wseq b i).getD (9 + i) 0) + xr32 (xr32 (rr 7 ((wseq b i).getD (i + 1) 0)) (rr 18 ((wseq b i).getD (i + 1) 0))) (((wseq b i).getD (i + 1) 0).fdiv (2 ^ min 3 32))) + xr32 (xr32 (rr 17 ((wseq b i).getD (14 + i) 0)) (rr 19 ((wseq b i).getD (14 + i) 0))) (((wseq b i).getD (14 + i) 0).fdiv (2 ^ min 10 32))) := by
        unfold wx
        rw [show 16 + i - 16 = i by omega, show 16 + i - 7 = 9 + i by omega, show 16 + i - 15 = i + 1 by omega, show 16 + i - 2 = 14 + i by omega]
        rfl
      rw [← ew, es]
      have := ih (i + 1) (by omega) (by omega)
      rw [show 48 - (i + 1) = 47 - i by omega, show 16 + (i + 1) = 16 + i + 1 by omega] at this
      exact this
    · have ei : i = 48 := by omega
      subst ei
      clear ih
      obtain ⟨g0, g1, g2, g3, g4, g5, g6, g7, rfl⟩ := len8 h8
      simp (maxDischargeDepth := 8) only [go_sem, hw, r_digest_constants, hhb]
      rw [KL_keep _ _ _ (by simp (maxDischargeDepth := 8) only [go_sem, hw, lvs_wv])]
      simp (maxDischargeDepth := 8) only [go_sem, set_last]
      have hwl := wseq_len b 48
      refine KL_indE (α := Nat) (fun i => 64 - i) (fun i => [(0, .ptr (.st X.dep 2) 0), (4, .ptr (.st (X.dep + 1) 0) 0), (9, .ptr (.hp H.length 0) 0), (72, .agg (wv kC)), (73, .int .i64 (i : Int))]) (fun i => ((X.hp (H ++ [(0, .cells true (wv (rndN kC (wseq b 48) [g0, g1, g2, g3, g4, g5, g6, g7] i)))])).fr [b0, b1, .cells true (wv [g0, g1, g2, g3, g4, g5, g6, g7])] none).fr [.cells true (wv (wseq b 48) ++ List.replicate 0 (.int .u32 0))] none) (fun i => i ≤ 64) ?_ 0 (Nat.zero_le _)
      intro i hi ih
      by_cases hlt : i < 64
      · obtain ⟨a0, a1, a2, a3, a4, a5, a6, a7, ha⟩ := len8 (rndN_len (ks := kC) (ws := wseq b 48) h8 i)
        have pk : (wv kC)[i]? = some (.int .u32 (kC.getD i 0)) := part_w0 (show i < kC.length from hlt)
        have pw : (wv (wseq b 48) ++ List.replicate 0 (SV.int .u32 0))[i]? = some (.int .u32 ((wseq b 48).getD i 0)) := part_w (by omega)
        simp (maxDischargeDepth := 8) only [go_sem, hw, show decide ((i : Int) < 64) = true from decide_eq_true (by omega), lvs_wv, inB_nat hlt, inB_8, Nat.mul_one, pk, pw, ha, r_digest_right, show X.hb ≤ H.length by omega, wSucc (show i ≤ 4611686018427387903 by omega), set_last]
        rw [KL_keep _ _ _ (by simp (maxDischargeDepth := 8) only [go_sem, hw, lvs_wv])]
        simp (maxDischargeDepth := 8) only [go_sem]
        have e1 : rndN kC (wseq b 48) [g0, g1, g2, g3, g4, g5, g6, g7] (i + 1) = rnd (kC.getD i 0) ((wseq b 48).getD i 0) [a0, a1, a2, a3, a4, a5, a6, a7] := by rw [← ha]; rfl
        have := ih (i + 1) (by omega) (by omega)
        rw [e1] at this
        exact this
      · have ei : i = 64 := by omega
        subst ei
        clear ih
        have v8 := rndN_len (ks := kC) (ws := wseq b 48) h8 64
        simp (maxDischargeDepth := 8) only [go_sem, hw, lvs_wv]
        rw [KL_keep _ _ _ (by simp (maxDischargeDepth := 8) only [go_sem, hw, lvs_wv])]
        simp (maxDischargeDepth := 8) only [go_sem]
        generalize hV : rndN kC (wseq b 48) [g0, g1, g2, g3, g4, g5, g6, g7] 64 = V at *
        have hfin : blk [g0, g1, g2, g3, g4, g5, g6, g7] b = addN [g0, g1, g2, g3, g4, g5, g6, g7] V 8 := by rw [← hV]; rfl
        rw [hfin]
        clear hfin hV
        generalize hG : [g0, g1, g2, g3, g4, g5, g6, g7] = G at *
        rw [show [SV.int .u32 g0, SV.int .u32 g1, SV.int .u32 g2, SV.int .u32 g3, SV.int .u32 g4, SV.int .u32 g5, SV.int .u32 g6, SV.int .u32 g7] = wv (addN G V 0) by rw [← hG]; rfl]
        refine KL_indE (α := Nat) (fun i => 8 - i) (fun i => [(0, .ptr (.st X.dep 2) 0), (9, .ptr (.hp H.length 0) 0), (146, .int .i64 (i : Int))]) (fun i => ((X.hp (H ++ [(0, SBk.cells true (wv V))])).fr [b0, b1, .cells true (wv (addN G V i))] none).fr [.cells true (wv (wseq b 48) ++ List.replicate 0 (.int .u32 0))] none) (fun i => i ≤ 8) ?_ 0 (Nat.zero_le _)
        intro i hi ih
        have a8 := addN_len (v := V) h8 i
        by_cases hlt : i < 8
        · have pg : (wv (addN G V i))[i]? = some (.int .u32 ((addN G V i).getD i 0)) := part_w0 (by omega)
          have pv : (wv V)[i]? = some (.int .u32 (V.getD i 0)) := part_w0 (by omega)
          have hz : i + 1 ≤ (wv (addN G V i)).length := by simp [a8]; omega
          simp (maxDischargeDepth := 8) only [go_sem, hw, show decide ((i : Int) < 8) = true from decide_eq_true (by omega), inB_nat hlt, Nat.mul_one, pg, pv, hhb, hz, wSucc (show i ≤ 4611686018427387903 by omega)]
          rw [KL_keep _ _ _ (by simp (maxDischargeDepth := 8) only [go_sem, hw])]
          simp (maxDischargeDepth := 8) only [go_sem]
          have es := set_w (l := addN G V i) (R := []) (i := i) (x := w32 ((addN G V i).getD i 0 + V.getD i 0)) (by omega)
          rw [List.append_nil, List.append_nil] at es
          rw [es]
          exact ih (i + 1) (by omega) (by omega)
        · have ei : i = 8 := by omega
          subst ei
          simp (maxDischargeDepth := 8) only [go_sem, hw]
          have hb := back_HR (X := X) (H := H) (H' := H ++ [(0, SBk.cells true (wv V))]) [b0, b1, SBk.cells true (wv (addN G V 0))] [b0, b1, SBk.cells true (wv (addN G V 8))] [SBk.cells true (wv (wseq b 48) ++ List.replicate 0 (SV.int IntKind.u32 0))] [] none none none none 0
          simp only [Nat.zero_le, escOk_none, and_self, if_true, List.take_left] at hb
          exact congrArg (fun z => some (SV.tup [], z)) hb
/-- The cells of a hash. -/
abbrev hashC (hs : List Int) (rv : SV) (n : Int) : List SV := wv hs ++ [rv, .int .i64 n, .bool true]
abbrev bF : Fl Int := Fl.int .u8
def capN (v : SV) : Prop := ∀ b off n c z, v = .sl b off n c z → c = none
theorem app_capN {esz bytes : Nat} {z : List SV} {aw : Bk → Bool} {x y v : SV} {m m' : Mem} (h : appV esz bytes z aw x y m = some (v, m')) (hx : lenv y = some 0 → capN x) : capN v := by
  unfold appV at h
  split at h
  · rename_i sl n h1 h2
    rw [Option.bind_eq_some_iff] at h
    obtain ⟨new, _, h⟩ := h
    split at h
    · rename_i hn; cases h; exact hx (by rw [h2, hn])
    · split at h
      · split at h
        · rw [Option.map_eq_some_iff] at h
          obtain ⟨q, _, h⟩ := h
          cases h; intro _ _ _ _ _ e; cases e; rfl
        · rw [Option.map_eq_some_iff] at h
          obtain ⟨q, _, h⟩ := h
          cases h; intro _ _ _ _ _ e; cases e; rfl
        · rw [Option.bind_eq_some_iff] at h
          obtain ⟨old, _, h⟩ := h
          split at h
          · split at h
            · rw [Option.map_eq_some_iff] at h
              obtain ⟨q, _, h⟩ := h
              cases h; intro _ _ _ _ _ e; cases e; rfl
            · split at h
              · split at h
                · cases h; intro _ _ _ _ _ e; cases e; rfl
                · cases h
              · cases h
          · cases h
        · cases h
      · cases h
  · cases h
theorem app_b {H : Hp} {v y : SV} {l k : List Int} (hv : Own bF H v l) (hy : LiesD bF (Hm H) y k) (hc : k = [] → capN v) (hb : l.length + k.length ≤ 1000000) (B : Nat) (hm : ∀ i ∈ slFp v, B ≤ i) :
    ∃ v' H', (∀ Y : Mem, Y.heap = H → Y.hb = B → appV 1 1 [.int .u8 0] (fun _ => true) v y Y = some (v', Y.hp H')) ∧ Own bF H' v' (l ++ k) ∧ Keep (slFp v) H H' ∧ (∀ i ∈ slFp v', i ∈ slFp v ∨ H.length ≤ i) ∧ capN v' ∧ H'.length ≤ H.length + 1 := by
  obtain ⟨v', H2, ha, o2, k2, f2, -, l2⟩ := app_ownY (kF_even .u8) (by decide) (kF_ok .u8) (kF_hx .u8) hv hy (bytes := 1) (by simp only [two48]; omega) (by simp only [two48]; omega) { Hm H with hb := B } hm
  have ha' := fun Y h1 h2 => ha [.int .u8 0] rfl (fun _ => true) (hv.aw (fun _ _ => rfl)) Y h1 h2
  exact ⟨v', H2, ha', o2, k2, f2, app_capN (ha' { Hm H with hb := B } rfl rfl) (fun h => hc (by rw [Lies.lenv hy] at h; simpa using h)), l2⟩
theorem _root_.Go.Sh.LiesD.takeK {k : IntKind} {m : Mem} {v : SV} {l : List Int} (h : LiesD (Fl.int k) m v l) (hc : capN v) {hi : Nat} (hl : hi ≤ l.length) : sliceV 1 v none (some (hi : Int)) none = some (takeV hi v) ∧ LiesD (Fl.int k) m (takeV hi v) (l.take hi) := by
  refine ⟨Lies.takeS h hl (fun b off cap z e => by cases hc _ _ _ _ _ e; exact hl), ?_⟩
  have := Lies.take h hl
  unfold LiesD
  rw [kF_flat] at this ⊢
  rw [show hi * (Fl.int k).sz = hi from Nat.mul_one hi] at this
  rw [List.map_take, List.length_take, Nat.min_eq_left hl]
  exact this
theorem dropV_fp (z n : Nat) (v : SV) : slFp (dropV z n v) = slFp v := by
  cases v with
  | sl b off len cap q => cases b <;> rfl
  | _ => rfl
theorem dropV_cap {z n : Nat} {v : SV} (h : capN v) : capN (dropV z n v) := by
  cases v with
  | sl b off len cap q =>
    cases h _ _ _ _ _ rfl
    intro _ _ _ _ _ e; cases e; rfl
  | _ => exact h
theorem own_dropK {k : IntKind} {H : Hp} {v : SV} {l : List Int} (h : Own (Fl.int k) H v l) {lo : Nat} (hl : lo ≤ l.length) : Own (Fl.int k) H (dropV 1 lo v) (l.drop lo) := by
  rcases h with ⟨rfl, rfl⟩ | ⟨rfl, rfl⟩ | ⟨n, w, off, cap, c, rfl, h1, h2, h3⟩
  · exact .inl ⟨rfl, by simp⟩
  · exact .inr (.inl ⟨rfl, by simp⟩)
  · rw [show (Fl.int k).sz = 1 from rfl] at h2 h3
    refine .inr (.inr ⟨n, w, off + lo * 1, _, c, by rw [List.length_drop]; rfl, h1, ?_, ?_⟩)
    · rw [List.length_drop, show (Fl.int k).sz = 1 from rfl]; omega
    · rw [kF_flat] at h3 ⊢
      rw [List.map_drop, ← h3, List.drop_take, List.drop_drop, List.length_drop, show (Fl.int k).sz = 1 from rfl, Nat.mul_one, Nat.mul_one, Nat.mul_one]
theorem esc_step {e : Option Nat} {k : Nat} (he : e = none ∨ e = some k) (c : Prop) [Decidable c] : ∃ e', (if c then e else escMin e (some k)) = e' ∧ (e' = none ∨ e' = some k) ∧ (e' = none → c ∧ e = none) := by
  by_cases h : c
  · rw [if_pos h]; exact ⟨e, rfl, he, fun h' => ⟨h, h'⟩⟩
  · rw [if_neg h]
    refine ⟨_, rfl, .inr ?_, ?_⟩
    · rcases he with rfl | rfl
      · rfl
      · simp [escMin]
    · intro h'
      rcases he with rfl | rfl
      · cases h'
      · simp [escMin] at h'
/-- Whole blocks taken in. -/
def eatN : Nat → List Int → List Int → List Int × List Int
  | 0, h, r => (h, r)
  | n + 1, h, r => if 64 ≤ r.length then eatN n (blk h (r.take 64)) (r.drop 64) else (h, r)
def eat (h r : List Int) : List Int × List Int := eatN (r.length / 64) h r
theorem eat_go {h r : List Int} (hr : 64 ≤ r.length) : eat h r = eat (blk h (r.take 64)) (r.drop 64) := by
  unfold eat
  rw [List.length_drop, show r.length / 64 = (r.length - 64) / 64 + 1 by omega, eatN, if_pos hr]
theorem eat_stop {h r : List Int} (hr : r.length < 64) : eat h r = (h, r) := by
  unfold eat
  rw [Nat.div_eq_of_lt hr]; rfl
theorem eat_len {r h : List Int} (e8 : h.length = 8) : (eat h r).1.length = 8 := by
  have key : ∀ n (h r : List Int), h.length = 8 → (eatN n h r).1.length = 8 := by
    intro n
    induction n with
    | zero => exact fun h r e => e
    | succ n ih =>
      intro h r e
      simp only [eatN]
      split
      · exact ih _ _ (blk_len e)
      · exact e
  exact key _ _ _ e8
theorem r_digest_New {X : Mem} (hw : X.Wf) (hhb : X.hb ≤ X.hl) : RF tb f_digest_New [] X = some (.ptr (.hp X.hl 0) 0, X.hp (X.heap ++ [(0, .cells true (hashC hC .nils 0))])) := by
  rw [RF_go t_digest_New _ _ rfl, push_hp]
  generalize hH : X.heap = H at *
  have hHl : X.hl = H.length := by rw [← hH]; rfl
  have l8 : (wv hC).length = 8 := rfl
  have f1 : (wv hC ++ [SV.nils, SV.int IntKind.i64 0, SV.bool false]).length = 11 := rfl
  have f2 : List.take 10 (wv hC ++ [SV.nils, SV.int IntKind.i64 0, SV.bool false]) ++ [SV.bool true] ++ List.drop 11 (wv hC ++ [SV.nils, SV.int IntKind.i64 0, SV.bool false]) = hashC hC .nils 0 := rfl
  have f3 : (hashC hC .nils 0).length = 11 := rfl
  have f4 : (hashC hC .nils 0).all (SV.cell 0 0) = true := rfl
  simp (maxDischargeDepth := 8) only [go_sem, s_digest_New, hw, hH, r_digest_begun, l8, f1, f2, f3, f4]
  rw [hHl, if_neg (by omega)]
theorem r_Hash_Write {X : Mem} {k : Nat} {hs : List Int} {rv : SV} {n : Int} {v : SV} {r b : List Int} (hk : hget X.heap k 0 = some (.cells true (hashC hs rv n))) (h8 : hs.length = 8) (hr : Own bF X.heap rv r) (hkr : k ∉ slFp rv) (hrl : r.length ≤ 100000) (hbl : b.length ≤ 100000) (hl : LiesD bF (Hm X.heap) v b) (hkv : k ∉ slFp v) (hcap : capN rv) (hw : X.Wf) (hhb : X.hb ≤ k) (hrb : ∀ i ∈ slFp rv, X.hb ≤ i) :
    ∃ H' rv' u, RF tb f_digest_Hash_Write [.ptr (.hp k 0) 0, v] X = some (.tup [], (X.hp H').es (escMin X.esc u)) ∧ (u = none ∨ u = some k) ∧ hget H' k 0 = some (.cells true (hashC (eat hs (r ++ b)).1 rv' (IntKind.wrap .i64 (n + b.length)))) ∧ Own bF H' rv' (eat hs (r ++ b)).2 ∧ capN rv' ∧ (∀ i ∈ slFp rv', i ∈ slFp rv ∨ X.hl ≤ i) ∧ Keep (k :: slFp rv) X.heap H' := by
  obtain ⟨g0, g1, g2, g3, g4, g5, g6, g7, rfl⟩ := len8 h8
  rw [RF_go t_digest_Hash_Write _ _ rfl, push_hp]
  generalize hH : X.heap = H at *
  have hHl : X.hl = H.length := by rw [← hH]; rfl
  have hkl := hget_lt hk
  obtain ⟨N, hN⟩ : ∃ N, IntKind.wrap .i64 (n + (b.length : Int)) = N := ⟨_, rfl⟩
  rw [hN]
  obtain ⟨H1, hH1⟩ : ∃ H1, H.set k (0, .cells true (hashC [g0, g1, g2, g3, g4, g5, g6, g7] rv N)) = H1 := ⟨_, rfl⟩
  have k1 : Keep [k] H H1 := by rw [← hH1]; exact Keep.set (by simp) _ _
  have l1 : H1.length = H.length := by rw [← hH1, List.length_set]
  have g1' : hget H1 k 0 = some (.cells true (hashC [g0, g1, g2, g3, g4, g5, g6, g7] rv N)) := by rw [← hH1, hget_set_eq hkl, if_pos rfl]
  have hr1 : Own bF H1 rv r := hr.keep k1 (fun i hi hc => by simp at hc; subst hc; exact hkr hi)
  have hv1 : LiesD bF (Hm H1) v b := hl.keep k1 (fun i hi hc => by simp at hc; subst hc; exact hkv hi)
  obtain ⟨rv1, H2, ha, o2, k2, f2, cap1, -⟩ := app_b hr1 hv1 (fun _ => hcap) (by omega) X.hb hrb
  have hH1' : H.set k (0, SBk.cells true [SV.int .u32 g0, SV.int .u32 g1, SV.int .u32 g2, SV.int .u32 g3, SV.int .u32 g4, SV.int .u32 g5, SV.int .u32 g6, SV.int .u32 g7, rv, .int .i64 N, .bool true]) = H1 := hH1
  simp (maxDischargeDepth := 8) only [go_sem, s_digest_Hash_Write, hw, hH, hk, hashC, (LiesD.isSl hl).l, hhb, hl.len, hN, hH1', g1']
  rw [ha ((X.hp H1).fr [] none) rfl rfl]
  have hk2 := k2.get g1' hkr
  have hkl2 := hget_lt hk2
  obtain ⟨H3, hH3⟩ : ∃ H3, H2.set k (0, .cells true (hashC [g0, g1, g2, g3, g4, g5, g6, g7] rv1 N)) = H3 := ⟨_, rfl⟩
  have hH3' : H2.set k (0, SBk.cells true [SV.int .u32 g0, SV.int .u32 g1, SV.int .u32 g2, SV.int .u32 g3, SV.int .u32 g4, SV.int .u32 g5, SV.int .u32 g6, SV.int .u32 g7, rv1, .int .i64 N, .bool true]) = H3 := hH3
  have s2 := o2.isSl (kF_even .u8)
  simp (maxDischargeDepth := 8) only [go_sem, hw, hk2, hhb, hashC, s2.l, s2.c, s2.k, s2.o, hH3']
  have hkl1 : H2.length ≤ H3.length := by rw [← hH3, List.length_set]; exact Nat.le_refl _
  have k3 : Keep [k] H2 H3 := by rw [← hH3]; exact Keep.set (by simp) _ _
  have kr1 : k ∉ slFp rv1 := fun hc => by rcases f2 k hc with h | h; exact hkr h; omega
  have hk3 : hget H3 k 0 = some (.cells true (hashC [g0, g1, g2, g3, g4, g5, g6, g7] rv1 N)) := by rw [← hH3, hget_set_eq hkl2, if_pos rfl]
  have o3 : Own bF H3 rv1 (r ++ b) := o2.keep k3 (fun i hi hc => by simp at hc; subst hc; exact kr1 hi)
  obtain ⟨e1, he1, he2, he3⟩ := esc_step (k := k) (.inl rfl : (none : Option Nat) = none ∨ none = some k) (rv1.hx ≤ k)
  rw [show escMin none (some k) = some k from rfl] at he1
  rw [he1]
  rw [KL_keep _ _ _ (by simp (maxDischargeDepth := 8) only [go_sem])]
  simp (maxDischargeDepth := 8) only [go_sem]
  have hx : ∀ {w : SV} {c : Nat}, w.hx ≤ c → ∀ i ∈ slFp w, i < c := fun h i hi => by have := hx_fp hi; omega
  generalize hG : [g0, g1, g2, g3, g4, g5, g6, g7] = G at *
  refine KL_ind (R := fun z => ∃ H' rv' u, fin [] X z = some (.tup [], (X.hp H').es (escMin X.esc u)) ∧ (u = none ∨ u = some k) ∧ hget H' k 0 = some (.cells true (hashC (eat G (r ++ b)).1 rv' N)) ∧ Own bF H' rv' (eat G (r ++ b)).2 ∧ capN rv' ∧ (∀ i ∈ slFp rv', i ∈ slFp rv ∨ X.hl ≤ i) ∧ Keep (k :: slFp rv) H H')
    (α := List Int × List Int × SV × Hp × Option Nat) (fun q => q.2.1.length) (fun q => [(0, .ptr (.hp k 0) 0)]) (fun q => (X.hp q.2.2.2.1).fr [] q.2.2.2.2)
    (fun q => q.1.length = 8 ∧ hget q.2.2.2.1 k 0 = some (.cells true (hashC q.1 q.2.2.1 N)) ∧ Own bF q.2.2.2.1 q.2.2.1 q.2.1 ∧ capN q.2.2.1 ∧ (∀ i ∈ slFp q.2.2.1, i ∈ slFp rv ∨ H.length ≤ i) ∧ Keep (k :: slFp rv) H q.2.2.2.1 ∧ k ∉ slFp q.2.2.1 ∧ (q.2.2.2.2 = none ∨ q.2.2.2.2 = some k) ∧ (q.2.2.2.2 = none → ∀ i ∈ slFp q.2.2.1, i < H.length) ∧ eat q.1 q.2.1 = eat G (r ++ b)) ?_ (G, r ++ b, rv1, H3, e1)
    ⟨h8, hk3, o3, cap1, fun i hi => (f2 i hi).imp id (fun h => by omega), ((k1.weak (by simp)).trans' k2 (by simp +contextual)).trans' k3 (by simp), kr1, he2, fun h i hi => by have := hx (he3 h).1 i hi; omega, rfl⟩
  clear he1 he2 he3 o3 hk3 k3 hkl1 s2 o2 k2 ha f2 cap1 hH3 hH3' hk2 hkl2 g1' k1
  rintro ⟨hs, rr, w, Hc, e⟩ ⟨q8, qk, qo, qc, qf, qK, qn, qe, qe2, qE⟩ ih
  dsimp only at q8 qk qo qc qf qK qn qe qe2 qE ⊢
  obtain ⟨a0, a1, a2, a3, a4, a5, a6, a7, rfl⟩ := len8 q8
  have lo := qo.lies (kF_even .u8)
  by_cases hlt : 64 ≤ rr.length
  · obtain ⟨t1, t2⟩ := lo.takeK qc hlt
    rw [show ((64 : Nat) : Int) = 64 from rfl] at t1
    have d1 := lo.dropK (lo := 64) hlt
    rw [show ((64 : Nat) : Int) = 64 from rfl] at d1
    simp (maxDischargeDepth := 8) only [go_sem, hw, qk, hashC, lo.len, show decide ((64 : Int) ≤ (rr.length : Int)) = true from decide_eq_true (by omega), t1, (LiesD.isSl t2).l]
    have hkc := hget_lt qk
    generalize hz : RF tb f_digest_words_block _ _ = z
    obtain rfl := hz.symm.trans (r_words_block (X := (X.hp Hc).fr [] e) (R := [w, .int .i64 N, .bool true]) qk q8 t2 (by rw [List.length_take]; omega) (by simp (maxDischargeDepth := 8) only [go_sem, hw]) hhb)
    obtain ⟨H4, hH4⟩ : ∃ H4, Hc.set k (0, .cells true (wv (blk [a0, a1, a2, a3, a4, a5, a6, a7] (rr.take 64)) ++ [w, .int .i64 N, .bool true])) = H4 := ⟨_, rfl⟩
    rw [eat_go hlt] at qE
    have b8 := blk_len (b := rr.take 64) q8
    have m4 : hget H4 k 0 = some (.cells true (wv (blk [a0, a1, a2, a3, a4, a5, a6, a7] (rr.take 64)) ++ [w, .int .i64 N, .bool true])) := by rw [← hH4, hget_set_eq hkc, if_pos rfl]
    generalize blk [a0, a1, a2, a3, a4, a5, a6, a7] (rr.take 64) = B at *
    have k4 : Keep [k] Hc H4 := by rw [← hH4]; exact Keep.set (by simp) _ _
    have l4 : H4.length = Hc.length := by rw [← hH4, List.length_set]
    have qo4 : Own bF H4 w rr := qo.keep k4 (fun i hi hc => by simp at hc; subst hc; exact qn hi)
    have od := own_dropK qo4 hlt
    obtain ⟨c0, c1, c2, c3, c4, c5, c6, c7, rfl⟩ := len8 b8
    have sd := od.isSl (kF_even .u8)
    have hH4' : Hc.set k (0, SBk.cells true [SV.int .u32 c0, SV.int .u32 c1, SV.int .u32 c2, SV.int .u32 c3, SV.int .u32 c4, SV.int .u32 c5, SV.int .u32 c6, SV.int .u32 c7, w, .int .i64 N, .bool true]) = H4 := hH4
    simp (maxDischargeDepth := 8) only [go_sem, hw, hH4', m4, d1, hhb, sd.l, sd.c, sd.k, sd.o]
    obtain ⟨H5, hH5⟩ : ∃ H5, H4.set k (0, .cells true (hashC [c0, c1, c2, c3, c4, c5, c6, c7] (dropV 1 64 w) N)) = H5 := ⟨_, rfl⟩
    have hH5' : H4.set k (0, SBk.cells true [.int .u32 c0, .int .u32 c1, .int .u32 c2, .int .u32 c3, .int .u32 c4, .int .u32 c5, .int .u32 c6, .int .u32 c7, dropV 1 64 w, .int .i64 N, .bool true]) = H5 := hH5
    obtain ⟨e1, he1, he2, he3⟩ := esc_step (k := k) qe ((dropV 1 64 w).hx ≤ k)
    rw [hH5', he1]
    rw [KL_keep _ _ _ (by simp (maxDischargeDepth := 8) only [go_sem])]
    simp (maxDischargeDepth := 8) only [go_sem]
    have k5 : Keep [k] H4 H5 := by rw [← hH5]; exact Keep.set (by simp) _ _
    have m5 : hget H5 k 0 = some (.cells true (hashC [c0, c1, c2, c3, c4, c5, c6, c7] (dropV 1 64 w) N)) := by rw [← hH5, hget_set_eq (by omega), if_pos rfl]
    have fp : slFp (dropV 1 64 w) = slFp w := dropV_fp _ _ _
    refine ih ([c0, c1, c2, c3, c4, c5, c6, c7], rr.drop 64, dropV 1 64 w, H5, e1) ⟨rfl, m5, od.keep k5 (fun i hi hc => by simp at hc; subst hc; rw [fp] at hi; exact qn hi), dropV_cap qc, by rw [fp]; exact qf, (qK.trans' k4 (by simp)).trans' k5 (by simp), by rw [fp]; exact qn, he2, fun h i hi => by have := hx (he3 h).1 i hi; omega, ?_⟩ (by show (rr.drop 64).length < rr.length; rw [List.length_drop]; omega)
    exact qE
  · simp (maxDischargeDepth := 8) only [go_sem, hw, qk, hashC, lo.len, show decide ((64 : Int) ≤ (rr.length : Int)) = false from decide_eq_false (by omega)]
    have qE' := eat_stop (h := [a0, a1, a2, a3, a4, a5, a6, a7]) (show rr.length < 64 by omega)
    rw [qE] at qE'
    rw [qE']
    have hfk : ∀ {i : Nat}, i < X.hl ∨ escOk X.hl e = false → (if escOk X.hl e = true then List.take X.hl Hc else Hc)[i]? = Hc[i]? := fun h => fin_keep0 h
    refine ⟨_, w, e, rfl, qe, ?_, qo.congr fun i hi => hfk ?_, qc, fun i hi => (qf i hi).imp id (fun h => by omega), ?_⟩
    · rw [hget_congr (hfk (.inl (by omega)))]; exact qk
    · rcases qe with h | h
      · exact .inl (by have := qe2 h i hi; omega)
      · exact .inr (by rw [h]; exact escOk_some (by omega))
    · have := (show Keep (k :: slFp rv) X.heap Hc by rw [hH]; exact qK).back0 (u := e)
      rw [hH] at this
      exact this
abbrev w8 (x : Int) : Int := IntKind.wrap .u8 x
abbrev w64 (x : Int) : Int := IntKind.wrap .u64 x
abbrev bv (l : List Int) : List SV := l.map (SV.int .u8)
def padZ (n : Nat) : Nat := (119 - n % 64) % 64
def lenB (n : Int) : List Int := (List.range 8).map fun j => w8 ((w64 (w64 n * 2 ^ 3)).fdiv (2 ^ (56 - 8 * j)))
def padB (r : List Int) (n : Int) : List Int := (r ++ [128] ++ List.replicate (padZ r.length) 0) ++ lenB n
def outB (l : List Int) : List Int := l.flatMap fun x => [w8 (x.fdiv (2 ^ 24)), w8 (x.fdiv (2 ^ 16)), w8 (x.fdiv (2 ^ 8)), w8 x]
def sumB (hs r : List Int) (n : Int) : List Int := outB (eat hs (padB r n)).1
theorem take_keep {H H' : Hp} (h : Keep [] H H') : H'.take H.length = H := by
  apply List.ext_getElem?
  intro i
  rw [List.getElem?_take]
  split
  · rename_i hi; exact h.2 i hi (by simp)
  · rw [List.getElem?_eq_none (by omega)]
theorem app_1 {H : Hp} {v : SV} {l : List Int} (hv : Own bF H v l) (hl : l.length ≤ 200000) (x : Int) (B : Nat) (hm : ∀ i ∈ slFp v, B ≤ i) :
    ∃ v' H', (∀ Y : Mem, Y.heap = H ++ [(0, SBk.cells true [SV.int .u8 x])] → Y.hb = B → appV 1 1 [.int .u8 0] (fun _ => true) v (.sl (.hp H.length 0) 0 1 (some 1) 1) Y = some (v', Y.hp H')) ∧ Own bF H' v' (l ++ [x]) ∧ capN v' ∧ Keep (slFp v) H H' ∧ (∀ i ∈ slFp v', i ∈ slFp v ∨ H.length ≤ i) := by
  have d1 : LiesD bF (Hm (H ++ [(0, SBk.cells true [SV.int .u8 x])])) (.sl (.hp H.length 0) 0 1 (some 1) 1) [x] := (own_new (kF_even .u8) H [x] (some 1)).lies (kF_even .u8)
  obtain ⟨v2, H2, a2, o2, k2, f2, c2, -⟩ := app_b (hv.keep (Keep.app [] _ _) (by simp)) d1 (fun h => by simp at h) (by simp; omega) B hm
  exact ⟨v2, H2, a2, o2, c2, (Keep.app _ _ _).trans k2, fun i hi => (f2 i hi).imp id (fun h => by simp at h; omega)⟩
theorem inB_32 : inB 0 32 = true ∧ inB 1 32 = true ∧ inB 2 32 = true ∧ inB 3 32 = true ∧ inB 4 32 = true ∧ inB 5 32 = true ∧ inB 6 32 = true ∧ inB 7 32 = true ∧ inB 8 32 = true ∧ inB 9 32 = true ∧ inB 10 32 = true ∧ inB 11 32 = true ∧ inB 12 32 = true ∧ inB 13 32 = true ∧ inB 14 32 = true ∧ inB 15 32 = true ∧ inB 16 32 = true ∧ inB 17 32 = true ∧ inB 18 32 = true ∧ inB 19 32 = true ∧ inB 20 32 = true ∧ inB 21 32 = true ∧ inB 22 32 = true ∧ inB 23 32 = true ∧ inB 24 32 = true ∧ inB 25 32 = true ∧ inB 26 32 = true ∧ inB 27 32 = true ∧ inB 28 32 = true ∧ inB 29 32 = true ∧ inB 30 32 = true ∧ inB 31 32 = true := by decide
theorem wLit : IntKind.wrap .i64 0 = 0 ∧ IntKind.wrap .i64 1 = 1 ∧ IntKind.wrap .i64 2 = 2 ∧ IntKind.wrap .i64 3 = 3 ∧ IntKind.wrap .i64 4 = 4 ∧ IntKind.wrap .i64 5 = 5 ∧ IntKind.wrap .i64 6 = 6 ∧ IntKind.wrap .i64 7 = 7 ∧ IntKind.wrap .i64 8 = 8 ∧ IntKind.wrap .i64 9 = 9 ∧ IntKind.wrap .i64 10 = 10 ∧ IntKind.wrap .i64 11 = 11 ∧ IntKind.wrap .i64 12 = 12 ∧ IntKind.wrap .i64 13 = 13 ∧ IntKind.wrap .i64 14 = 14 ∧ IntKind.wrap .i64 15 = 15 ∧ IntKind.wrap .i64 16 = 16 ∧ IntKind.wrap .i64 17 = 17 ∧ IntKind.wrap .i64 18 = 18 ∧ IntKind.wrap .i64 19 = 19 ∧ IntKind.wrap .i64 20 = 20 ∧ IntKind.wrap .i64 21 = 21 ∧ IntKind.wrap .i64 22 = 22 ∧ IntKind.wrap .i64 23 = 23 ∧ IntKind.wrap .i64 24 = 24 ∧ IntKind.wrap .i64 25 = 25 ∧ IntKind.wrap .i64 26 = 26 ∧ IntKind.wrap .i64 27 = 27 ∧ IntKind.wrap .i64 28 = 28 ∧ IntKind.wrap .i64 29 = 29 ∧ IntKind.wrap .i64 30 = 30 ∧ IntKind.wrap .i64 31 = 31 ∧ IntKind.wrap .i64 32 = 32 := by decide
theorem tmod64 {m : Nat} : ((m : Int).tmod 64) = ((m % 64 : Nat) : Int) := by
  rw [Int.tmod_eq_emod_of_nonneg (by omega)]; rfl
theorem r_Hash_Sum {X : Mem} {k : Nat} {hs : List Int} {rv : SV} {n : Int} {r : List Int} (hk : hget X.heap k 0 = some (.cells true (hashC hs rv n))) (h8 : hs.length = 8) (hr : Own bF X.heap rv r) (hrl : r.length ≤ 100000) (hw : X.Wf) (hhb : X.hb ≤ X.hl) : RF tb f_digest_Hash_Sum [.ptr (.hp k 0) 0] X = some (.agg (bv (sumB hs r n)), X) := by
  obtain ⟨g0, g1, g2, g3, g4, g5, g6, g7, rfl⟩ := len8 h8
  rw [RF_go t_digest_Hash_Sum _ _ rfl, push_hp]
  generalize hH : X.heap = H at *
  have hHl : X.hl = H.length := by rw [← hH]; rfl
  have hkl := hget_lt hk
  obtain ⟨v1, H1, a1, o1, k1, f1, s1⟩ := app_fresh (kF_even .u8) (by decide) (kF_ok .u8) (kF_hx .u8) (hr.lies (kF_even .u8)) (bytes := 1) (by simp only [two48]; omega) (by simp only [two48]; omega) X (by omega)
  have a1' : ∀ f e, appV 1 1 [.int .u8 0] (fun _ => true) (.sl (.hp H.length 0) 0 0 (some 0) 1) rv ((X.hp (H ++ [(0, .cells true [])])).fr f e) = some (v1, (X.hp H1).fr f e) := fun f e => a1 [.int .u8 0] rfl (fun _ => true) (fun _ _ => rfl) f e
  have hk0 : hget (H ++ [(0, SBk.cells true [])]) k 0 = some (.cells true (hashC [g0, g1, g2, g3, g4, g5, g6, g7] rv n)) := hget_app_some _ hk
  obtain ⟨Z, hZ⟩ : ∃ Z, bv (List.replicate 32 0) = Z := ⟨_, rfl⟩
  have hZ' : [SV.int .u8 0, SV.int .u8 0, SV.int .u8 0, SV.int .u8 0, SV.int .u8 0, SV.int .u8 0, SV.int .u8 0, SV.int .u8 0, SV.int .u8 0, SV.int .u8 0, SV.int .u8 0, SV.int .u8 0, SV.int .u8 0, SV.int .u8 0, SV.int .u8 0, SV.int .u8 0, SV.int .u8 0, SV.int .u8 0, SV.int .u8 0, SV.int .u8 0, SV.int .u8 0, SV.int .u8 0, SV.int .u8 0, SV.int .u8 0, SV.int .u8 0, SV.int .u8 0, SV.int .u8 0, SV.int .u8 0, SV.int .u8 0, SV.int .u8 0, SV.int .u8 0, SV.int .u8 0] = Z := hZ
  simp (maxDischargeDepth := 8) only [go_sem, s_digest_Hash_Sum, hw, hH, hk, hk0, hashC, a1']
  rw [hZ']
  have d1 : LiesD bF (Hm (H1 ++ [(0, SBk.cells true [SV.int .u8 128])])) (.sl (.hp H1.length 0) 0 1 (some 1) 1) [128] := (own_new (kF_even .u8) H1 [128] (some 1)).lies (kF_even .u8)
  obtain ⟨v2, H2, a2, o2, k2, f2, c2, e2⟩ := app_b (o1.keep (Keep.app [] _ _) (by simp)) d1 (fun h => by simp at h) (by simp; omega) X.hb (fun i hi => by have := f1 i hi; omega)
  simp (maxDischargeDepth := 8) only [go_sem, hw, a2]
  have v8 : ∀ {x : Int} {W : Hp}, LiesD bF (Hm (W ++ [(0, SBk.cells true [SV.int .u8 x])])) (.sl (.hp W.length 0) 0 1 (some 1) 1) [x] := fun {x W} => (own_new (kF_even .u8) W [x] (some 1)).lies (kF_even .u8)
  rw [KL_keep _ _ _ (by simp (maxDischargeDepth := 8) only [go_sem, hw, (o2.isSl (kF_even .u8)).l])]
  simp (maxDischargeDepth := 8) only [go_sem]
  have kk2 : Keep [] H H2 := (k1.trans (Keep.app [] _ _)).trans' k2 (fun i hi hl => by have := f1 i hi; omega)
  have ff2 : ∀ i ∈ slFp v2, H.length ≤ i := fun i hi => by
    rcases f2 i hi with h | h
    · exact f1 i h
    · simp at h; have := k1.1; omega
  have c2' := c2
  clear a1' a2 d1 f2 c2 k1 f1 s1 o1 e2 k2
  -- zeros
  have hz := Nat.mod_lt r.length (show 0 < 64 by decide)
  refine KL_indE (α := Nat × SV × Hp) (fun q => padZ r.length - q.1) (fun q => [(0, .ptr (.hp k 0) 0), (2, .ptr (.st X.dep 0) 0), (3, .ptr (.st X.dep 1) 0), (4, .ptr (.st X.dep 2) 0), (5, q.2.1)])
    (fun q => (X.hp q.2.2).fr [.cells true Z, .cells true Z, .cells true (wv [g0, g1, g2, g3, g4, g5, g6, g7])] none)
    (fun q => q.1 ≤ padZ r.length ∧ Own bF q.2.2 q.2.1 (r ++ [128] ++ List.replicate q.1 0) ∧ capN q.2.1 ∧ Keep [] H q.2.2 ∧ ∀ i ∈ slFp q.2.1, H.length ≤ i) ?_ (0, v2, H2) ⟨Nat.zero_le _, by simpa using o2, c2', kk2, ff2⟩
  rintro ⟨j, v, Hc⟩ ⟨hj, ow, hc, kH, ff⟩ ih
  dsimp only at hj ow hc kH ff ⊢
  obtain ⟨L, hL⟩ : ∃ L, r ++ [128] ++ List.replicate j 0 = L := ⟨_, rfl⟩
  have hLl : L.length = r.length + 1 + j := by rw [← hL]; simp; omega
  rw [hL] at ow
  have lo := ow.lies (kF_even .u8)
  have hkk := kH.1
  by_cases hjz : j < padZ r.length
  · obtain ⟨v', H', a', o', c', k', f'⟩ := app_1 ow (by unfold padZ at hjz; omega) 0 X.hb (fun i hi => by have := ff i hi; omega)
    simp (maxDischargeDepth := 8) only [go_sem, hw, lo.len, hLl, tmod64, show ((((r.length + 1 + j) % 64 : Nat) : Int) != 56) = true from bne_iff_ne.2 (by unfold padZ at hjz; omega), (ow.isSl (kF_even .u8)).l, a']
    rw [KL_keep _ _ _ (by simp (maxDischargeDepth := 8) only [go_sem, hw, (o'.isSl (kF_even .u8)).l])]
    simp (maxDischargeDepth := 8) only [go_sem]
    refine ih (j + 1, v', H') ⟨by dsimp only; omega, ?_, c', kH.trans' k' (fun i hi hl => by have := ff i hi; omega), fun i hi => ?_⟩ (by dsimp only; omega)
    · dsimp only; rw [List.replicate_succ', ← List.append_assoc, hL]; exact o'
    · rcases f' i hi with h | h
      · exact ff i h
      · omega
  · have ej : j = padZ r.length := by omega
    simp (maxDischargeDepth := 8) only [go_sem, hw, lo.len, hLl, tmod64, show ((((r.length + 1 + j) % 64 : Nat) : Int) != 56) = false from bne_eq_false_iff_eq.2 (by rw [ej]; unfold padZ; omega), (ow.isSl (kF_even .u8)).l]
    rw [KL_keep _ _ _ (by simp (maxDischargeDepth := 8) only [go_sem, hw, (ow.isSl (kF_even .u8)).l])]
    simp (maxDischargeDepth := 8) only [go_sem]
    rw [ej] at hL
    have hpad : padB r n = L ++ lenB n := by unfold padB; rw [hL]
    clear ih
    refine KL_indE (α := Nat × SV × Hp) (fun q => 8 - q.1) (fun q => [(0, .ptr (.hp k 0) 0), (2, .ptr (.st X.dep 0) 0), (3, .ptr (.st X.dep 1) 0), (4, .ptr (.st X.dep 2) 0), (5, q.2.1), (6, .int .i64 (56 - 8 * (q.1 : Int)))])
      (fun q => (X.hp q.2.2).fr [.cells true Z, .cells true Z, .cells true (wv [g0, g1, g2, g3, g4, g5, g6, g7])] none)
      (fun q => q.1 ≤ 8 ∧ Own bF q.2.2 q.2.1 (L ++ (lenB n).take q.1) ∧ capN q.2.1 ∧ Keep [] H q.2.2 ∧ ∀ i ∈ slFp q.2.1, H.length ≤ i) ?_ (0, v, Hc) ⟨Nat.zero_le _, by simpa using ow, hc, kH, ff⟩
    clear ow hc kH ff lo hkk v Hc
    rintro ⟨i, v, Hc⟩ ⟨hi, ow, hc, kH, ff⟩ ih
    dsimp only at hi ow hc kH ff ⊢
    have l8 : (lenB n).length = 8 := by simp [lenB]
    have hkk := kH.1
    have hkc := kH.get hk (by simp)
    by_cases h8i : i < 8
    · obtain ⟨v', H', a', o', c', k', f'⟩ := app_1 ow (by rw [List.length_append, List.length_take]; unfold padZ at ej; omega) (w8 ((w64 (w64 n * 2 ^ 3)).fdiv (2 ^ (56 - 8 * i)))) X.hb (fun i hi => by have := ff i hi; omega)
      have es : IntKind.wrap .i64 (56 - 8 * (i : Int) - 8) = 56 - 8 * ((i + 1 : Nat) : Int) := by rw [wS (by omega) (by omega)]; omega
      have eg : (56 - 8 * (i : Int)).toNat = 56 - 8 * i := by omega
      have em : min (56 - 8 * i) 64 = 56 - 8 * i := by omega
      simp (maxDischargeDepth := 8) only [go_sem, hw, hkc, hashC, show decide ((0 : Int) ≤ 56 - 8 * (i : Int)) = true from decide_eq_true (by omega), show (56 - 8 * (i : Int) < 0) = False from eq_false (by omega), (ow.isSl (kF_even .u8)).l, eg, em, show min 3 64 = 3 from rfl, a', es]
      rw [KL_keep _ _ _ (by simp (maxDischargeDepth := 8) only [go_sem, hw, (o'.isSl (kF_even .u8)).l])]
      simp (maxDischargeDepth := 8) only [go_sem]
      refine ih (i + 1, v', H') ⟨by dsimp only; omega, ?_, c', kH.trans' k' (fun i hi hl => by have := ff i hi; omega), fun i hi => ?_⟩ (by dsimp only; omega)
      · dsimp only
        rw [List.append_assoc] at o'
        rw [List.take_add_one, show (lenB n)[i]? = some (w8 ((w64 (w64 n * 2 ^ 3)).fdiv (2 ^ (56 - 8 * i)))) by unfold lenB; rw [List.getElem?_map, List.getElem?_range h8i]; rfl]
        exact o'
      · rcases f' i hi with h | h
        · exact ff i h
        · omega
    · have ei : i = 8 := by omega
      subst ei
      clear ih
      rw [List.take_of_length_le (by omega), ← hpad] at ow
      simp (maxDischargeDepth := 8) only [go_sem, hw, show decide ((-8 : Int) ≥ 0) = false from by decide, (ow.isSl (kF_even .u8)).l]
      rw [KL_keep _ _ _ (by simp (maxDischargeDepth := 8) only [go_sem, hw, (ow.isSl (kF_even .u8)).l])]
      simp (maxDischargeDepth := 8) only [go_sem]
      generalize hG : [g0, g1, g2, g3, g4, g5, g6, g7] = G at *
      rw [show [SV.int .u32 g0, SV.int .u32 g1, SV.int .u32 g2, SV.int .u32 g3, SV.int .u32 g4, SV.int .u32 g5, SV.int .u32 g6, SV.int .u32 g7] = wv G by rw [← hG]; rfl]
      have hpl : (padB r n).length % 64 = 0 := by rw [hpad, List.length_append, l8, hLl, ej]; unfold padZ; omega
      refine KL_indE (α := List Int × List Int × SV × Hp) (fun q => q.2.1.length) (fun q => [(2, .ptr (.st X.dep 0) 0), (3, .ptr (.st X.dep 1) 0), (4, .ptr (.st X.dep 2) 0), (5, q.2.2.1)])
        (fun q => (X.hp q.2.2.2).fr [.cells true Z, .cells true Z, .cells true (wv q.1)] none)
        (fun q => q.1.length = 8 ∧ Own bF q.2.2.2 q.2.2.1 q.2.1 ∧ capN q.2.2.1 ∧ Keep [] H q.2.2.2 ∧ q.2.1.length % 64 = 0 ∧ eat q.1 q.2.1 = eat G (padB r n)) ?_ (G, padB r n, v, Hc) ⟨h8, ow, hc, kH, hpl, rfl⟩
      clear ow hc kH ff hkk v Hc hpl hkc
      rintro ⟨hs, e, v, Hc⟩ ⟨q8, ow, hc, kH, qm, qE⟩ ih
      dsimp only at q8 ow hc kH qm qE ⊢
      have lo := ow.lies (kF_even .u8)
      by_cases hlt : 64 ≤ e.length
      · obtain ⟨t1, t2⟩ := lo.takeK hc hlt
        rw [show ((64 : Nat) : Int) = 64 from rfl] at t1
        have d1 := lo.dropK (lo := 64) hlt
        rw [show ((64 : Nat) : Int) = 64 from rfl] at d1
        have od := own_dropK ow hlt
        simp (maxDischargeDepth := 8) only [go_sem, hw, lo.len, show decide ((0 : Int) < (e.length : Int)) = true from decide_eq_true (by omega), t1, (LiesD.isSl t2).l, (ow.isSl (kF_even .u8)).l]
        generalize hz : RF tb f_digest_words_block _ _ = z
        obtain rfl := hz.symm.trans (r_words_blockS (X := X) (b0 := .cells true Z) (b1 := .cells true Z) q8 t2 (by rw [List.length_take]; omega) hw (by have := kH.1; omega))
        simp (maxDischargeDepth := 8) only [go_sem, hw, d1]
        rw [KL_keep _ _ _ (by simp (maxDischargeDepth := 8) only [go_sem, hw, (od.isSl (kF_even .u8)).l])]
        simp (maxDischargeDepth := 8) only [go_sem]
        rw [eat_go hlt] at qE
        exact ih (blk hs (e.take 64), e.drop 64, dropV 1 64 v, Hc) ⟨blk_len q8, od, dropV_cap hc, kH, by dsimp only; rw [List.length_drop]; omega, qE⟩ (by dsimp only; rw [List.length_drop]; omega)
      · have e0 : e = [] := List.length_eq_zero_iff.1 (by omega)
        subst e0
        rw [eat_stop (by simp)] at qE
        have hsum : sumB G r n = outB hs := by unfold sumB; rw [← qE]
        rw [hsum]
        obtain ⟨a0, a1, a2, a3, a4, a5, a6, a7, rfl⟩ := len8 q8
        rw [← hZ']
        simp (maxDischargeDepth := 8) only [go_sem, hw, lo.len, (ow.isSl (kF_even .u8)).l, show decide ((0 : Int) > 0) = false from by decide]
        rw [KL_keep _ _ _ (by simp (maxDischargeDepth := 8) only [go_sem, hw, lvs_wv])]
        simp (maxDischargeDepth := 8) only [go_sem]
        rw [KL_go]
        simp (maxDischargeDepth := 8) only [go_sem, hw, inB_8, inB_32, wLit]
        rw [KL_keep _ _ _ (by simp (maxDischargeDepth := 8) only [go_sem, hw, lvs_wv])]
        simp (maxDischargeDepth := 8) only [go_sem]
        rw [KL_go]
        simp (maxDischargeDepth := 8) only [go_sem, hw, inB_8, inB_32, wLit]
        rw [KL_keep _ _ _ (by simp (maxDischargeDepth := 8) only [go_sem, hw, lvs_wv])]
        simp (maxDischargeDepth := 8) only [go_sem]
        rw [KL_go]
        simp (maxDischargeDepth := 8) only [go_sem, hw, inB_8, inB_32, wLit]
        rw [KL_keep _ _ _ (by simp (maxDischargeDepth := 8) only [go_sem, hw, lvs_wv])]
        simp (maxDischargeDepth := 8) only [go_sem]
        rw [KL_go]
        simp (maxDischargeDepth := 8) only [go_sem, hw, inB_8, inB_32, wLit]
        rw [KL_keep _ _ _ (by simp (maxDischargeDepth := 8) only [go_sem, hw, lvs_wv])]
        simp (maxDischargeDepth := 8) only [go_sem]
        rw [KL_go]
        simp (maxDischargeDepth := 8) only [go_sem, hw, inB_8, inB_32, wLit]
        rw [KL_keep _ _ _ (by simp (maxDischargeDepth := 8) only [go_sem, hw, lvs_wv])]
        simp (maxDischargeDepth := 8) only [go_sem]
        rw [KL_go]
        simp (maxDischargeDepth := 8) only [go_sem, hw, inB_8, inB_32, wLit]
        rw [KL_keep _ _ _ (by simp (maxDischargeDepth := 8) only [go_sem, hw, lvs_wv])]
        simp (maxDischargeDepth := 8) only [go_sem]
        rw [KL_go]
        simp (maxDischargeDepth := 8) only [go_sem, hw, inB_8, inB_32, wLit]
        rw [KL_keep _ _ _ (by simp (maxDischargeDepth := 8) only [go_sem, hw, lvs_wv])]
        simp (maxDischargeDepth := 8) only [go_sem]
        rw [KL_go]
        simp (maxDischargeDepth := 8) only [go_sem, hw, inB_8, inB_32, wLit]
        rw [KL_keep _ _ _ (by simp (maxDischargeDepth := 8) only [go_sem, hw, lvs_wv])]
        simp (maxDischargeDepth := 8) only [go_sem]
        rw [KL_go]
        simp (maxDischargeDepth := 8) only [go_sem, hw, inB_8, inB_32, wLit]
        rw [hHl, take_keep kH, ← hH, hp_self]
        rfl
def shaP (b : List Int) : List Int := sumB (eat hC b).1 (eat hC b).2 (IntKind.wrap .i64 (b.length : Int))
theorem eatN_le : ∀ n (h r : List Int), (eatN n h r).2.length ≤ r.length := by
  intro n
  induction n with
  | zero => exact fun h r => Nat.le_refl _
  | succ n ih =>
    intro h r
    simp only [eatN]
    split
    · exact Nat.le_trans (ih _ _) (by rw [List.length_drop]; omega)
    · exact Nat.le_refl _
theorem outB_len {l : List Int} (h : l.length = 8) : (outB l).length = 32 := by
  obtain ⟨a0, a1, a2, a3, a4, a5, a6, a7, rfl⟩ := len8 h; rfl
theorem sumB_len {hs r : List Int} {n : Int} (h : hs.length = 8) : (sumB hs r n).length = 32 := outB_len (eat_len h)
theorem w8_in (x : Int) : 0 ≤ w8 x ∧ w8 x < 256 := by
  show 0 ≤ x % 256 ∧ x % 256 < 256
  omega
theorem outB_in {l : List Int} {c : Int} (h : c ∈ outB l) : 0 ≤ c ∧ c < 256 := by
  unfold outB at h
  rw [List.mem_flatMap] at h
  obtain ⟨x, -, h⟩ := h
  simp only [List.mem_cons, List.not_mem_nil, or_false] at h
  rcases h with rfl | rfl | rfl | rfl <;> exact w8_in _
theorem bv_all (a b : Nat) (l : List Int) : (bv l).all (SV.cell a b) = true := by
  induction l with
  | nil => rfl
  | cons x l ih => simp only [bv, List.map_cons, List.all_cons, Bool.and_eq_true]; exact ⟨rfl, ih⟩
theorem bv_hxs (l : List Int) : SV.hxs (bv l) = 0 := by
  induction l with
  | nil => rfl
  | cons x l ih => simp only [bv, List.map_cons, SV.hxs, SV.hx]; rw [show SV.hxs (l.map (SV.int .u8)) = 0 from ih]; rfl
theorem bv_lvs (a b : Nat) (l : List Int) : SV.lvs a b (bv l) = true := by
  induction l with
  | nil => rfl
  | cons x l ih => simp only [bv, List.map_cons, SV.lvs, SV.lv, Bool.true_and]; exact ih
theorem r_digest_Of {X : Mem} {v : SV} {b : List Int} (hl : LiesD bF (Hm X.heap) v b) (hbl : b.length ≤ 100000) (hw : X.Wf) (hhb : X.hb ≤ X.hl) : ∃ H' u, RF tb f_digest_Of [v] X = some (.agg (bv (shaP b)), (X.hp H').es (escMin X.esc u)) ∧ Keep [] X.heap H' ∧ (u = none ∨ u = some X.hl) := by
  rw [RF_go t_digest_Of _ _ rfl, push_hp]
  generalize hH : X.heap = H at *
  have hHl : X.hl = H.length := by rw [← hH]; rfl
  have hk0 : hget (H ++ [(0, SBk.cells true (hashC hC SV.nils 0))]) H.length 0 = some (.cells true (hashC hC .nils 0)) := by rw [hget_new0]; rfl
  simp (maxDischargeDepth := 8) only [go_sem, s_digest_Of, hw, hH, r_digest_New, show X.hb ≤ H.length by omega]
  generalize hz : RF tb f_digest_Hash_Write _ _ = z
  obtain ⟨H2, rv2, u, rfl, e2, g2, o2, c2, f2, k2⟩ := hz ▸ r_Hash_Write (X := (X.hp (H ++ [(0, SBk.cells true (hashC hC SV.nils 0))])).fr [SBk.cells true [SV.int .u8 0, SV.int .u8 0, SV.int .u8 0, SV.int .u8 0, SV.int .u8 0, SV.int .u8 0, SV.int .u8 0, SV.int .u8 0, SV.int .u8 0, SV.int .u8 0, SV.int .u8 0, SV.int .u8 0, SV.int .u8 0, SV.int .u8 0, SV.int .u8 0, SV.int .u8 0, SV.int .u8 0, SV.int .u8 0, SV.int .u8 0, SV.int .u8 0, SV.int .u8 0, SV.int .u8 0, SV.int .u8 0, SV.int .u8 0, SV.int .u8 0, SV.int .u8 0, SV.int .u8 0, SV.int .u8 0, SV.int .u8 0, SV.int .u8 0, SV.int .u8 0, SV.int .u8 0]] none) (k := H.length) (rv := .nils) (r := []) hk0 rfl (Own.nil _) (by simp [slFp]) (by simp) hbl (hl.keep (Keep.app [] _ _) (by simp)) (fun h => by have := hl.fp _ h; omega) (by intro _ _ _ _ _ e; cases e) (fr_wf (hp_wf hw) _ _) (show X.hb ≤ H.length by omega) (by simp [slFp])
  rw [List.nil_append] at g2 o2
  rw [show IntKind.wrap .i64 ((0 : Int) + (b.length : Int)) = IntKind.wrap .i64 (b.length : Int) by rw [Int.zero_add]] at g2
  have hS := fun f e => r_Hash_Sum (X := (X.hp H2).fr f e) g2 (eat_len rfl) o2 (Nat.le_trans (eatN_le _ _ _) hbl) (fr_wf (hp_wf hw) f e) (by have h9 : H.length + 1 ≤ H2.length := Nat.le_trans (by simp) (show (H ++ [(0, SBk.cells true (hashC hC SV.nils 0))]).length ≤ H2.length from k2.1); show X.hb ≤ H2.length; omega)
  have sl := sumB_len (r := (eat hC b).2) (n := IntKind.wrap .i64 (b.length : Int)) (eat_len (r := b) (show hC.length = 8 from rfl))
  rw [show sumB (eat hC b).1 (eat hC b).2 (IntKind.wrap .i64 (b.length : Int)) = shaP b from rfl] at hS sl
  generalize shaP b = D at *
  have dl : (bv D).length = 32 := by rw [List.length_map, sl]
  simp (maxDischargeDepth := 8) only [go_sem, hw, hS, dl, bv_all, bv_hxs, bv_lvs]
  rw [List.take_of_length_le (by omega), bv_hxs, bv_lvs, if_pos rfl]
  have kk : Keep [] X.heap H2 := by rw [hH]; exact (Keep.app _ _ _).trans' k2 (fun m hm hl => by simp [slFp] at hm; omega)
  have := kk.back (h := 0) (u := u)
  rw [hH] at this
  exact ⟨_, u, rfl, this, by rw [hHl]; exact e2⟩
def hexC (i : Int) : Int := if i < 10 then 48 + i else 87 + i
def textB (d : List Int) : List Int := d.flatMap fun c => [hexC (c / 16), hexC (c % 16)]
def textS (d : List Int) : ByteArray := ⟨((textB d).map fun n => UInt8.ofNat n.toNat).toArray⟩
theorem u8s_bv (l : List Int) : u8s (bv l) = some (l.map fun n => UInt8.ofNat n.toNat) := by
  induction l with
  | nil => rfl
  | cons x l ih => simp only [bv, List.map_cons, u8s]; rw [show u8s (l.map (SV.int .u8)) = _ from ih]; rfl
abbrev hexA : ByteArray := ⟨#[48, 49, 50, 51, 52, 53, 54, 55, 56, 57, 97, 98, 99, 100, 101, 102]⟩
theorem hex_at {i : Int} (h : 0 ≤ i ∧ i < 16) : (hexA.data.toList[i.toNat]?).map (fun b => SV.int .u8 b.toNat) = some (.int .u8 (hexC i)) := by
  obtain ⟨k, rfl⟩ : ∃ k : Fin 16, i = (k.val : Int) := ⟨⟨i.toNat, by omega⟩, by show i = ((i.toNat : Nat) : Int); omega⟩
  have key : ∀ k : Fin 16, (hexA.data.toList[((k.val : Int)).toNat]?).map (fun b => (b.toNat : Int)) = some (hexC k.val) := by decide
  have := key k
  rw [Option.map_eq_some_iff] at this ⊢
  obtain ⟨b, h1, h2⟩ := this
  exact ⟨b, h1, by rw [h2]⟩
theorem low4 {c : Int} (h : 0 ≤ c ∧ c < 256) : ibits .and .u8 c 15 = some (c % 16) := by
  obtain ⟨k, rfl⟩ : ∃ k : Fin 256, c = (k.val : Int) := ⟨⟨c.toNat, by omega⟩, by show c = ((c.toNat : Nat) : Int); omega⟩
  revert k; decide
def idxSV : SV → SV → Option SV
  | .str s, .int _ i => if 0 ≤ i then (s.data.toList[i.toNat]?).map fun b => .int .u8 b.toNat else none
  | _, _ => none
theorem pev_idxS {x i : Opd} {fr : Fr} : pev (.idxS x i) fr = idxSV (x.ev fr) (i.ev fr) := by
  simp only [pev, idxSV]
  cases x.ev fr <;> cases i.ev fr <;> rfl
theorem idx_hex {k : IntKind} {i : Int} (h : 0 ≤ i ∧ i < 16) : idxSV (.str ⟨#[48, 49, 50, 51, 52, 53, 54, 55, 56, 57, 97, 98, 99, 100, 101, 102]⟩) (.int k i) = some (.int .u8 (hexC i)) := by
  show (if 0 ≤ i then _ else _) = _
  rw [if_pos h.1]
  exact hex_at h
def b2sV (v : SV) (m : Mem) : Option (SV × Mem) := match v with
  | .nils => some (.str .empty, m)
  | .sl b off n c z => (m.elems 1 n (.sl b off n c z)).bind fun l => (u8s l).map fun bs => (.str ⟨bs.toArray⟩, m)
  | _ => none
theorem RP_b2s (F : Tbl) {m : Mem} {fr : Fr} {x : Opd} : RP F (.b2s x) fr m = b2sV (x.ev fr) m := by
  rw [RP_mem _ _ _ rfl]
  unfold memop b2sV
  dsimp only
  cases x.ev fr <;> rfl
theorem b2s_lies {m X : Mem} {v : SV} {l : List Int} (h : LiesD bF m v l) (hn : l ≠ []) (hX : HpSub m X) : b2sV v X = some (.str ⟨(l.map fun n => UInt8.ofNat n.toNat).toArray⟩, X) := by
  have he := (LiesD.sub h hX).elems
  rw [kF_flat] at he
  rcases h.2 with ⟨rfl, h0⟩ | ⟨rfl, h0⟩ | ⟨k, w, off, cap, c, rw, rfl, _⟩
  · exact absurd (List.length_eq_zero_iff.1 h0) hn
  · exact absurd (List.length_eq_zero_iff.1 h0) hn
  · simp only [b2sV]
    rw [show Mem.elems X 1 l.length _ = some (bv l) from he]
    simp only [Option.bind_some, u8s_bv, Option.map_some]
attribute [go_sem] pev_idxS RP_b2s
theorem r_digest_Text {X : Mem} {d : List Int} (h32 : d.length = 32) (hd : ∀ c ∈ d, 0 ≤ c ∧ c < 256) (hw : X.Wf) (hhb : X.hb ≤ X.hl) : ∃ H' u, RF tb f_digest_Text [.agg (bv d)] X = some (.str (textS d), (X.hp H').es (escMin X.esc u)) ∧ Keep [] X.heap H' ∧ (u = none ∨ u = some X.hl) := by
  rw [RF_go t_digest_Text _ _ rfl, push_hp]
  generalize hH : X.heap = H at *
  have hHl : X.hl = H.length := by rw [← hH]; rfl
  have dl : (bv d).length = 32 := by rw [List.length_map, h32]
  simp (maxDischargeDepth := 8) only [go_sem, s_digest_Text, hw, hH, dl, bv_all, bv_hxs]
  rw [List.take_of_length_le (by omega)]
  refine KL_ind (R := fun z => ∃ H' u, fin [SRes.t 2] X z = some (.str (textS d), (X.hp H').es (escMin X.esc u)) ∧ Keep [] H H' ∧ (u = none ∨ u = some X.hl))
    (α := Nat × SV × Hp) (fun q => 32 - q.1) (fun q => [(3, q.2.1), (6, .agg (bv d)), (7, .int .i64 (q.1 : Int))]) (fun q => (X.hp q.2.2).fr [.cells true (bv d)] none)
    (fun q => q.1 ≤ 32 ∧ Own bF q.2.2 q.2.1 (textB (d.take q.1)) ∧ Keep [] H q.2.2 ∧ (∀ i ∈ slFp q.2.1, H.length ≤ i) ∧ capN q.2.1) ?_ (0, .nils, H) ⟨Nat.zero_le _, Own.nil _, Keep.refl _ _, by simp [slFp], by intro _ _ _ _ _ e; cases e⟩
  rintro ⟨i, v, Hc⟩ ⟨hi, ow, kH, ff, hc⟩ ih
  dsimp only at hi ow kH ff hc ⊢
  have hkk := kH.1
  have so := ow.isSl (kF_even .u8)
  have lo := ow.lies (kF_even .u8)
  have tl : ∀ l : List Int, (textB l).length = 2 * l.length := fun l => by
    induction l with
    | nil => rfl
    | cons x l ih => simp only [textB, List.flatMap_cons, List.length_append, List.length_cons, List.length_nil] at ih ⊢; omega
  by_cases hlt : i < 32
  · obtain ⟨c, hcd⟩ : ∃ c, d[i]? = some c := ⟨d[i]'(by omega), List.getElem?_eq_getElem (by omega)⟩
    have hcr := hd c (List.mem_of_getElem? hcd)
    have hcb : (bv d)[i]? = some (.int .u8 c) := by rw [List.getElem?_map, hcd]; rfl
    have q1 := hex_at (i := c / 16) (by omega)
    have q2 := hex_at (i := c % 16) (by omega)
    have d2 : LiesD bF (Hm (Hc ++ [(0, SBk.cells true [SV.int .u8 (hexC (c / 16)), SV.int .u8 (hexC (c % 16))])])) (.sl (.hp Hc.length 0) 0 2 (some 2) 1) [hexC (c / 16), hexC (c % 16)] := (own_new (kF_even .u8) Hc [hexC (c / 16), hexC (c % 16)] (some 2)).lies (kF_even .u8)
    obtain ⟨v', H', a', o', k', f', c', -⟩ := app_b (ow.keep (Keep.app [] _ _) (by simp)) d2 (fun h => by simp at h) (by rw [tl, List.length_take]; simp; omega) X.hb (fun i hi => by have := ff i hi; omega)
    simp (maxDischargeDepth := 8) only [go_sem, hw, show decide ((i : Int) < 32) = true from decide_eq_true (by omega), bv_lvs, so.l, inB_nat hlt, Nat.mul_one, hcb, low4 hcr, show c.fdiv (2 ^ min 4 8) = c / 16 from Int.fdiv_eq_ediv_of_nonneg _ (by decide), idx_hex (show 0 ≤ c / 16 ∧ c / 16 < 16 by omega), idx_hex (show 0 ≤ c % 16 ∧ c % 16 < 16 by omega), a', wSucc (show i ≤ 4611686018427387903 by omega)]
    rw [KL_keep _ _ _ (by simp (maxDischargeDepth := 8) only [go_sem, hw, bv_lvs, (o'.isSl (kF_even .u8)).l])]
    simp (maxDischargeDepth := 8) only [go_sem]
    refine ih (i + 1, v', H') ⟨by dsimp only; omega, ?_, kH.trans' ((Keep.app _ _ _).trans k') (fun i hi hl => by have := ff i hi; omega), fun i hi => ?_, c'⟩ (by dsimp only; omega)
    · dsimp only
      rw [List.take_add_one, hcd, show textB (d.take i ++ (some c).toList) = textB (d.take i) ++ [hexC (c / 16), hexC (c % 16)] by unfold textB; rw [List.flatMap_append]; rfl]
      exact o'
    · rcases f' i hi with h | h
      · exact ff i h
      · simp at h; omega
  · have ei : i = 32 := by omega
    subst ei
    rw [List.take_of_length_le (by omega)] at ow lo
    have hb := b2s_lies lo (fun h => by have := tl d; rw [h] at this; simp at this; omega) (X := (X.hp Hc).fr [.cells true (bv d)] none) (by intro _ _ _ h; exact h)
    simp (maxDischargeDepth := 8) only [go_sem, hw, bv_lvs, so.l, hb]
    have kt := (show Keep [] X.heap Hc by rw [hH]; exact kH).take (Nat.le_refl _)
    rw [hH] at kt
    refine ⟨List.take X.hl Hc, none, ?_, by rw [hHl]; exact kt, .inl rfl⟩
    rw [show escMin X.esc none = X.esc by cases X.esc <;> rfl]
    rfl
def fzV (v : SV) (m : Mem) : Option (SV × Mem) := match v with
  | .sl b off n c z => match m.get b with
      | some (.cells true _) => if 0 < n ∧ m.may b then some (.sl b off n c z, m) else none
      | _ => none
  | _ => none
theorem RP_fz (F : Tbl) {m : Mem} {fr : Fr} {x : Opd} : RP F (.fz x) fr m = fzV (x.ev fr) m := by
  rw [RP_mem _ _ _ rfl]
  unfold memop fzV
  dsimp only
  cases x.ev fr <;> rfl
theorem fz_new {H : Hp} {X : Mem} {c : List SV} {n : Nat} {f : List SBk} {e : Option Nat} (hn : 0 < n) (hb : X.hb ≤ H.length) : fzV (.sl (.hp H.length 0) 0 n (some n) 1) ((X.hp (H ++ [(0, .cells true c)])).fr f e) = some (.sl (.hp H.length 0) 0 n (some n) 1, (X.hp (H ++ [(0, .cells true c)])).fr f e) := by
  unfold fzV
  dsimp only
  rw [show ((X.hp (H ++ [(0, .cells true c)])).fr f e).get (.hp H.length 0) = some (.cells true c) from hget_new0 0 _]
  dsimp only
  rw [if_pos ⟨hn, by simp [Mem.may, fr_hb]; exact hb⟩]
theorem r_law27_awake {X : Mem} (hw : X.Wf) (hhb : X.hb ≤ X.hl) : ∃ m', RF tb f_law27_awake [] X = some (.bool true, m') := by
  rw [RF_go t_law27_awake _ _ rfl, push_hp]
  generalize hH : X.heap = H at *
  have hHl : X.hl = H.length := by rw [← hH]; rfl
  simp (maxDischargeDepth := 8) only [go_sem, s_law27_awake, hw, hH, RP_fz]
  rw [fz_new (by decide) (by omega)]
  simp (maxDischargeDepth := 8) only [go_sem, hw]
  generalize hz : RF tb f_digest_Of _ _ = z
  have d3 : LiesD bF (Hm (H ++ [(0, SBk.cells true [SV.int .u8 97, SV.int .u8 98, SV.int .u8 99])])) (.sl (.hp H.length 0) 0 3 (some 3) 1) [97, 98, 99] := (own_new (kF_even .u8) H [97, 98, 99] (some 3)).lies (kF_even .u8)
  obtain ⟨H2, u, rfl, k2, e2⟩ := hz ▸ r_digest_Of (X := (X.hp (H ++ [(0, SBk.cells true [SV.int .u8 97, SV.int .u8 98, SV.int .u8 99])])).fr [] none) d3 (by simp) (fr_wf (hp_wf hw) _ _) (by show X.hb ≤ (H ++ [_]).length; simp; omega)
  have kl : H.length + 1 ≤ H2.length := Nat.le_trans (by simp) (show (H ++ [(0, SBk.cells true [SV.int .u8 97, SV.int .u8 98, SV.int .u8 99])]).length ≤ H2.length from k2.1)
  simp (maxDischargeDepth := 8) only [go_sem, hw]
  generalize hz : RF tb f_digest_Text _ _ = z
  obtain ⟨H3, u3, rfl, k3, e3⟩ := hz ▸ r_digest_Text (X := (X.hp H2).fr [] u) (sumB_len (eat_len rfl)) (fun c hc => outB_in hc) (fr_wf (hp_wf hw) _ _) (by show X.hb ≤ H2.length; omega)
  have ht : textS (shaP [97, 98, 99]) = ⟨#[98, 97, 55, 56, 49, 54, 98, 102, 56, 102, 48, 49, 99, 102, 101, 97, 52, 49, 52, 49, 52, 48, 100, 101, 53, 100, 97, 101, 50, 50, 50, 51, 98, 48, 48, 51, 54, 49, 97, 51, 57, 54, 49, 55, 55, 97, 57, 99, 98, 52, 49, 48, 102, 102, 54, 49, 102, 50, 48, 48, 49, 53, 97, 100]⟩ := by decide
  simp (maxDischargeDepth := 8) only [go_sem, hw]
  rw [show textS (sumB (eat hC [97, 98, 99]).1 (eat hC [97, 98, 99]).2 (IntKind.wrap .i64 3)) = _ from ht, beq_self_eq_true]
  exact ⟨_, rfl⟩
theorem slB_casesD {α : Type} (d : Fl α) (s : Sl α) : slB d s = [] ∨ slB d s = [s.l.flatMap d.enc] := by
  unfold slB; split <;> simp
theorem blk_atD {n0 : In} {L : List (List SV)} (h : n0.map (·.2) = L) {j : Nat} {c : List SV} (hj : L[j]? = some c) (pre post : In) : ∃ t, (pre ++ n0 ++ post)[pre.length + j]? = some (t, c) := by
  rw [← h, List.getElem?_map] at hj
  cases hx : n0[j]? with
  | none => rw [hx] at hj; cases hj
  | some x =>
    rw [hx] at hj
    simp only [Option.map_some, Option.some.injEq] at hj
    have hlt := (List.getElem?_eq_some_iff.1 hx).1
    refine ⟨x.1, ?_⟩
    rw [List.append_assoc, List.getElem?_append_right (Nat.le_add_right _ _), Nat.add_sub_cancel_left, List.getElem?_append_left hlt, hx, ← hj]
/-- A slice that came in. -/
theorem sl_inGD {α : Type} {d : Fl α} (hd : d.Even) {P : Program} {e : TypeId} {ok : α → Prop} {s : Sl α} (hok : slOk P e ok s) {pre n0 post : In} {A B : List (List SV)} (e0 : n0.map (·.2) = A ++ slB d s ++ B) : LiesD d (In.mem (pre ++ n0 ++ post)) (slV d s (pre.length + A.length)) s.l := by
  refine lies_in hd hok.2.2.2.1 hok.2.2.2.2 ?_
  rcases slB_casesD d s with h | h
  · exact .inl h
  · refine .inr ⟨_, h, ?_⟩
    rw [h] at e0
    obtain ⟨t, ht⟩ := blk_atD e0 (j := A.length) (c := s.l.flatMap d.enc) (by simp) pre post
    exact In.get (x := (t, _)) ht
def digP (t : Nat) : List Nat := [t % 65536, t / 65536 % 65536, t / 4294967296 % 65536, t / 281474976710656]
def inL (ai : Nat) : List Nat → List Nat → Nat → Option (List Nat)
  | [], os, 0 => some os
  | [], [], _ + 1 => none
  | [], o :: os, c + 1 => if c + 1 + o < 18446744073709551616 then (inL ai [] os ((c + 1 + o) / 65536)).map fun r => ((c + 1 + o) % 65536) :: r else none
  | _ :: _, [], _ => none
  | b :: bs, o :: os, c => if c + ai * b + o < 18446744073709551616 then (inL ai bs os ((c + ai * b + o) / 65536)).map fun r => ((c + ai * b + o) % 65536) :: r else none
def mulL (b : List Nat) : List Nat → List Nat → Option (List Nat)
  | [], out => some out
  | _ :: _, [] => none
  | a :: as, o :: os => (inL a b (o :: os) 0).bind fun r => match r with
    | [] => none
    | x :: xs => (mulL b as xs).map fun r => x :: r
def mulO (a b : List Nat) : Option (List Nat) := mulL b a (List.replicate (a.length + b.length + 1) 0)
def lessN (a b : List Nat) : Nat → Bool
  | 0 => false
  | i + 1 => if a.getD i 0 = b.getD i 0 then lessN a b i else decide (a.getD i 0 < b.getD i 0)
def powO (a : List Nat) : Nat → List Nat → Option (List Nat)
  | 0, v => if v.length ≤ 500 then some v else none
  | n + 1, v => if v.length ≤ 500 then (mulO v a).bind fun w => powO a n w else none
def aboveO (t p power : Nat) : Option Bool := (powO (digP t) (power - 1) (digP t)).map fun v => lessN (List.replicate (2 * power) 0 ++ digP p) v (max (2 * power + 4) v.length)
def rootN (p power : Nat) : Nat → Nat → Option Nat
  | 0, x => some x
  | k + 1, x => if x + 2 ^ k < 18446744073709551616 then (aboveO (x + 2 ^ k) p power).bind fun b => rootN p power k (if b then x else x + 2 ^ k) else none
def rootO (p power : Nat) : Option Nat := (rootN p power 36 0).map fun x => x % 4294967296
def primeN (p : Nat) : Nat → Nat → Bool → Option Bool
  | 0, _, _ => none
  | f + 1, d, pr => if d < 65536 then if d * d ≤ p then primeN p f (d + 1) (pr && decide (p % d ≠ 0)) else some pr else none
def rootsN (n power : Nat) : Nat → Nat → List Nat → Option (List Nat)
  | 0, _, _ => none
  | f + 1, p, out => if out.length < n then (primeN p 40 2 true).bind fun b => if b then (rootO p power).bind fun r => rootsN n power f (p + 1) (out ++ [r]) else rootsN n power f (p + 1) out else some out
theorem roots8 : rootsN 8 2 400 2 [] = some (hC.map Int.toNat) := by decide +kernel
theorem roots64 : rootsN 64 3 400 2 [] = some (kC.map Int.toNat) := by decide +kernel
def uF : Fl Nat := ⟨1, fun n => [.int .u64 (n : Int)]⟩
theorem uF_even : uF.Even := ⟨fun _ => rfl⟩
theorem uF_ok (l : List Nat) : SV.cellsOk 0 0 (l.flatMap uF.enc) = true := cellsOk_flat (fun _ => rfl) l
theorem uF_hx (l : List Nat) : SV.hxs (l.flatMap uF.enc) = 0 := by induction l with | nil => rfl | cons a l ih => simp only [List.flatMap_cons]; exact ih
theorem _root_.Go.Sh.LiesD.iaddrU {m : Mem} {v : SV} {l : List Nat} (h : LiesD uF m v l) {i : Nat} (hi : i < l.length) (j : IntKind) (m' : Mem) : iaddrV 1 v (.int j (i : Int)) m' = some (.ptr (.hp (slN v) (slW v)) (slO v + i), m') := by
  have := LiesD.iaddr h hi j m'
  rw [show uF.sz = 1 from rfl, Nat.mul_one] at this
  exact this
theorem _root_.Go.Sh.LiesD.loadU {m : Mem} {v : SV} {l : List Nat} (h : LiesD uF m v l) {i x : Nat} (hi : l[i]? = some x) {X : Mem} (hX : HpSub m X) : X.load (.hp (slN v) (slW v)) (slO v + i) none = some (.int .u64 (x : Int)) := by
  have := LiesD.load1 uF_even (h.sub hX) hi (j := 0) (show (0 : Nat) < 1 by decide)
  rw [show uF.sz = 1 from rfl, Nat.mul_one, Nat.add_zero] at this
  exact this
theorem storeU {H : Hp} {v : SV} {l : List Nat} (hv : Own uF H v l) {i : Nat} (hi : i < l.length) (X : Mem) (hm : ∀ i ∈ slFp v, X.hb ≤ i) (a : Nat) :
    ∃ H', (∀ f e, ((X.hp H).fr f e).store (.hp (slN v) (slW v)) (slO v + i) [.int .u64 (a : Int)] = some ((X.hp H').fr f e)) ∧ Own uF H' v (l.set i a) ∧ Keep (slFp v) H H' ∧ H'.length = H.length := by
  obtain ⟨H', h1, h2⟩ := store_own uF_even (by decide) (fun _ => rfl) (fun _ => rfl) hv hi X hm a
  refine ⟨H', fun f e => ?_, h2⟩
  have := h1 f e
  rw [show uF.sz = 1 from rfl, Nat.mul_one] at this
  exact this
theorem wU {n : Nat} (h : n < 18446744073709551616) : IntKind.wrap .u64 (n : Int) = n := by
  show (n : Int) % 18446744073709551616 = n
  omega
theorem wUm {a b : Nat} (h : a * b < 18446744073709551616) : IntKind.wrap .u64 ((a : Int) * (b : Int)) = ((a * b : Nat) : Int) := by rw [← Int.natCast_mul]; exact wU h
theorem wUa {a b : Nat} (h : a + b < 18446744073709551616) : IntKind.wrap .u64 ((a : Int) + (b : Int)) = ((a + b : Nat) : Int) := by rw [← Int.natCast_add]; exact wU h
theorem tmodU (c : Nat) : ((c : Int).tmod 65536) = ((c % 65536 : Nat) : Int) := by
  rw [Int.tmod_eq_emod_of_nonneg (by omega)]; rfl
theorem fdivU (c k : Nat) : ((c : Int).fdiv (2 ^ k)) = ((c / 2 ^ k : Nat) : Int) := by
  rw [Int.fdiv_eq_ediv_of_nonneg _ (Int.pow_nonneg (by decide))]
  rw [Int.natCast_ediv, Int.natCast_pow]; rfl
theorem r_ref27_digits {X : Mem} (hw : X.Wf) (t : Nat) : RF tb f_ref27_digits [.int .u64 (t : Int)] X = some (.sl (.hp X.hl 0) 0 4 (some 4) 1, X.hp (X.heap ++ [(0, .cells true ((digP t).flatMap uF.enc))])) := by
  rw [RF_go t_ref27_digits _ _ rfl, push_hp]
  generalize hH : X.heap = H at *
  have hHl : X.hl = H.length := by rw [← hH]; rfl
  have e16 := fdivU t 16
  have e32 := fdivU t 32
  have e48 := fdivU t 48
  simp (maxDischargeDepth := 8) only [go_sem, s_ref27_digits, hw, hH, tmodU, show min 16 64 = 16 from rfl, show min 32 64 = 32 from rfl, show min 48 64 = 48 from rfl, e16, e32, e48]
  rw [hHl, if_neg (by omega)]
  rfl
theorem drop_cons {l : List Nat} {i x : Nat} {xs : List Nat} (h : l.drop i = x :: xs) : i < l.length ∧ l[i]? = some x ∧ l.drop (i + 1) = xs := by
  have h1 : i < l.length := by
    rcases Nat.lt_or_ge i l.length with h1 | h1
    · exact h1
    · rw [List.drop_of_length_le h1] at h; cases h
  rw [List.drop_eq_getElem_cons h1] at h
  injection h with h2 h3
  exact ⟨h1, by rw [List.getElem?_eq_getElem h1, h2], h3⟩
theorem set_pre {pre os : List Nat} {o x : Nat} : (pre ++ o :: os).set pre.length x = (pre ++ [x]) ++ os := by
  rw [List.set_append_right _ _ (Nat.le_refl _), Nat.sub_self, List.append_assoc]; rfl
theorem get_pre {pre os : List Nat} {o : Nat} : (pre ++ o :: os)[pre.length]? = some o := by
  rw [List.getElem?_append_right (Nat.le_refl _), Nat.sub_self]; rfl
theorem r_ref27_product {X : Mem} {va vb : SV} {a b out : List Nat} (ha : LiesD uF (Hm X.heap) va a) (hb : LiesD uF (Hm X.heap) vb b) (la : a.length ≤ 1000) (lb : b.length ≤ 1000) (hm : mulO a b = some out) (hw : X.Wf) (hhb : X.hb ≤ X.hl) :
    ∃ H' v, RF tb f_ref27_product [va, vb] X = some (v, X.hp H') ∧ Own uF H' v out ∧ Keep [] X.heap H' ∧ ∀ i ∈ slFp v, X.hl ≤ i := by
  rw [RF_go t_ref27_product _ _ rfl, push_hp]
  generalize hH : X.heap = H at *
  have hHl : X.hl = H.length := by rw [← hH]; rfl
  have w1 : IntKind.wrap .i64 (IntKind.wrap .i64 ((a.length : Int) + (b.length : Int)) + 1) = ((a.length + b.length + 1 : Nat) : Int) := by
    rw [wS (x := (a.length : Int) + (b.length : Int)) (by omega) (by omega), wS (by omega) (by omega)]; omega
  obtain ⟨n, hn⟩ : ∃ n, a.length + b.length + 1 = n := ⟨_, rfl⟩
  rw [hn] at w1
  have hv2 : ((8 : Int) * (n : Int) ≤ (two48 : Int)) = True := by simp [two48]; omega
  have hv3 : ((n : Int) < 9223372036854775808) = True := by simp; omega
  have hv4 : ((0 : Int) ≤ (n : Int)) = True := by simp
  have sa := ha.isSl
  have sb := hb.isSl
  simp (maxDischargeDepth := 8) only [go_sem, s_ref27_product, hw, hH, ha.len, hb.len, w1, hv2, hv3, hv4, Int.le_refl, sa.l, sb.l]
  obtain ⟨H1, hH1⟩ : ∃ H1, H ++ [(0, SBk.cells true (List.replicate n [SV.int .u64 0]).flatten)] = H1 := ⟨_, rfl⟩
  have own : Own uF H1 (.sl (.hp H.length 0) 0 n (some n) 1) (List.replicate n 0) := by rw [← hH1]; exact mkslV_own uF_even H 0 n
  have k1 : Keep [] H H1 := by rw [← hH1]; exact Keep.app _ _ _
  rw [hH1]
  have fp : ∀ i ∈ slFp (.sl (.hp H.length 0) 0 n (some n) 1), H.length ≤ i := by simp [slFp]
  have hx : (SV.sl (.hp H.length 0) 0 n (some n) 1).hx = H.length + 1 := rfl
  generalize (SV.sl (.hp H.length 0) 0 n (some n) 1) = uv at *
  have su := own.isSl uF_even
  rw [KL_keep _ _ _ (by simp (maxDischargeDepth := 8) only [go_sem, sa.l, sb.l, su.l])]
  simp (maxDischargeDepth := 8) only [go_sem]
  refine KL_ind (R := fun z => ∃ H' v, fin [.t 4] X z = some (v, X.hp H') ∧ Own uF H' v out ∧ Keep [] H H' ∧ ∀ i ∈ slFp v, X.hl ≤ i)
    (α := Nat × List Nat × List Nat × Hp) (fun q => a.length - q.1) (fun q => [(0, va), (1, vb), (5, uv), (6, .int .i64 (q.1 : Int))]) (fun q => (X.hp q.2.2.2).fr [] none)
    (fun q => q.1 ≤ a.length ∧ q.2.1.length = q.1 ∧ Own uF q.2.2.2 uv (q.2.1 ++ q.2.2.1) ∧ Keep [] H q.2.2.2 ∧ q.1 + q.2.2.1.length = n ∧ ∃ f, mulL b (a.drop q.1) q.2.2.1 = some f ∧ q.2.1 ++ f = out) ?_ (0, [], List.replicate n 0, H1) ⟨Nat.zero_le _, rfl, own, k1, by simp, out, by rw [← hn]; exact hm, rfl⟩
  clear own k1 hH1 hm
  rintro ⟨i, dn, os, Hc⟩ ⟨hi, hdl, ow, kH, hos, f, hf, hfo⟩ ih
  dsimp only at hi hdl ow kH hos hf hfo ⊢
  have ha' : LiesD uF (Hm Hc) va a := ha.keep kH (by simp)
  have hb' : LiesD uF (Hm Hc) vb b := hb.keep kH (by simp)
  cases hda : a.drop i with
  | nil =>
    have hia : i = a.length := by have := congrArg List.length hda; simp at this; omega
    rw [hda] at hf
    simp only [mulL, Option.some.injEq] at hf
    subst hf
    simp (maxDischargeDepth := 8) only [go_sem, hw, sa.l, sb.l, su.l, ha'.len, show decide ((i : Int) < (a.length : Int)) = false from decide_eq_false (by omega)]
    rw [hx, if_neg (by omega)]
    rw [hfo] at ow
    exact ⟨Hc, uv, rfl, ow, kH, fun i hi => by have := fp i hi; omega⟩
  | cons x xs =>
    obtain ⟨d1, d2, d3⟩ := drop_cons hda
    rw [hda] at hf
    cases hoe : os with
    | nil => rw [hoe] at hf; cases hf
    | cons o os' =>
      rw [hoe] at hf ow hos
      simp only [mulL, Option.bind_eq_some_iff] at hf
      obtain ⟨r, hr, hf⟩ := hf
      simp (maxDischargeDepth := 8) only [go_sem, hw, sa.l, sb.l, su.l, ha'.len, show decide ((i : Int) < (a.length : Int)) = true from decide_eq_true (by omega)]
      refine KL_ind (R := fun z => ∃ H' v, fin [.t 4] X z = some (v, X.hp H') ∧ Own uF H' v out ∧ Keep [] H H' ∧ ∀ i ∈ slFp v, X.hl ≤ i)
        (α := Nat × Nat × List Nat × List Nat × Hp) (fun q => q.2.2.2.1.length) (fun q => [(0, va), (1, vb), (5, uv), (6, .int .i64 (i : Int)), (7, .int .u64 (q.2.1 : Int)), (8, .int .i64 (q.1 : Int))]) (fun q => (X.hp q.2.2.2.2).fr [] none)
        (fun q => q.2.2.1.length = i + q.1 ∧ Own uF q.2.2.2.2 uv (q.2.2.1 ++ q.2.2.2.1) ∧ Keep [] H q.2.2.2.2 ∧ q.2.2.1.length + q.2.2.2.1.length = n ∧ ∃ r', inL x (b.drop q.1) q.2.2.2.1 q.2.1 = some r' ∧ q.2.2.1 ++ r' = dn ++ r) ?_ (0, 0, dn, o :: os', Hc) ⟨hdl, ow, kH, by rw [hdl]; exact hos, r, hr, rfl⟩
      clear hr ow kH hos hoe ha' hb'
      rintro ⟨k, c, pre, ps, Hd⟩ ⟨hpl, pw, kd, hpn, r', hr', hpr⟩ ih2
      dsimp only at hpl pw kd hpn hr' hpr ⊢
      have ha' : LiesD uF (Hm Hd) va a := ha.keep kd (by simp)
      have hb' : LiesD uF (Hm Hd) vb b := hb.keep kd (by simp)
      have hil : i + k ≤ 4000 := by omega
      have wik : IntKind.wrap .i64 ((i : Int) + (k : Int)) = ((i + k : Nat) : Int) := by rw [wS (by omega) (by omega)]; rfl
      have lo := pw.lies uF_even
      have e16 := fun c => fdivU c 16
      cases hdb : b.drop k with
      | nil =>
        have hkb : b.length ≤ k := by have := congrArg List.length hdb; simp at this; omega
        rw [hdb] at hr'
        cases c with
        | zero =>
          simp only [inL, Option.some.injEq] at hr'
          subst hr'
          have hgt : decide ((0 : Int) > 0) = false := by decide
          simp (maxDischargeDepth := 8) only [go_sem, hw, sa.l, sb.l, su.l, hb'.len, show decide ((k : Int) < (b.length : Int)) = false from decide_eq_false (by omega), hgt]
          rw [KL_keep _ _ _ (by simp (maxDischargeDepth := 8) only [go_sem, sa.l, sb.l, su.l])]
          simp (maxDischargeDepth := 8) only [go_sem, wSucc (show i ≤ 4611686018427387903 by omega)]
          cases r with
          | nil => cases hf
          | cons z zs =>
            simp only [Option.map_eq_some_iff] at hf
            obtain ⟨g, hg, rfl⟩ := hf
            refine ih (i + 1, dn ++ [z], zs, Hd) ⟨by dsimp only; omega, by simp [hdl], ?_, kd, ?_, g, by rw [d3]; exact hg, by rw [List.append_assoc]; exact hfo⟩ (by dsimp only; omega)
            · dsimp only; rw [hpr] at pw; rw [List.append_assoc]; exact pw
            · have := congrArg List.length hpr
              simp only [List.length_append, List.length_cons] at this ⊢
              omega
        | succ c =>
          cases ps with
          | nil => cases hr'
          | cons p ps =>
            simp only [inL] at hr'
            split at hr'
            · rename_i hM
              rw [Option.map_eq_some_iff] at hr'
              obtain ⟨r2, hr2, rfl⟩ := hr'
              obtain ⟨H', st, o2, k2, -⟩ := storeU pw (i := pre.length) (by simp) X (fun i hi => by have := fp i hi; omega) ((c + 1 + p) % 65536)
              have hgt : decide (((c + 1 : Nat) : Int) > 0) = true := decide_eq_true (by omega)
              rw [set_pre] at o2
              rw [hpl] at st
              simp (maxDischargeDepth := 8) only [go_sem, hw, sa.l, sb.l, su.l, hb'.len, show decide ((k : Int) < (b.length : Int)) = false from decide_eq_false (by omega), hgt, wik, lo.iaddrU (i := i + k) (by rw [List.length_append]; simp; omega), lo.loadU (i := i + k) (x := p) (by rw [← hpl]; exact get_pre), wUa hM, tmodU, st, show min 16 64 = 16 from rfl, e16, wSucc (show k ≤ 4611686018427387903 by omega)]
              rw [KL_keep _ _ _ (by simp (maxDischargeDepth := 8) only [go_sem, sa.l, sb.l, su.l])]
              simp (maxDischargeDepth := 8) only [go_sem]
              exact ih2 (k + 1, (c + 1 + p) / 65536, pre ++ [(c + 1 + p) % 65536], ps, H') ⟨by simp [hpl]; omega, o2, kd.trans' k2 (fun m hm hl => by have := fp m hm; omega), by simp only [List.length_append, List.length_cons, List.length_nil] at hpn ⊢; omega, r2, by rw [List.drop_of_length_le (by omega)]; exact hr2, by rw [List.append_assoc]; exact hpr⟩ (by dsimp only; simp)
            · cases hr'
      | cons y ys =>
        obtain ⟨f1, f2, f3⟩ := drop_cons hdb
        rw [hdb] at hr'
        cases ps with
        | nil => cases c <;> cases hr'
        | cons p ps =>
          simp only [inL] at hr'
          split at hr'
          · rename_i hM
            rw [Option.map_eq_some_iff] at hr'
            obtain ⟨r2, hr2, rfl⟩ := hr'
            obtain ⟨H', st, o2, k2, -⟩ := storeU pw (i := pre.length) (by simp) X (fun i hi => by have := fp i hi; omega) ((c + x * y + p) % 65536)
            rw [set_pre] at o2
            rw [hpl] at st
            simp (maxDischargeDepth := 8) only [go_sem, hw, sa.l, sb.l, su.l, hb'.len, show decide ((k : Int) < (b.length : Int)) = true from decide_eq_true (by omega), wik, ha'.iaddrU d1, ha'.loadU d2, hb'.iaddrU f1, hb'.loadU f2, wUm (show x * y < 18446744073709551616 by omega), wUa (show c + x * y < 18446744073709551616 by omega), lo.iaddrU (i := i + k) (by rw [List.length_append]; simp; omega), lo.loadU (i := i + k) (x := p) (by rw [← hpl]; exact get_pre), wUa hM, tmodU, st, show min 16 64 = 16 from rfl, e16, wSucc (show k ≤ 4611686018427387903 by omega)]
            rw [KL_keep _ _ _ (by simp (maxDischargeDepth := 8) only [go_sem, sa.l, sb.l, su.l])]
            simp (maxDischargeDepth := 8) only [go_sem]
            exact ih2 (k + 1, (c + x * y + p) / 65536, pre ++ [(c + x * y + p) % 65536], ps, H') ⟨by simp [hpl]; omega, o2, kd.trans' k2 (fun m hm hl => by have := fp m hm; omega), by simp only [List.length_append, List.length_cons, List.length_nil] at hpn ⊢; omega, r2, by rw [f3]; exact hr2, by rw [List.append_assoc]; exact hpr⟩ (by dsimp only; simp)
          · cases hr'
theorem r_ref27_less {X : Mem} {va vb : SV} {a b : List Nat} (ha : LiesD uF (Hm X.heap) va a) (hb : LiesD uF (Hm X.heap) vb b) (la : a.length ≤ 1000) (lb : b.length ≤ 1000) (hw : X.Wf) : RF tb f_ref27_less [va, vb] X = some (.bool (lessN a b (max a.length b.length)), X) := by
  rw [RF_go t_ref27_less _ _ rfl]
  have sa := ha.isSl
  have sb := hb.isSl
  obtain ⟨n, hn⟩ : ∃ n, max a.length b.length = n := ⟨_, rfl⟩
  rw [hn]
  have ga : ∀ i, (if h : i < a.length then a[i]? = some (a.getD i 0) else a.getD i 0 = 0) := fun i => by
    split
    · rename_i h; rw [List.getD_eq_getElem?_getD, List.getElem?_eq_getElem h]; rfl
    · rename_i h; rw [List.getD_eq_getElem?_getD, List.getElem?_eq_none (by omega)]; rfl
  have gb : ∀ i, (if h : i < b.length then b[i]? = some (b.getD i 0) else b.getD i 0 = 0) := fun i => by
    split
    · rename_i h; rw [List.getD_eq_getElem?_getD, List.getElem?_eq_getElem h]; rfl
    · rename_i h; rw [List.getD_eq_getElem?_getD, List.getElem?_eq_none (by omega)]; rfl
  simp (maxDischargeDepth := 8) only [go_sem, s_ref27_less, hw, ha.len, hb.len, sa.l, sb.l]
  have w1 : IntKind.wrap .i64 ((n : Int) - 1) = (n : Int) - 1 := wS (by omega) (by omega)
  by_cases hab : a.length < b.length
  all_goals (first
    | (rw [show decide ((b.length : Int) > (a.length : Int)) = true from decide_eq_true (by omega)]; simp (maxDischargeDepth := 8) only [go_sem, hw, hb.len, sa.l, sb.l]; rw [show b.length = n by omega, w1])
    | (rw [show decide ((b.length : Int) > (a.length : Int)) = false from decide_eq_false (by omega)]; simp (maxDischargeDepth := 8) only [go_sem, hw, hb.len, sa.l, sb.l]; rw [show a.length = n by omega, w1])
    )
  all_goals
    rw [KL_keep _ _ _ (by simp (maxDischargeDepth := 8) only [go_sem, sa.l, sb.l])]
    simp (maxDischargeDepth := 8) only [go_sem]
    refine KL_indE (α := Nat) (fun i => i) (fun i => [(0, va), (1, vb), (6, .int .i64 ((i : Int) - 1))]) (fun _ => X.fr [] none) (fun i => i ≤ n ∧ lessN a b i = lessN a b n) ?_ n ⟨Nat.le_refl _, rfl⟩
    rintro i ⟨hi, he⟩ ih
    cases i with
    | zero =>
      simp (maxDischargeDepth := 8) only [go_sem, hw, sa.l, sb.l, show decide ((-1 : Int) ≥ 0) = false from by decide]
      rw [← he]; rfl
    | succ i =>
      have e1 : ((i + 1 : Nat) : Int) - 1 = (i : Int) := by omega
      have ga' := ga i
      have gb' := gb i
      have w2 : IntKind.wrap .i64 ((i : Int) - 1) = (i : Int) - 1 := wS (by omega) (by omega)
      rw [e1]
      simp only [lessN] at he
      have hlt : ∀ p q : Int, p = ((a.getD i 0 : Nat) : Int) → q = ((b.getD i 0 : Nat) : Int) → decide (p < q) = decide (a.getD i 0 < b.getD i 0) := fun p q h1 h2 => by rw [h1, h2]; exact decide_eq_decide.2 (by omega)
      have hge : decide ((i : Int) ≥ 0) = true := decide_eq_true (by omega)
      by_cases hxy : a.getD i 0 = b.getD i 0
      · rw [if_pos hxy] at he
        have hne : ∀ p q : Int, p = ((a.getD i 0 : Nat) : Int) → q = ((b.getD i 0 : Nat) : Int) → (p != q) = false := fun p q h1 h2 => by rw [h1, h2, hxy]; exact bne_self_eq_false _
        have ih' := ih i ⟨by omega, he⟩ (by omega)
        by_cases h1 : i < a.length
        · rw [dif_pos h1] at ga'
          by_cases h2 : i < b.length
          · rw [dif_pos h2] at gb'
            simp (maxDischargeDepth := 8) only [go_sem, hw, sa.l, sb.l, hge, ha.len, hb.len, show decide ((i : Int) < (a.length : Int)) = true from decide_eq_true (by omega), show decide ((i : Int) < (b.length : Int)) = true from decide_eq_true (by omega), ha.iaddrU h1, ha.loadU ga', hb.iaddrU h2, hb.loadU gb', hne _ _ rfl rfl, hpsub_self, w2]
            rw [KL_keep _ _ _ (by simp (maxDischargeDepth := 8) only [go_sem, sa.l, sb.l])]
            simp (maxDischargeDepth := 8) only [go_sem]
            exact ih'
          · rw [dif_neg h2] at gb'
            simp (maxDischargeDepth := 8) only [go_sem, hw, sa.l, sb.l, hge, ha.len, hb.len, show decide ((i : Int) < (a.length : Int)) = true from decide_eq_true (by omega), show decide ((i : Int) < (b.length : Int)) = false from decide_eq_false (by omega), ha.iaddrU h1, ha.loadU ga', hne _ _ rfl (show (0 : Int) = _ by rw [gb']; rfl), hpsub_self, w2]
            rw [KL_keep _ _ _ (by simp (maxDischargeDepth := 8) only [go_sem, sa.l, sb.l])]
            simp (maxDischargeDepth := 8) only [go_sem]
            exact ih'
        · rw [dif_neg h1] at ga'
          by_cases h2 : i < b.length
          · rw [dif_pos h2] at gb'
            simp (maxDischargeDepth := 8) only [go_sem, hw, sa.l, sb.l, hge, ha.len, hb.len, show decide ((i : Int) < (a.length : Int)) = false from decide_eq_false (by omega), show decide ((i : Int) < (b.length : Int)) = true from decide_eq_true (by omega), hb.iaddrU h2, hb.loadU gb', hne _ _ (show (0 : Int) = _ by rw [ga']; rfl) rfl, hpsub_self, w2]
            rw [KL_keep _ _ _ (by simp (maxDischargeDepth := 8) only [go_sem, sa.l, sb.l])]
            simp (maxDischargeDepth := 8) only [go_sem]
            exact ih'
          · rw [dif_neg h2] at gb'
            simp (maxDischargeDepth := 8) only [go_sem, hw, sa.l, sb.l, hge, ha.len, hb.len, show decide ((i : Int) < (a.length : Int)) = false from decide_eq_false (by omega), show decide ((i : Int) < (b.length : Int)) = false from decide_eq_false (by omega), hne _ _ (show (0 : Int) = _ by rw [ga']; rfl) (show (0 : Int) = _ by rw [gb']; rfl), hpsub_self, w2]
            rw [KL_keep _ _ _ (by simp (maxDischargeDepth := 8) only [go_sem, sa.l, sb.l])]
            simp (maxDischargeDepth := 8) only [go_sem]
            exact ih'
      · rw [if_neg hxy] at he
        have hne : ∀ p q : Int, p = ((a.getD i 0 : Nat) : Int) → q = ((b.getD i 0 : Nat) : Int) → (p != q) = true := fun p q h1 h2 => by rw [h1, h2]; exact bne_iff_ne.2 (by omega)
        by_cases h1 : i < a.length
        · rw [dif_pos h1] at ga'
          by_cases h2 : i < b.length
          · rw [dif_pos h2] at gb'
            simp (maxDischargeDepth := 8) only [go_sem, hw, sa.l, sb.l, hge, ha.len, hb.len, show decide ((i : Int) < (a.length : Int)) = true from decide_eq_true (by omega), show decide ((i : Int) < (b.length : Int)) = true from decide_eq_true (by omega), ha.iaddrU h1, ha.loadU ga', hb.iaddrU h2, hb.loadU gb', hne _ _ rfl rfl, hlt _ _ rfl rfl, hpsub_self, w2]
            first
              | rw [he]
              | exact absurd (by rw [ga', gb']) hxy
          · rw [dif_neg h2] at gb'
            simp (maxDischargeDepth := 8) only [go_sem, hw, sa.l, sb.l, hge, ha.len, hb.len, show decide ((i : Int) < (a.length : Int)) = true from decide_eq_true (by omega), show decide ((i : Int) < (b.length : Int)) = false from decide_eq_false (by omega), ha.iaddrU h1, ha.loadU ga', hne _ _ rfl (show (0 : Int) = _ by rw [gb']; rfl), hlt _ _ rfl (show (0 : Int) = _ by rw [gb']; rfl), hpsub_self, w2]
            first
              | rw [he]
              | exact absurd (by rw [ga', gb']) hxy
        · rw [dif_neg h1] at ga'
          by_cases h2 : i < b.length
          · rw [dif_pos h2] at gb'
            simp (maxDischargeDepth := 8) only [go_sem, hw, sa.l, sb.l, hge, ha.len, hb.len, show decide ((i : Int) < (a.length : Int)) = false from decide_eq_false (by omega), show decide ((i : Int) < (b.length : Int)) = true from decide_eq_true (by omega), hb.iaddrU h2, hb.loadU gb', hne _ _ (show (0 : Int) = _ by rw [ga']; rfl) rfl, hlt _ _ (show (0 : Int) = _ by rw [ga']; rfl) rfl, hpsub_self, w2]
            first
              | rw [he]
              | exact absurd (by rw [ga', gb']) hxy
          · rw [dif_neg h2] at gb'
            simp (maxDischargeDepth := 8) only [go_sem, hw, sa.l, sb.l, hge, ha.len, hb.len, show decide ((i : Int) < (a.length : Int)) = false from decide_eq_false (by omega), show decide ((i : Int) < (b.length : Int)) = false from decide_eq_false (by omega), hne _ _ (show (0 : Int) = _ by rw [ga']; rfl) (show (0 : Int) = _ by rw [gb']; rfl), hlt _ _ (show (0 : Int) = _ by rw [ga']; rfl) (show (0 : Int) = _ by rw [gb']; rfl), hpsub_self, w2]
            first
              | rw [he]
              | exact absurd (by rw [ga', gb']) hxy
theorem r_ref27_above {X : Mem} {t p power : Nat} {r : Bool} (hp : 1 ≤ power ∧ power ≤ 100) (h : aboveO t p power = some r) (hw : X.Wf) (hhb : X.hb ≤ X.hl) : RF tb f_ref27_above [.int .u64 (t : Int), .int .u64 (p : Int), .int .i64 (power : Int)] X = some (.bool r, X) := by
  rw [RF_go t_ref27_above _ _ rfl, push_hp]
  generalize hH : X.heap = H at *
  have hHl : X.hl = H.length := by rw [← hH]; rfl
  unfold aboveO at h
  rw [Option.map_eq_some_iff] at h
  obtain ⟨fv, hf, hr⟩ := h
  simp (maxDischargeDepth := 8) only [go_sem, s_ref27_above, hw, hH, r_ref27_digits]
  obtain ⟨H1, hH1⟩ : ∃ H1, H ++ [(0, SBk.cells true ((digP t).flatMap uF.enc))] = H1 := ⟨_, rfl⟩
  have own : Own uF H1 (.sl (.hp H.length 0) 0 4 (some 4) 1) (digP t) := by rw [← hH1]; exact own_new uF_even H (digP t) (some 4)
  have k1 : Keep [] H H1 := by rw [← hH1]; exact Keep.app _ _ _
  rw [hH1]
  have fp : ∀ i ∈ slFp (.sl (.hp H.length 0) 0 4 (some 4) 1), H.length ≤ i := by simp [slFp]
  generalize (SV.sl (.hp H.length 0) 0 4 (some 4) 1) = uv at *
  have su := own.isSl uF_even
  rw [KL_keep _ _ _ (by simp (maxDischargeDepth := 8) only [go_sem, su.l])]
  simp (maxDischargeDepth := 8) only [go_sem]
  refine KL_indE (α := Nat × List Nat × SV × Hp) (fun q => power - q.1) (fun q => [(1, .int .u64 (p : Int)), (2, .int .i64 (power : Int)), (7, uv), (8, q.2.2.1), (9, .int .i64 (q.1 : Int))]) (fun q => (X.hp q.2.2.2).fr [] none)
    (fun q => 1 ≤ q.1 ∧ q.1 ≤ power ∧ Own uF q.2.2.2 q.2.2.1 q.2.1 ∧ Own uF q.2.2.2 uv (digP t) ∧ Keep [] H q.2.2.2 ∧ (∀ i ∈ slFp q.2.2.1, H.length ≤ i) ∧ powO (digP t) (power - q.1) q.2.1 = some fv) ?_ (1, digP t, uv, H1) ⟨Nat.le_refl _, hp.1, own, own, k1, fp, hf⟩
  clear own k1 hH1 hf
  rintro ⟨i, w, v, Hc⟩ ⟨i1, hi, ow, od, kH, ff, hf⟩ ih
  dsimp only at i1 hi ow od kH ff hf ⊢
  have sv := ow.isSl uF_even
  have hkk := kH.1
  have wp : IntKind.wrap .i64 (2 * (power : Int)) = ((2 * power : Nat) : Int) := by rw [wS (by omega) (by omega)]; omega
  have hv2 : ((8 : Int) * ((2 * power : Nat) : Int) ≤ (two48 : Int)) = True := by simp [two48]; omega
  have hv3 : (((2 * power : Nat) : Int) < 9223372036854775808) = True := by simp; omega
  have hv4 : ((0 : Int) ≤ ((2 * power : Nat) : Int)) = True := eq_true (by omega)
  by_cases hlt : i < power
  · rw [show power - i = (power - (i + 1)) + 1 by omega] at hf
    simp only [powO] at hf
    split at hf
    · rename_i hwl
      rw [Option.bind_eq_some_iff] at hf
      obtain ⟨w2, hm, hf⟩ := hf
      simp (maxDischargeDepth := 8) only [go_sem, hw, su.l, sv.l, show decide ((i : Int) < (power : Int)) = true from decide_eq_true (by omega)]
      generalize hz : RF tb f_ref27_product _ _ = z
      obtain ⟨H2, v2, rfl, o2, k2, f2⟩ := hz ▸ r_ref27_product (X := (X.hp Hc).fr [] none) (ow.lies uF_even) (od.lies uF_even) (by omega) (by simp [digP]) hm (fr_wf (hp_wf hw) _ _) (show X.hb ≤ Hc.length by omega)
      simp (maxDischargeDepth := 8) only [go_sem, hw]
      rw [KL_keep _ _ _ (by simp (maxDischargeDepth := 8) only [go_sem, su.l, (o2.isSl uF_even).l])]
      simp (maxDischargeDepth := 8) only [go_sem, wSucc (show i ≤ 4611686018427387903 by omega)]
      exact ih (i + 1, w2, v2, H2) ⟨by dsimp only; omega, by dsimp only; omega, o2, od.keep k2 (by simp), kH.trans k2, fun j hj => Nat.le_trans hkk (f2 j hj), hf⟩ (by dsimp only; omega)
    · cases hf
  · rw [show power - i = 0 by omega] at hf
    simp only [powO] at hf
    split at hf
    · rename_i hwl
      cases hf
      simp (maxDischargeDepth := 8) only [go_sem, hw, su.l, sv.l, show decide ((i : Int) < (power : Int)) = false from decide_eq_false (by omega), r_ref27_digits, wp, hv2, hv3, hv4, Int.le_refl]
      obtain ⟨Hd, hHd⟩ : ∃ Hd, Hc ++ [(0, SBk.cells true ((digP p).flatMap uF.enc))] = Hd := ⟨_, rfl⟩
      have od : Own uF Hd (.sl (.hp Hc.length 0) 0 4 (some 4) 1) (digP p) := by rw [← hHd]; exact own_new uF_even Hc (digP p) (some 4)
      have kd : Keep [] Hc Hd := by rw [← hHd]; exact Keep.app _ _ _
      have ld : Hd.length = Hc.length + 1 := by rw [← hHd, List.length_append]; rfl
      rw [hHd]
      obtain ⟨He, hHe⟩ : ∃ He, Hd ++ [(0, SBk.cells true (List.replicate (2 * power) [SV.int .u64 0]).flatten)] = He := ⟨_, rfl⟩
      have oe : Own uF He (.sl (.hp Hd.length 0) 0 (2 * power) (some (2 * power)) 1) (List.replicate (2 * power) 0) := by rw [← hHe]; exact mkslV_own uF_even Hd 0 (2 * power)
      have ke : Keep [] Hd He := by rw [← hHe]; exact Keep.app _ _ _
      have le : He.length = Hd.length + 1 := by rw [← hHe, List.length_append]; rfl
      obtain ⟨v3, H3, a3, o3, k3, f3, -, l3⟩ := app_ownY uF_even (by decide) uF_ok uF_hx oe ((od.keep ke (by simp)).lies uF_even) (bytes := 8) (by simp [two48, digP]; omega) (by simp [two48, digP]; omega) X (fun i hi => by simp [slFp] at hi; omega)
      have a3' : ∀ f e, appV 1 8 [.int .u64 0] (fun _ => true) (.sl (.hp Hd.length 0) 0 (2 * power) (some (2 * power)) 1) (.sl (.hp Hc.length 0) 0 4 (some 4) 1) ((X.hp He).fr f e) = some (v3, (X.hp H3).fr f e) := fun f e => a3 [.int .u64 0] rfl (fun _ => true) rfl _ rfl rfl
      simp (maxDischargeDepth := 8) only [go_sem, hw, hHe, a3']
      have ow3 : Own uF H3 v fv := ((ow.keep kd (by simp)).keep ke (by simp)).keep k3 (fun j hj hc => by have := ow.fp j hj; simp [slFp] at hc; omega)
      have hL := fun f e => r_ref27_less (X := (X.hp H3).fr f e) (o3.lies uF_even) (ow3.lies uF_even) (by simp [digP]; omega) (by omega) (fr_wf (hp_wf hw) _ _)
      have e4 : (List.replicate (2 * power) 0 ++ digP p).length = 2 * power + 4 := by simp [digP]
      rw [e4] at hL
      rw [hr] at hL
      simp (maxDischargeDepth := 8) only [go_sem, hw, hL]
      have kk : Keep [] H H3 := (((kH.trans kd).trans ke)).trans' k3 (fun j hj hl => by simp [slFp] at hj; omega)
      rw [hHl, take_keep kk, ← hH, hp_self]
    · cases hf
theorem r_ref27_root {X : Mem} {p power r : Nat} (hp : 1 ≤ power ∧ power ≤ 100) (h : rootO p power = some r) (hw : X.Wf) (hhb : X.hb ≤ X.hl) : RF tb f_ref27_root [.int .u64 (p : Int), .int .i64 (power : Int)] X = some (.int .u32 (r : Int), X) := by
  rw [RF_go t_ref27_root _ _ rfl]
  unfold rootO at h
  rw [Option.map_eq_some_iff] at h
  obtain ⟨x, hx, rfl⟩ := h
  simp (maxDischargeDepth := 8) only [go_sem, s_ref27_root, hw]
  rw [KL_keep _ _ _ (by simp (maxDischargeDepth := 8) only [go_sem])]
  simp (maxDischargeDepth := 8) only [go_sem]
  refine KL_indE (α := Nat × Nat) (fun q => q.1) (fun q => [(0, .int .u64 (p : Int)), (1, .int .i64 (power : Int)), (5, .int .u64 (q.2 : Int)), (6, .int .i64 ((q.1 : Int) - 1))]) (fun _ => X.fr [] none)
    (fun q => q.1 ≤ 36 ∧ rootN p power q.1 q.2 = some x) ?_ (36, 0) ⟨Nat.le_refl _, hx⟩
  clear hx
  rintro ⟨k, y⟩ ⟨hk, hx⟩ ih
  dsimp only at hk hx ⊢
  cases k with
  | zero =>
    simp only [rootN, Option.some.injEq] at hx
    subst hx
    simp (maxDischargeDepth := 8) only [go_sem, hw, show decide ((-1 : Int) ≥ 0) = false from by decide]
    rw [Int.tmod_eq_emod_of_nonneg (by omega)]
    have : IntKind.wrap .u32 ((y : Int) % 4294967296) = ((y % 4294967296 : Nat) : Int) := by
      show (y : Int) % 4294967296 % 4294967296 = _
      omega
    rw [this]
  | succ k =>
    have e1 : ((k + 1 : Nat) : Int) - 1 = (k : Int) := by omega
    have w2 : IntKind.wrap .i64 ((k : Int) - 1) = (k : Int) - 1 := wS (by omega) (by omega)
    have w3 : IntKind.wrap .u64 (k : Int) = k := wU (by omega)
    simp only [rootN] at hx
    split at hx
    · rename_i hM
      rw [Option.bind_eq_some_iff] at hx
      obtain ⟨b, hb, hx⟩ := hx
      rw [e1]
      have hge : decide ((k : Int) ≥ 0) = true := decide_eq_true (by omega)
      have w4 : IntKind.wrap .u64 (1 * 2 ^ k) = ((2 ^ k : Nat) : Int) := by
        rw [Int.one_mul, show (2 : Int) ^ k = ((2 ^ k : Nat) : Int) by rw [Int.natCast_pow]; rfl]
        exact wU (by omega)
      have hA := fun (Y : Mem) (h1 : Y.Wf) (h2 : Y.hb ≤ Y.hl) => r_ref27_above (X := Y) (t := y + 2 ^ k) hp hb h1 h2
      simp (maxDischargeDepth := 8) only [go_sem, hw, hge, w3, show ((k : Int) < 0) = False from eq_false (by omega), show min k 64 = k by omega, w4, wUa hM, hA, hhb]
      cases b with
      | true =>
        simp (maxDischargeDepth := 8) only [go_sem, w2]
        rw [KL_keep _ _ _ (by simp (maxDischargeDepth := 8) only [go_sem])]
        simp (maxDischargeDepth := 8) only [go_sem]
        exact ih (k, y) ⟨by dsimp only; omega, hx⟩ (by dsimp only; omega)
      | false =>
        simp (maxDischargeDepth := 8) only [go_sem, w2]
        rw [KL_keep _ _ _ (by simp (maxDischargeDepth := 8) only [go_sem])]
        simp (maxDischargeDepth := 8) only [go_sem]
        exact ih (k, y + 2 ^ k) ⟨by dsimp only; omega, hx⟩ (by dsimp only; omega)
    · cases hx
theorem wU1 {d : Nat} (h : d + 1 < 18446744073709551616) : IntKind.wrap .u64 ((d : Int) + 1) = ((d + 1 : Nat) : Int) := wUa (b := 1) h
def nI (l : List Nat) : List Int := l.map fun (n : Nat) => (n : Int)
theorem nI_len (l : List Nat) : (nI l).length = l.length := by simp [nI]
theorem r_ref27_roots {X : Mem} {n power f : Nat} {out : List Nat} (hp : 1 ≤ power ∧ power ≤ 100) (hn : n ≤ 1000) (h : rootsN n power f 2 [] = some out) (hf : f ≤ 1000) (hw : X.Wf) (hhb : X.hb ≤ X.hl) :
    ∃ H' v, RF tb f_ref27_roots [.int .i64 (n : Int), .int .i64 (power : Int)] X = some (v, X.hp H') ∧ Own (Fl.int .u32) H' v (nI out) ∧ Keep [] X.heap H' ∧ ∀ i ∈ slFp v, X.hl ≤ i := by
  rw [RF_go t_ref27_roots _ _ rfl, push_hp]
  generalize hH : X.heap = H at *
  have hHl : X.hl = H.length := by rw [← hH]; rfl
  simp (maxDischargeDepth := 8) only [go_sem, s_ref27_roots, hw, hH]
  have ow0 : Own (Fl.int .u32) (H ++ [(0, SBk.cells true [])]) (.sl (.hp H.length 0) 0 0 (some 0) 1) [] := own_new (kF_even .u32) H [] (some 0)
  rw [KL_keep _ _ _ (by simp (maxDischargeDepth := 8) only [go_sem])]
  simp (maxDischargeDepth := 8) only [go_sem]
  refine KL_ind (R := fun z => ∃ H' v, fin [.t 4] X z = some (v, X.hp H') ∧ Own (Fl.int .u32) H' v (nI out) ∧ Keep [] H H' ∧ ∀ i ∈ slFp v, X.hl ≤ i)
    (α := Nat × Nat × List Nat × SV × Hp) (fun q => q.1) (fun q => [(0, .int .i64 (n : Int)), (1, .int .i64 (power : Int)), (5, q.2.2.2.1), (6, .int .u64 (q.2.1 : Int))]) (fun q => (X.hp q.2.2.2.2).fr [] none)
    (fun q => Own (Fl.int .u32) q.2.2.2.2 q.2.2.2.1 (nI q.2.2.1) ∧ Keep [] H q.2.2.2.2 ∧ (∀ i ∈ slFp q.2.2.2.1, H.length ≤ i) ∧ q.2.1 + q.1 ≤ 1002 ∧ rootsN n power q.1 q.2.1 q.2.2.1 = some out) ?_ (f, 2, [], .sl (.hp H.length 0) 0 0 (some 0) 1, H ++ [(0, SBk.cells true [])]) ⟨ow0, Keep.app _ _ _, by simp [slFp], by dsimp only; omega, h⟩
  rintro ⟨f, p, o, v, Hc⟩ ⟨ow, kH, ff, hpf, h⟩ ih
  dsimp only at ow kH ff hpf h ⊢
  have so := ow.isSl (kF_even .u32)
  have lo := ow.lies (kF_even .u32)
  have hkk := kH.1
  cases f with
  | zero => cases h
  | succ f =>
    simp only [rootsN] at h
    split at h
    · rename_i hlt
      rw [Option.bind_eq_some_iff] at h
      obtain ⟨b, hb, h⟩ := h
      simp (maxDischargeDepth := 8) only [go_sem, hw, so.l, lo.len, nI_len, show decide ((o.length : Int) < (n : Int)) = true from decide_eq_true (by omega)]
      rw [KL_keep _ _ _ (by simp (maxDischargeDepth := 8) only [go_sem, so.l])]
      simp (maxDischargeDepth := 8) only [go_sem]
      have hpr : ∀ (g d : Nat) (pr : Bool), primeN p g d pr = some b → True := fun _ _ _ _ => trivial
      refine KL_ind (R := fun z => ∃ H' v, fin [.t 4] X z = some (v, X.hp H') ∧ Own (Fl.int .u32) H' v (nI out) ∧ Keep [] H H' ∧ ∀ i ∈ slFp v, X.hl ≤ i)
        (α := Nat × Nat × Bool) (fun q => q.1) (fun q => [(0, .int .i64 (n : Int)), (1, .int .i64 (power : Int)), (5, v), (6, .int .u64 (p : Int)), (7, .bool q.2.2), (8, .int .u64 (q.2.1 : Int))]) (fun _ => (X.hp Hc).fr [] none)
        (fun q => 2 ≤ q.2.1 ∧ primeN p q.1 q.2.1 q.2.2 = some b) ?_ (40, 2, true) ⟨Nat.le_refl _, hb⟩
      clear hb hpr
      rintro ⟨g, d, pr⟩ ⟨hd2, hb⟩ ih2
      dsimp only at hd2 hb ⊢
      cases g with
      | zero => cases hb
      | succ g =>
        simp only [primeN] at hb
        split at hb
        · rename_i hd6
          have hdd : d * d < 18446744073709551616 := by
            have : d * d ≤ 65536 * 65536 := Nat.mul_le_mul (by omega) (by omega)
            omega
          by_cases hle : d * d ≤ p
          · rw [if_pos hle] at hb
            have htm : (p : Int).tmod (d : Int) = ((p % d : Nat) : Int) := by rw [Int.tmod_eq_emod_of_nonneg (by omega)]; rfl
            have hd0 : ((d : Int) = 0) = False := eq_false (by omega)
            have hbe : (((p % d : Nat) : Int) != 0) = decide (p % d ≠ 0) := by
              by_cases h0 : p % d = 0
              · rw [h0]; rfl
              · rw [show decide (p % d ≠ 0) = true from decide_eq_true h0]; exact bne_iff_ne.2 (by omega)
            cases pr with
            | true =>
              simp (maxDischargeDepth := 8) only [go_sem, hw, so.l, wUm hdd, show decide (((d * d : Nat) : Int) ≤ (p : Int)) = true from decide_eq_true (by omega), htm, hd0, hbe, wU1 (show d + 1 < 18446744073709551616 by omega)]
              rw [KL_keep _ _ _ (by simp (maxDischargeDepth := 8) only [go_sem, so.l])]
              simp (maxDischargeDepth := 8) only [go_sem]
              rw [Bool.true_and] at hb
              exact ih2 (g, d + 1, decide (p % d ≠ 0)) ⟨by dsimp only; omega, hb⟩ (by dsimp only; omega)
            | false =>
              simp (maxDischargeDepth := 8) only [go_sem, hw, so.l, wUm hdd, show decide (((d * d : Nat) : Int) ≤ (p : Int)) = true from decide_eq_true (by omega), wU1 (show d + 1 < 18446744073709551616 by omega)]
              rw [KL_keep _ _ _ (by simp (maxDischargeDepth := 8) only [go_sem, so.l])]
              simp (maxDischargeDepth := 8) only [go_sem]
              rw [Bool.false_and] at hb
              exact ih2 (g, d + 1, false) ⟨by dsimp only; omega, hb⟩ (by dsimp only; omega)
          · rw [if_neg hle] at hb
            rw [Option.some.injEq] at hb
            subst hb
            have hf2 : decide (((d * d : Nat) : Int) ≤ (p : Int)) = false := decide_eq_false (by omega)
            cases pr with
            | true =>
              rw [if_pos rfl, Option.bind_eq_some_iff] at h
              obtain ⟨r, hr, h⟩ := h
              have hR := fun (Y : Mem) (h1 : Y.Wf) (h2 : Y.hb ≤ Y.hl) => r_ref27_root (X := Y) hp hr h1 h2
              have d2 : LiesD (Fl.int .u32) (Hm (Hc ++ [(0, SBk.cells true [SV.int .u32 (r : Int)])])) (.sl (.hp Hc.length 0) 0 1 (some 1) 1) [(r : Int)] := (own_new (kF_even .u32) Hc [(r : Int)] (some 1)).lies (kF_even .u32)
              obtain ⟨v', H2, a2, o2, k2, f2, -, -⟩ := app_ownY (kF_even .u32) (by decide) (kF_ok .u32) (kF_hx .u32) (ow.keep (Keep.app [] _ _) (by simp)) d2 (bytes := 4) (by rw [nI_len]; simp [two48]; omega) (by rw [nI_len]; simp [two48]; omega) X (fun i hi => by have := ff i hi; omega)
              have a2' : ∀ f e, appV 1 4 [.int .u32 0] (fun _ => true) v (.sl (.hp Hc.length 0) 0 1 (some 1) 1) ((X.hp (Hc ++ [(0, SBk.cells true [SV.int .u32 (r : Int)])])).fr f e) = some (v', (X.hp H2).fr f e) := fun f e => a2 [.int .u32 0] rfl (fun _ => true) (ow.aw (fun _ _ => rfl)) _ rfl rfl
              simp (maxDischargeDepth := 8) only [go_sem, hw, so.l, wUm hdd, hf2, hR, show X.hb ≤ Hc.length by omega, a2', wU1 (show p + 1 < 18446744073709551616 by omega)]
              rw [KL_keep _ _ _ (by simp (maxDischargeDepth := 8) only [go_sem, (o2.isSl (kF_even .u32)).l])]
              simp (maxDischargeDepth := 8) only [go_sem]
              refine ih (f, p + 1, o ++ [r], v', H2) ⟨by unfold nI at o2 ⊢; rw [List.map_append]; exact o2, kH.trans' ((Keep.app _ _ _).trans k2) (fun i hi hl => by have := ff i hi; omega), fun i hi => ?_, by dsimp only; omega, h⟩ (by dsimp only; omega)
              rcases f2 i hi with h3 | h3
              · exact ff i h3
              · simp at h3; omega
            | false =>
              rw [if_neg (by decide)] at h
              simp (maxDischargeDepth := 8) only [go_sem, hw, so.l, wUm hdd, hf2, wU1 (show p + 1 < 18446744073709551616 by omega)]
              rw [KL_keep _ _ _ (by simp (maxDischargeDepth := 8) only [go_sem, so.l])]
              simp (maxDischargeDepth := 8) only [go_sem]
              exact ih (f, p + 1, o, v, Hc) ⟨ow, kH, ff, by dsimp only; omega, h⟩ (by dsimp only; omega)
        · cases hb
    · rw [Option.some.injEq] at h
      rw [← h]
      simp (maxDischargeDepth := 8) only [go_sem, hw, so.l, lo.len, nI_len, show decide ((o.length : Int) < (n : Int)) = false from decide_eq_false (by omega)]
      have kt := (show Keep [] X.heap Hc by rw [hH]; exact kH).back1 (h := v.hx)
      rw [hH] at kt
      exact ⟨_, v, rfl, ow.congr fun i hi => fin_keep1 (.inr (by have := hx_fp hi; have := ff i hi; omega)), kt, fun i hi => by have := ff i hi; omega⟩
abbrev wF : Fl Int := Fl.int .u32
theorem app_1w {H : Hp} {v : SV} {l : List Int} (hv : Own wF H v l) (hl : l.length ≤ 200000) (x : Int) (B : Nat) (hm : ∀ i ∈ slFp v, B ≤ i) :
    ∃ v' H', (∀ Y : Mem, Y.heap = H ++ [(0, SBk.cells true [SV.int .u32 x])] → Y.hb = B → appV 1 4 [.int .u32 0] (fun _ => true) v (.sl (.hp H.length 0) 0 1 (some 1) 1) Y = some (v', Y.hp H')) ∧ Own wF H' v' (l ++ [x]) ∧ Keep (slFp v) H H' ∧ (∀ i ∈ slFp v', i ∈ slFp v ∨ H.length ≤ i) := by
  have d1 : LiesD wF (Hm (H ++ [(0, SBk.cells true [SV.int .u32 x])])) (.sl (.hp H.length 0) 0 1 (some 1) 1) [x] := (own_new (kF_even .u32) H [x] (some 1)).lies (kF_even .u32)
  obtain ⟨v2, H2, a2, o2, k2, f2, -, -⟩ := app_ownY (kF_even .u32) (by decide) (kF_ok .u32) (kF_hx .u32) (hv.keep (Keep.app [] _ _) (by simp)) d1 (bytes := 4) (by simp [two48]; omega) (by simp [two48]; omega) { Hm H with hb := B } hm
  exact ⟨v2, H2, fun Y h1 h2 => a2 [.int .u32 0] rfl (fun _ => true) (hv.aw (fun _ _ => rfl)) Y h1 h2, o2, (Keep.app _ _ _).trans k2, fun i hi => (f2 i hi).imp id (fun h => by simp at h; omega)⟩
theorem w32_4 (a s c t : Int) : w32 (w32 (w32 (a + s) + c) + t) = w32 (w32 (w32 (a + c) + s) + t) := by
  show (((a + s) % 4294967296 + c) % 4294967296 + t) % 4294967296 = (((a + c) % 4294967296 + s) % 4294967296 + t) % 4294967296
  omega
theorem w32_3 (t u m : Int) : w32 (w32 (t + u) + m) = w32 (t + w32 (u + m)) := by
  show ((t + u) % 4294967296 + m) % 4294967296 = (t + (u + m) % 4294967296) % 4294967296
  omega
def wl (b : List Int) (i : Nat) : List Int := if i < 16 then wfst b i else wseq b (i - 16)
theorem wl_len (b : List Int) (i : Nat) : (wl b i).length = i := by
  unfold wl; split
  · exact wfst_len b i
  · rw [wseq_len]; omega
theorem wl_lo {b : List Int} {i : Nat} (h : i < 16) : wl b (i + 1) = wl b i ++ [word4 b (4 * i)] := by
  unfold wl
  rw [if_pos h]
  split
  · exact wfst_succ b i
  · have : i = 15 := by omega
    subst this
    exact wfst_succ b 15
theorem wl_hi {b : List Int} {i : Nat} (h : ¬ i < 16) : wl b (i + 1) = wl b i ++ [wx (wl b i) i] := by
  unfold wl
  rw [if_neg h, if_neg (by omega), show i + 1 - 16 = (i - 16) + 1 by omega]
  simp only [wseq]
  rw [show 16 + (i - 16) = i by omega]
def outN (hs V : List Int) (n : Nat) : List Int := (List.range n).map fun j => w32 (hs.getD j 0 + V.getD j 0)
theorem r_ref27_block {X : Mem} {vh vk vb : SV} {hs b : List Int} (hh : LiesD wF (Hm X.heap) vh hs) (hk : LiesD wF (Hm X.heap) vk kC) (hb : LiesD (Fl.int .u8) (Hm X.heap) vb b) (h8 : hs.length = 8) (hbl : 64 ≤ b.length) (hw : X.Wf) (hhb : X.hb ≤ X.hl) :
    ∃ H' v, RF tb f_ref27_block [vh, vk, vb] X = some (v, X.hp H') ∧ Own wF H' v (blk hs b) ∧ Keep [] X.heap H' ∧ ∀ i ∈ slFp v, X.hl ≤ i := by
  rw [RF_go t_ref27_block _ _ rfl, push_hp]
  generalize hH : X.heap = H at *
  have hHl : X.hl = H.length := by rw [← hH]; rfl
  have sh := hh.isSl
  have sk := hk.isSl
  have sb := hb.isSl
  simp (maxDischargeDepth := 8) only [go_sem, s_ref27_block, hw, hH]
  have ow0 : Own wF (H ++ [(0, SBk.cells true [])]) (.sl (.hp H.length 0) 0 0 (some 0) 1) [] := own_new (kF_even .u32) H [] (some 0)
  rw [KL_keep _ _ _ (by simp (maxDischargeDepth := 8) only [go_sem, sh.l, sk.l, sb.l])]
  simp (maxDischargeDepth := 8) only [go_sem]
  refine KL_ind (R := fun z => ∃ H' v, fin [.t 6] X z = some (v, X.hp H') ∧ Own wF H' v (blk hs b) ∧ Keep [] H H' ∧ ∀ i ∈ slFp v, X.hl ≤ i)
    (α := Nat × SV × Hp) (fun q => 64 - q.1) (fun q => [(0, vh), (1, vk), (2, vb), (7, q.2.1), (8, .int .i64 (q.1 : Int))]) (fun q => (X.hp q.2.2).fr [] none)
    (fun q => q.1 ≤ 64 ∧ Own wF q.2.2 q.2.1 (wl b q.1) ∧ Keep [] H q.2.2 ∧ (∀ i ∈ slFp q.2.1, H.length ≤ i)) ?_ (0, .sl (.hp H.length 0) 0 0 (some 0) 1, H ++ [(0, SBk.cells true [])]) ⟨Nat.zero_le _, ow0, Keep.app _ _ _, by simp [slFp]⟩
  rintro ⟨i, v, Hc⟩ ⟨hi, ow, kH, ff⟩ ih
  dsimp only at hi ow kH ff ⊢
  have so := ow.isSl (kF_even .u32)
  have lo := ow.lies (kF_even .u32)
  have hkk := kH.1
  have hwl := wl_len b i
  by_cases hlt : i < 64
  · have hb' : LiesD (Fl.int .u8) (Hm Hc) vb b := hb.keep kH (by simp)
    by_cases h16 : i < 16
    · have w4 : IntKind.wrap .i64 (4 * (i : Int)) = ((4 * i : Nat) : Int) := by rw [wS (by omega) (by omega)]; omega
      have w41 : IntKind.wrap .i64 (((4 * i : Nat) : Int) + 1) = ((4 * i + 1 : Nat) : Int) := wSucc (by omega)
      have w42 : IntKind.wrap .i64 (((4 * i : Nat) : Int) + 2) = ((4 * i + 2 : Nat) : Int) := by rw [wS (by omega) (by omega)]; omega
      have w43 : IntKind.wrap .i64 (((4 * i : Nat) : Int) + 3) = ((4 * i + 3 : Nat) : Int) := by rw [wS (by omega) (by omega)]; omega
      obtain ⟨v', H', a', o', k', f'⟩ := app_1w ow (by omega) (word4 b (4 * i)) X.hb (fun i hi => by have := ff i hi; omega)
      have ew : word4 b (4 * i) = or32 (or32 (or32 (IntKind.wrap .u32 (IntKind.wrap .u32 (b.getD (4 * i) 0) * 2 ^ min 24 32)) (IntKind.wrap .u32 (IntKind.wrap .u32 (b.getD (4 * i + 1) 0) * 2 ^ min 16 32))) (IntKind.wrap .u32 (IntKind.wrap .u32 (b.getD (4 * i + 2) 0) * 2 ^ min 8 32))) (IntKind.wrap .u32 (b.getD (4 * i + 3) 0)) := rfl
      simp (maxDischargeDepth := 8) only [go_sem, hw, sh.l, sk.l, sb.l, so.l, show decide ((i : Int) < 64) = true from decide_eq_true (by omega), show decide ((i : Int) < 16) = true from decide_eq_true (by omega), w4, w41, w42, w43, hb'.iaddrK (i := 4 * i) (by omega), hb'.iaddrK (i := 4 * i + 1) (by omega), hb'.iaddrK (i := 4 * i + 2) (by omega), hb'.iaddrK (i := 4 * i + 3) (by omega), hb'.loadK (i := 4 * i) (by omega), hb'.loadK (i := 4 * i + 1) (by omega), hb'.loadK (i := 4 * i + 2) (by omega), hb'.loadK (i := 4 * i + 3) (by omega)]
      rw [← ew]
      simp (maxDischargeDepth := 8) only [go_sem, hw, a', so.l, wSucc (show i ≤ 4611686018427387903 by omega)]
      rw [KL_keep _ _ _ (by simp (maxDischargeDepth := 8) only [go_sem, sh.l, sk.l, sb.l, (o'.isSl (kF_even .u32)).l])]
      simp (maxDischargeDepth := 8) only [go_sem]
      refine ih (i + 1, v', H') ⟨by dsimp only; omega, by rw [wl_lo h16]; exact o', kH.trans' k' (fun i hi hl => by have := ff i hi; omega), fun i hi => ?_⟩ (by dsimp only; omega)
      rcases f' i hi with h | h
      · exact ff i h
      · omega
    · obtain ⟨v', H', a', o', k', f'⟩ := app_1w ow (by omega) (wx (wl b i) i) X.hb (fun i hi => by have := ff i hi; omega)
      have s15 : IntKind.wrap .i64 ((i : Int) - 15) = ((i - 15 : Nat) : Int) := by rw [wS (by omega) (by omega)]; omega
      have s2 : IntKind.wrap .i64 ((i : Int) - 2) = ((i - 2 : Nat) : Int) := by rw [wS (by omega) (by omega)]; omega
      have s16 : IntKind.wrap .i64 ((i : Int) - 16) = ((i - 16 : Nat) : Int) := by rw [wS (by omega) (by omega)]; omega
      have s7 : IntKind.wrap .i64 ((i : Int) - 7) = ((i - 7 : Nat) : Int) := by rw [wS (by omega) (by omega)]; omega
      simp (maxDischargeDepth := 8) only [go_sem, hw, sh.l, sk.l, sb.l, so.l, show decide ((i : Int) < 64) = true from decide_eq_true (by omega), show decide ((i : Int) < 16) = false from decide_eq_false (by omega), s15, s2, s16, s7, lo.iaddrK (i := i - 15) (by omega), lo.iaddrK (i := i - 2) (by omega), lo.iaddrK (i := i - 16) (by omega), lo.iaddrK (i := i - 7) (by omega), lo.loadK (i := i - 15) (by omega), lo.loadK (i := i - 2) (by omega), lo.loadK (i := i - 16) (by omega), lo.loadK (i := i - 7) (by omega), r_ref27_turn]
      have ew : wx (wl b i) i = IntKind.wrap .u32 (IntKind.wrap .u32 (IntKind.wrap .u32 ((wl b i).getD (i - 16) 0 + xr32 (xr32 (rr 7 ((wl b i).getD (i - 15) 0)) (rr 18 ((wl b i).getD (i - 15) 0))) (((wl b i).getD (i - 15) 0).fdiv (2 ^ min 3 32))) + (wl b i).getD (i - 7) 0) + xr32 (xr32 (rr 17 ((wl b i).getD (i - 2) 0)) (rr 19 ((wl b i).getD (i - 2) 0))) (((wl b i).getD (i - 2) 0).fdiv (2 ^ min 10 32))) := (w32_4 _ _ _ _).symm
      rw [← ew]
      simp (maxDischargeDepth := 8) only [go_sem, hw, a', so.l, wSucc (show i ≤ 4611686018427387903 by omega)]
      rw [KL_keep _ _ _ (by simp (maxDischargeDepth := 8) only [go_sem, sh.l, sk.l, sb.l, (o'.isSl (kF_even .u32)).l])]
      simp (maxDischargeDepth := 8) only [go_sem]
      refine ih (i + 1, v', H') ⟨by dsimp only; omega, by rw [wl_hi h16]; exact o', kH.trans' k' (fun i hi hl => by have := ff i hi; omega), fun i hi => ?_⟩ (by dsimp only; omega)
      rcases f' i hi with h | h
      · exact ff i h
      · omega
  · have ei : i = 64 := by omega
    subst ei
    clear ih
    rw [show wl b 64 = wseq b 48 from rfl] at ow lo
    have hwl := wseq_len b 48
    obtain ⟨vv, Hv, av, ov, kv, fv, sv⟩ := app_fresh (kF_even .u32) (by decide) (kF_ok .u32) (kF_hx .u32) (hh.keep kH (by simp)) (bytes := 4) (by simp only [two48]; omega) (by simp only [two48]; omega) X (by omega)
    have av' : ∀ f e, appV 1 4 [.int .u32 0] (fun _ => true) (.sl (.hp Hc.length 0) 0 0 (some 0) 1) vh ((X.hp (Hc ++ [(0, .cells true [])])).fr f e) = some (vv, (X.hp Hv).fr f e) := fun f e => av [.int .u32 0] rfl (fun _ => true) (fun _ _ => rfl) f e
    simp (maxDischargeDepth := 8) only [go_sem, hw, sh.l, sk.l, sb.l, so.l, av']
    have ow1 : Own wF Hv v (wseq b 48) := ow.keep kv (by simp)
    have kHv := kH.trans kv
    have fvv : ∀ i ∈ slFp vv, H.length ≤ i := fun i hi => by have := fv i hi; omega
    clear av av' fv kv ow lo kH hkk
    rw [KL_keep _ _ _ (by simp (maxDischargeDepth := 8) only [go_sem, sh.l, sk.l, so.l, sv.l])]
    simp (maxDischargeDepth := 8) only [go_sem]
    refine KL_ind (R := fun z => ∃ H' v, fin [.t 6] X z = some (v, X.hp H') ∧ Own wF H' v (blk hs b) ∧ Keep [] H H' ∧ ∀ i ∈ slFp v, X.hl ≤ i)
      (α := Nat × SV × Hp) (fun q => 64 - q.1) (fun q => [(0, vh), (1, vk), (7, v), (11, q.2.1), (12, .int .i64 (q.1 : Int))]) (fun q => (X.hp q.2.2).fr [] none)
      (fun q => q.1 ≤ 64 ∧ Own wF q.2.2 q.2.1 (rndN kC (wseq b 48) hs q.1) ∧ Own wF q.2.2 v (wseq b 48) ∧ Keep [] H q.2.2 ∧ (∀ i ∈ slFp q.2.1, H.length ≤ i)) ?_ (0, vv, Hv) ⟨Nat.zero_le _, ov, ow1, kHv, fvv⟩
    clear ov ow1 kHv fvv sv
    rintro ⟨i, u, Hd⟩ ⟨hi, ou, ow, kH, ff⟩ ih
    dsimp only at hi ou ow kH ff ⊢
    have su := ou.isSl (kF_even .u32)
    have lw := ow.lies (kF_even .u32)
    have lu := ou.lies (kF_even .u32)
    have hkk := kH.1
    have hk' : LiesD wF (Hm Hd) vk kC := hk.keep kH (by simp)
    by_cases hlt : i < 64
    · obtain ⟨a0, a1, a2, a3, a4, a5, a6, a7, ha⟩ := len8 (rndN_len (ks := kC) (ws := wseq b 48) h8 i)
      rw [ha] at lu
      have i0 : ∀ j m', iaddrV 1 u (.int j 0) m' = some (.ptr (.hp (slN u) (slW u)) (slO u), m') := fun j m' => lu.iaddrK (i := 0) (by simp) j m'
      have l0 : ∀ {Y : Mem}, HpSub (Hm Hd) Y → Y.load (.hp (slN u) (slW u)) (slO u) none = some (.int .u32 a0) := fun hY => lu.loadK (i := 0) (by simp) hY
      have i1 : ∀ j m', iaddrV 1 u (.int j 1) m' = some (.ptr (.hp (slN u) (slW u)) (slO u + 1), m') := fun j m' => lu.iaddrK (i := 1) (by simp) j m'
      have l1 : ∀ {Y : Mem}, HpSub (Hm Hd) Y → Y.load (.hp (slN u) (slW u)) (slO u + 1) none = some (.int .u32 a1) := fun hY => lu.loadK (i := 1) (by simp) hY
      have i2 : ∀ j m', iaddrV 1 u (.int j 2) m' = some (.ptr (.hp (slN u) (slW u)) (slO u + 2), m') := fun j m' => lu.iaddrK (i := 2) (by simp) j m'
      have l2 : ∀ {Y : Mem}, HpSub (Hm Hd) Y → Y.load (.hp (slN u) (slW u)) (slO u + 2) none = some (.int .u32 a2) := fun hY => lu.loadK (i := 2) (by simp) hY
      have i3 : ∀ j m', iaddrV 1 u (.int j 3) m' = some (.ptr (.hp (slN u) (slW u)) (slO u + 3), m') := fun j m' => lu.iaddrK (i := 3) (by simp) j m'
      have l3 : ∀ {Y : Mem}, HpSub (Hm Hd) Y → Y.load (.hp (slN u) (slW u)) (slO u + 3) none = some (.int .u32 a3) := fun hY => lu.loadK (i := 3) (by simp) hY
      have i4 : ∀ j m', iaddrV 1 u (.int j 4) m' = some (.ptr (.hp (slN u) (slW u)) (slO u + 4), m') := fun j m' => lu.iaddrK (i := 4) (by simp) j m'
      have l4 : ∀ {Y : Mem}, HpSub (Hm Hd) Y → Y.load (.hp (slN u) (slW u)) (slO u + 4) none = some (.int .u32 a4) := fun hY => lu.loadK (i := 4) (by simp) hY
      have i5 : ∀ j m', iaddrV 1 u (.int j 5) m' = some (.ptr (.hp (slN u) (slW u)) (slO u + 5), m') := fun j m' => lu.iaddrK (i := 5) (by simp) j m'
      have l5 : ∀ {Y : Mem}, HpSub (Hm Hd) Y → Y.load (.hp (slN u) (slW u)) (slO u + 5) none = some (.int .u32 a5) := fun hY => lu.loadK (i := 5) (by simp) hY
      have i6 : ∀ j m', iaddrV 1 u (.int j 6) m' = some (.ptr (.hp (slN u) (slW u)) (slO u + 6), m') := fun j m' => lu.iaddrK (i := 6) (by simp) j m'
      have l6 : ∀ {Y : Mem}, HpSub (Hm Hd) Y → Y.load (.hp (slN u) (slW u)) (slO u + 6) none = some (.int .u32 a6) := fun hY => lu.loadK (i := 6) (by simp) hY
      have i7 : ∀ j m', iaddrV 1 u (.int j 7) m' = some (.ptr (.hp (slN u) (slW u)) (slO u + 7), m') := fun j m' => lu.iaddrK (i := 7) (by simp) j m'
      have l7 : ∀ {Y : Mem}, HpSub (Hm Hd) Y → Y.load (.hp (slN u) (slW u)) (slO u + 7) none = some (.int .u32 a7) := fun hY => lu.loadK (i := 7) (by simp) hY
      simp (maxDischargeDepth := 8) only [go_sem, hw, sh.l, sk.l, so.l, su.l, show decide ((i : Int) < 64) = true from decide_eq_true (by omega), i0, i1, i2, i3, i4, i5, i6, i7, l0, l1, l2, l3, l4, l5, l6, l7, hpsub_hm, r_ref27_turn, hk'.iaddrK (i := i) (by show i < 64; omega), hk'.loadK (i := i) (by show i < 64; omega), lw.iaddrK (i := i) (by omega), lw.loadK (i := i) (by omega), wSucc (show i ≤ 4611686018427387903 by omega)]
      have e0 := w32_3 (rt1 a4 a5 a6 a7 (kC.getD i 0) ((wseq b 48).getD i 0)) (xr32 (xr32 (rr 2 a0) (rr 13 a0)) (rr 22 a0)) (xr32 (xr32 (an32 a0 a1) (an32 a0 a2)) (an32 a1 a2))
      dsimp only [w32, rt1] at e0
      rw [e0]
      rw [KL_keep _ _ _ (by simp (maxDischargeDepth := 8) only [go_sem, sh.l, sk.l, so.l])]
      simp (maxDischargeDepth := 8) only [go_sem]
      have e1 : rndN kC (wseq b 48) hs (i + 1) = rnd (kC.getD i 0) ((wseq b 48).getD i 0) [a0, a1, a2, a3, a4, a5, a6, a7] := by rw [← ha]; rfl
      have o1 : Own wF (Hd ++ [(0, SBk.cells true (wv (rnd (kC.getD i 0) ((wseq b 48).getD i 0) [a0, a1, a2, a3, a4, a5, a6, a7])))]) (.sl (.hp Hd.length 0) 0 8 (some 8) 1) (rnd (kC.getD i 0) ((wseq b 48).getD i 0) [a0, a1, a2, a3, a4, a5, a6, a7]) := own_new (kF_even .u32) Hd (rnd (kC.getD i 0) ((wseq b 48).getD i 0) [a0, a1, a2, a3, a4, a5, a6, a7]) (some 8)
      exact ih (i + 1, .sl (.hp Hd.length 0) 0 8 (some 8) 1, Hd ++ [(0, SBk.cells true (wv (rnd (kC.getD i 0) ((wseq b 48).getD i 0) [a0, a1, a2, a3, a4, a5, a6, a7])))]) ⟨by dsimp only; omega, by rw [e1]; exact o1, ow.keep (Keep.app [] _ _) (by simp), kH.trans (Keep.app _ _ _), by simp [slFp]; omega⟩ (by dsimp only; omega)
    · have ei : i = 64 := by omega
      subst ei
      clear ih
      simp (maxDischargeDepth := 8) only [go_sem, hw, sh.l, sk.l, so.l, su.l]
      have ow0 : Own wF (Hd ++ [(0, SBk.cells true [])]) (.sl (.hp Hd.length 0) 0 0 (some 0) 1) [] := own_new (kF_even .u32) Hd [] (some 0)
      have ou0 := ou.keep (Keep.app [] Hd [(0, SBk.cells true [])]) (by simp)
      have hblk : blk hs b = outN hs (rndN kC (wseq b 48) hs 64) 8 := by
        unfold blk
        have v8 := rndN_len (ks := kC) (ws := wseq b 48) h8 64
        generalize rndN kC (wseq b 48) hs 64 = V at *
        obtain ⟨a0, a1, a2, a3, a4, a5, a6, a7, rfl⟩ := len8 v8
        obtain ⟨g0, g1, g2, g3, g4, g5, g6, g7, rfl⟩ := len8 h8
        rfl
      have v8 := rndN_len (ks := kC) (ws := wseq b 48) h8 64
      rw [hblk]
      clear hblk
      generalize rndN kC (wseq b 48) hs 64 = V at *
      have kH0 := kH.trans (Keep.app [] Hd [(0, SBk.cells true [])])
      rw [KL_keep _ _ _ (by simp (maxDischargeDepth := 8) only [go_sem, sh.l, su.l])]
      simp (maxDischargeDepth := 8) only [go_sem]
      refine KL_ind (R := fun z => ∃ H' v, fin [.t 6] X z = some (v, X.hp H') ∧ Own wF H' v (outN hs V 8) ∧ Keep [] H H' ∧ ∀ i ∈ slFp v, X.hl ≤ i)
        (α := Nat × SV × Hp) (fun q => 8 - q.1) (fun q => [(0, vh), (11, u), (18, q.2.1), (19, .int .i64 (q.1 : Int))]) (fun q => (X.hp q.2.2).fr [] none)
        (fun q => q.1 ≤ 8 ∧ Own wF q.2.2 q.2.1 (outN hs V q.1) ∧ Own wF q.2.2 u V ∧ Keep [] H q.2.2 ∧ (∀ i ∈ slFp q.2.1, Hd.length ≤ i) ∧ Hd.length ≤ q.2.2.length) ?_ (0, .sl (.hp Hd.length 0) 0 0 (some 0) 1, Hd ++ [(0, SBk.cells true [])]) ⟨Nat.zero_le _, ow0, ou0, kH0, by simp [slFp], by simp⟩
      clear ow0 ou0 kH0 lw lu ow hk'
      rintro ⟨i, v2, He⟩ ⟨hi2, o2, ou2, k2, f2, le⟩ ih
      dsimp only at hi2 o2 ou2 k2 f2 le ⊢
      have s2 := o2.isSl (kF_even .u32)
      have lu2 := ou2.lies (kF_even .u32)
      have hh2 : LiesD wF (Hm He) vh hs := hh.keep k2 (by simp)
      have hk2 := k2.1
      have fu := ou.fp
      by_cases h8i : i < 8
      · have ol : (outN hs V i).length = i := by simp [outN]
        obtain ⟨v', H', a', o', k', f'⟩ := app_1w o2 (by omega) (w32 (hs.getD i 0 + V.getD i 0)) X.hb (fun i hi => by have := f2 i hi; omega)
        simp (maxDischargeDepth := 8) only [go_sem, hw, sh.l, su.l, s2.l, show decide ((i : Int) < 8) = true from decide_eq_true (by omega), hh2.iaddrK (i := i) (by omega), hh2.loadK (i := i) (by omega), lu2.iaddrK (i := i) (by omega), lu2.loadK (i := i) (by omega), a', wSucc (show i ≤ 4611686018427387903 by omega)]
        rw [KL_keep _ _ _ (by simp (maxDischargeDepth := 8) only [go_sem, sh.l, su.l, (o'.isSl (kF_even .u32)).l])]
        simp (maxDischargeDepth := 8) only [go_sem]
        refine ih (i + 1, v', H') ⟨by dsimp only; omega, by show Own wF H' v' (outN hs V (i + 1)); rw [show outN hs V (i + 1) = outN hs V i ++ [w32 (hs.getD i 0 + V.getD i 0)] by simp [outN, List.range_succ]]; exact o', ou2.keep k' (fun j hj hc => by have := f2 j hc; have := fu j hj; omega), k2.trans' k' (fun i hi hl => by have := f2 i hi; omega), fun i hi => ?_, Nat.le_trans le k'.1⟩ (by dsimp only; omega)
        rcases f' i hi with h | h
        · exact f2 i h
        · omega
      · have ei : i = 8 := by omega
        subst ei
        simp (maxDischargeDepth := 8) only [go_sem, hw, sh.l, su.l, s2.l]
        have kt := (show Keep [] X.heap He by rw [hH]; exact k2).back1 (h := v2.hx)
        rw [hH] at kt
        exact ⟨_, v2, rfl, o2.congr fun i hi => fin_keep1 (.inr (by have := hx_fp hi; have := f2 i hi; omega)), kt, fun i hi => by have := f2 i hi; omega⟩
theorem eat_app : ∀ n (h b s : List Int), b.length / 64 = n → eat h (b ++ s) = eat (eat h b).1 ((eat h b).2 ++ s) := by
  intro n
  induction n with
  | zero => intro h b s hn; rw [eat_stop (show b.length < 64 by omega)]
  | succ n ih =>
    intro h b s hn
    have hb : 64 ≤ b.length := by omega
    rw [eat_go (r := b ++ s) (by rw [List.length_append]; omega), eat_go hb, List.take_append_of_le_length hb, List.drop_append_of_le_length hb]
    exact ih _ _ _ (by rw [List.length_drop]; omega)
theorem eat_rest : ∀ n (h b : List Int), b.length / 64 = n → (eat h b).2.length = b.length % 64 := by
  intro n
  induction n with
  | zero => intro h b hn; rw [eat_stop (show b.length < 64 by omega)]; show b.length = _; omega
  | succ n ih =>
    intro h b hn
    rw [eat_go (show 64 ≤ b.length by omega), ih _ _ (by rw [List.length_drop]; omega), List.length_drop]
    omega
/-- The sum of pieces is that of the whole. -/
theorem sum_whole (h b : List Int) (n : Int) : sumB (eat h b).1 (eat h b).2 n = sumB h b n := by
  unfold sumB
  congr 2
  have e1 : padB (eat h b).2 n = (eat h b).2 ++ ([128] ++ List.replicate (padZ b.length) 0 ++ lenB n) := by
    unfold padB
    rw [show padZ (eat h b).2.length = padZ b.length by unfold padZ; rw [eat_rest _ h b rfl, Nat.mod_mod]]
    simp only [List.append_assoc]
  have e2 : padB b n = b ++ ([128] ++ List.replicate (padZ b.length) 0 ++ lenB n) := by
    unfold padB
    simp only [List.append_assoc]
  rw [e1, e2, ← eat_app _ h b _ rfl]
theorem cutK {k : IntKind} {m : Mem} {v : SV} {l : List Int} (h : LiesD (Fl.int k) m v l) (hc : capN v) {lo : Nat} (hl : lo + 64 ≤ l.length) : ∃ w, sliceV 1 v (some (lo : Int)) (some ((lo + 64 : Nat) : Int)) none = some w ∧ LiesD (Fl.int k) m w ((l.drop lo).take 64) := by
  have hd := h.dropKl (lo := lo) (by omega)
  have ht := (hd.takeK (dropV_cap hc) (hi := 64) (by rw [List.length_drop]; omega)).2
  refine ⟨takeV 64 (dropV 1 lo v), ?_, ht⟩
  rcases h.2 with ⟨rfl, h0⟩ | ⟨rfl, h0⟩ | ⟨n, w, off, cap, c, rw, rfl, g1, g2, g3⟩
  · rw [h0] at hl; omega
  · rw [h0] at hl; omega
  · cases hc _ _ _ _ _ rfl
    have a1 : (0 : Int) ≤ (lo : Int) ∧ (lo : Int) ≤ ((lo + 64 : Nat) : Int) := by omega
    have a2 : (0 : Int) ≤ ((lo + 64 : Nat) : Int) ∧ ((lo + 64 : Nat) : Int) ≤ (l.length : Int) := by omega
    simp only [sliceV, bnds, Option.getD_none, if_pos a1, if_pos a2, Option.map_some, takeV, dropV, Int.toNat_natCast, Option.map_none, Nat.add_sub_cancel_left, if_pos (show (Fl.int k).sz = 1 from rfl)]
theorem r_ref27_padded {X : Mem} {vb : SV} {b : List Int} (hb : LiesD bF (Hm X.heap) vb b) (hbl : b.length ≤ 100000) (hw : X.Wf) (hhb : X.hb ≤ X.hl) :
    ∃ H' v, RF tb f_ref27_padded [vb] X = some (v, X.hp H') ∧ Own bF H' v (padB b (b.length : Int)) ∧ Keep [] X.heap H' ∧ (∀ i ∈ slFp v, X.hl ≤ i) ∧ capN v := by
  rw [RF_go t_ref27_padded _ _ rfl, push_hp]
  generalize hH : X.heap = H at *
  have hHl : X.hl = H.length := by rw [← hH]; rfl
  have sb := hb.isSl
  obtain ⟨v1, H1, a1, o1, k1, f1, s1⟩ := app_fresh (kF_even .u8) (by decide) (kF_ok .u8) (kF_hx .u8) hb (bytes := 1) (by simp only [two48]; omega) (by simp only [two48]; omega) X (by omega)
  have a1' : ∀ f e, appV 1 1 [.int .u8 0] (fun _ => true) (.sl (.hp H.length 0) 0 0 (some 0) 1) vb ((X.hp (H ++ [(0, .cells true [])])).fr f e) = some (v1, (X.hp H1).fr f e) := fun f e => a1 [.int .u8 0] rfl (fun _ => true) (fun _ _ => rfl) f e
  obtain ⟨v2, H2, a2, o2, c2, k2, f2⟩ := app_1 o1 (by omega) 128 X.hb (fun i hi => by have := f1 i hi; omega)
  simp (maxDischargeDepth := 8) only [go_sem, s_ref27_padded, hw, hH, a1', a2]
  rw [KL_keep _ _ _ (by simp (maxDischargeDepth := 8) only [go_sem, sb.l, (o2.isSl (kF_even .u8)).l])]
  simp (maxDischargeDepth := 8) only [go_sem]
  have kk2 : Keep [] H H2 := k1.trans' k2 (fun i hi hl => by have := f1 i hi; omega)
  have ff2 : ∀ i ∈ slFp v2, H.length ≤ i := fun i hi => by
    rcases f2 i hi with h | h
    · exact f1 i h
    · have := k1.1; omega
  clear a1' a1 a2 f2 k1 f1 s1 o1 k2
  have hz := Nat.mod_lt b.length (show 0 < 64 by decide)
  refine KL_ind (R := fun z => ∃ H' v, fin [.t 2] X z = some (v, X.hp H') ∧ Own bF H' v (padB b (b.length : Int)) ∧ Keep [] H H' ∧ (∀ i ∈ slFp v, X.hl ≤ i) ∧ capN v)
    (α := Nat × SV × Hp) (fun q => padZ b.length - q.1) (fun q => [(0, vb), (3, q.2.1)])
    (fun q => (X.hp q.2.2).fr [] none)
    (fun q => q.1 ≤ padZ b.length ∧ Own bF q.2.2 q.2.1 (b ++ [128] ++ List.replicate q.1 0) ∧ capN q.2.1 ∧ Keep [] H q.2.2 ∧ ∀ i ∈ slFp q.2.1, H.length ≤ i) ?_ (0, v2, H2) ⟨Nat.zero_le _, by simpa using o2, c2, kk2, ff2⟩
  clear o2 c2 kk2 ff2
  rintro ⟨j, v, Hc⟩ ⟨hj, ow, hc, kH, ff⟩ ih
  dsimp only at hj ow hc kH ff ⊢
  obtain ⟨L, hL⟩ : ∃ L, b ++ [128] ++ List.replicate j 0 = L := ⟨_, rfl⟩
  have hLl : L.length = b.length + 1 + j := by rw [← hL]; simp; omega
  rw [hL] at ow
  have lo := ow.lies (kF_even .u8)
  have hkk := kH.1
  by_cases hjz : j < padZ b.length
  · obtain ⟨v', H', a', o', c', k', f'⟩ := app_1 ow (by unfold padZ at hjz; omega) 0 X.hb (fun i hi => by have := ff i hi; omega)
    simp (maxDischargeDepth := 8) only [go_sem, hw, lo.len, hLl, tmod64, show ((((b.length + 1 + j) % 64 : Nat) : Int) != 56) = true from bne_iff_ne.2 (by unfold padZ at hjz; omega), (ow.isSl (kF_even .u8)).l, sb.l, a']
    rw [KL_keep _ _ _ (by simp (maxDischargeDepth := 8) only [go_sem, hw, sb.l, (o'.isSl (kF_even .u8)).l])]
    simp (maxDischargeDepth := 8) only [go_sem]
    refine ih (j + 1, v', H') ⟨by dsimp only; omega, ?_, c', kH.trans' k' (fun i hi hl => by have := ff i hi; omega), fun i hi => ?_⟩ (by dsimp only; omega)
    · dsimp only; rw [List.replicate_succ', ← List.append_assoc, hL]; exact o'
    · rcases f' i hi with h | h
      · exact ff i h
      · omega
  · have ej : j = padZ b.length := by omega
    have hb' : LiesD bF (Hm Hc) vb b := hb.keep kH (by simp)
    simp (maxDischargeDepth := 8) only [go_sem, hw, lo.len, hLl, tmod64, show ((((b.length + 1 + j) % 64 : Nat) : Int) != 56) = false from bne_eq_false_iff_eq.2 (by rw [ej]; unfold padZ; omega), (ow.isSl (kF_even .u8)).l, sb.l, hb'.len]
    rw [KL_keep _ _ _ (by simp (maxDischargeDepth := 8) only [go_sem, hw, (ow.isSl (kF_even .u8)).l])]
    simp (maxDischargeDepth := 8) only [go_sem]
    rw [ej] at hL
    obtain ⟨n, hn⟩ : ∃ n, (b.length : Int) = n := ⟨_, rfl⟩
    rw [hn]
    have hpad : padB b n = L ++ lenB n := by unfold padB; rw [hL]
    clear ih
    refine KL_ind (R := fun z => ∃ H' v, fin [.t 2] X z = some (v, X.hp H') ∧ Own bF H' v (padB b n) ∧ Keep [] H H' ∧ (∀ i ∈ slFp v, X.hl ≤ i) ∧ capN v)
      (α := Nat × SV × Hp) (fun q => 8 - q.1) (fun q => [(3, q.2.1), (4, .int .u64 (w64 (w64 n * 8))), (5, .int .i64 (56 - 8 * (q.1 : Int)))])
      (fun q => (X.hp q.2.2).fr [] none)
      (fun q => q.1 ≤ 8 ∧ Own bF q.2.2 q.2.1 (L ++ (lenB n).take q.1) ∧ capN q.2.1 ∧ Keep [] H q.2.2 ∧ ∀ i ∈ slFp q.2.1, H.length ≤ i) ?_ (0, v, Hc) ⟨Nat.zero_le _, by simpa using ow, hc, kH, ff⟩
    clear ow hc kH ff lo hkk hb' v Hc
    rintro ⟨i, v, Hc⟩ ⟨hi, ow, hc, kH, ff⟩ ih
    dsimp only at hi ow hc kH ff ⊢
    have l8 : (lenB n).length = 8 := by simp [lenB]
    have hkk := kH.1
    by_cases h8i : i < 8
    · obtain ⟨v', H', a', o', c', k', f'⟩ := app_1 ow (by rw [List.length_append, List.length_take]; unfold padZ at ej; omega) (w8 ((w64 (w64 n * 2 ^ 3)).fdiv (2 ^ (56 - 8 * i)))) X.hb (fun i hi => by have := ff i hi; omega)
      have es : IntKind.wrap .i64 (56 - 8 * (i : Int) - 8) = 56 - 8 * ((i + 1 : Nat) : Int) := by rw [wS (by omega) (by omega)]; omega
      have eg : (56 - 8 * (i : Int)).toNat = 56 - 8 * i := by omega
      have em : min (56 - 8 * i) 64 = 56 - 8 * i := by omega
      have wc : IntKind.wrap .u64 (56 - 8 * (i : Int)) = 56 - 8 * (i : Int) := wrap_u64 (by omega)
      have a'' : ∀ Y : Mem, Y.heap = Hc ++ [(0, SBk.cells true [SV.int .u8 (IntKind.wrap .u8 ((IntKind.wrap .u64 (IntKind.wrap .u64 n * 8)).fdiv (2 ^ (56 - 8 * i))))])] → Y.hb = X.hb → appV 1 1 [.int .u8 0] (fun _ => true) v (.sl (.hp Hc.length 0) 0 1 (some 1) 1) Y = some (v', Y.hp H') := a'
      simp (maxDischargeDepth := 8) only [go_sem, hw, show decide (56 - 8 * (i : Int) ≥ 0) = true from decide_eq_true (by omega), show (56 - 8 * (i : Int) < 0) = False from eq_false (by omega), (ow.isSl (kF_even .u8)).l, wc, eg, em, a'', es]
      rw [KL_keep _ _ _ (by simp (maxDischargeDepth := 8) only [go_sem, hw, (o'.isSl (kF_even .u8)).l])]
      simp (maxDischargeDepth := 8) only [go_sem]
      refine ih (i + 1, v', H') ⟨by dsimp only; omega, ?_, c', kH.trans' k' (fun i hi hl => by have := ff i hi; omega), fun i hi => ?_⟩ (by dsimp only; omega)
      · dsimp only
        rw [List.append_assoc] at o'
        rw [List.take_add_one, show (lenB n)[i]? = some (w8 ((w64 (w64 n * 2 ^ 3)).fdiv (2 ^ (56 - 8 * i)))) by unfold lenB; rw [List.getElem?_map, List.getElem?_range h8i]; rfl]
        exact o'
      · rcases f' i hi with h | h
        · exact ff i h
        · omega
    · have ei : i = 8 := by omega
      subst ei
      clear ih
      rw [List.take_of_length_le (by omega), ← hpad] at ow
      simp (maxDischargeDepth := 8) only [go_sem, hw, show decide ((-8 : Int) ≥ 0) = false from by decide, (ow.isSl (kF_even .u8)).l]
      have kt := (show Keep [] X.heap Hc by rw [hH]; exact kH).back1 (h := v.hx)
      rw [hH] at kt
      exact ⟨_, v, rfl, ow.congr fun i hi => fin_keep1 (.inr (by have := hx_fp hi; have := ff i hi; omega)), kt, fun i hi => by have := ff i hi; omega, hc⟩
theorem outB_get : ∀ (l : List Int) (i : Nat), i < 4 * l.length → (outB l)[i]? = some (w8 ((l.getD (i / 4) 0).fdiv (2 ^ (24 - i % 4 * 8)))) := by
  intro l
  induction l with
  | nil => intro i h; simp at h
  | cons x l ih =>
    intro i h
    have e : outB (x :: l) = [w8 (x.fdiv (2 ^ 24)), w8 (x.fdiv (2 ^ 16)), w8 (x.fdiv (2 ^ 8)), w8 x] ++ outB l := rfl
    by_cases h4 : i < 4
    · have : i = 0 ∨ i = 1 ∨ i = 2 ∨ i = 3 := by omega
      rcases this with rfl | rfl | rfl | rfl
      · rfl
      · rfl
      · rfl
      · rw [e]
        show some (w8 x) = some (w8 (x.fdiv (2 ^ 0)))
        rw [show (2 : Int) ^ 0 = 1 from rfl, Int.fdiv_one]
    · rw [e, List.getElem?_append_right (by simp; omega), show i - [w8 (x.fdiv (2 ^ 24)), w8 (x.fdiv (2 ^ 16)), w8 (x.fdiv (2 ^ 8)), w8 x].length = i - 4 from rfl, ih (i - 4) (by simp at h; omega), show i / 4 = (i - 4) / 4 + 1 by omega, List.getD_cons_succ, show (i - 4) % 4 = i % 4 by omega]
theorem nI_hC : nI (hC.map Int.toNat) = hC := by decide
theorem nI_kC : nI (kC.map Int.toNat) = kC := by decide
theorem set_b {l : List Int} {n : Nat} {x : Int} : (bv (l ++ List.replicate (n + 1) 0)).take l.length ++ [SV.int .u8 x] ++ (bv (l ++ List.replicate (n + 1) 0)).drop (l.length + 1) = bv ((l ++ [x]) ++ List.replicate n 0) := by
  simp only [bv, List.map_append]
  rw [List.take_append_of_le_length (by simp), List.take_of_length_le (by simp), List.drop_append, List.drop_of_length_le (by simp)]
  simp [List.replicate_succ]
theorem r_ref27_Of {X : Mem} {vb : SV} {b : List Int} (hb : LiesD bF (Hm X.heap) vb b) (hbl : b.length ≤ 100000) (hw : X.Wf) (hhb : X.hb ≤ X.hl) : RF tb f_ref27_Of [vb] X = some (.agg (bv (shaP b)), X) := by
  rw [RF_go t_ref27_Of _ _ rfl, push_hp]
  generalize hH : X.heap = H at *
  have hHl : X.hl = H.length := by rw [← hH]; rfl
  have sb := hb.isSl
  obtain ⟨Z, hZ⟩ : ∃ Z, bv (List.replicate 32 0) = Z := ⟨_, rfl⟩
  have hZ' : [SV.int .u8 0, SV.int .u8 0, SV.int .u8 0, SV.int .u8 0, SV.int .u8 0, SV.int .u8 0, SV.int .u8 0, SV.int .u8 0, SV.int .u8 0, SV.int .u8 0, SV.int .u8 0, SV.int .u8 0, SV.int .u8 0, SV.int .u8 0, SV.int .u8 0, SV.int .u8 0, SV.int .u8 0, SV.int .u8 0, SV.int .u8 0, SV.int .u8 0, SV.int .u8 0, SV.int .u8 0, SV.int .u8 0, SV.int .u8 0, SV.int .u8 0, SV.int .u8 0, SV.int .u8 0, SV.int .u8 0, SV.int .u8 0, SV.int .u8 0, SV.int .u8 0, SV.int .u8 0] = Z := hZ
  simp (maxDischargeDepth := 8) only [go_sem, s_ref27_Of, hw, hH]
  rw [hZ']
  generalize hz : RF tb f_ref27_roots _ _ = z
  obtain ⟨H1, vh, rfl, oh, k1, f1⟩ := hz ▸ r_ref27_roots (X := (X.hp H).fr [.cells true Z] none) (n := 8) (power := 2) (by omega) (by omega) roots8 (by omega) (fr_wf (hp_wf hw) _ _) (by show X.hb ≤ H.length; omega)
  rw [nI_hC] at oh
  have k1' : Keep [] H H1 := k1
  have f1' : ∀ i ∈ slFp vh, H.length ≤ i := f1
  simp (maxDischargeDepth := 8) only [go_sem, hw]
  generalize hz : RF tb f_ref27_roots _ _ = z
  obtain ⟨H2, vk, rfl, ok, k2, f2⟩ := hz ▸ r_ref27_roots (X := (X.hp H1).fr [.cells true Z] none) (n := 64) (power := 3) (by omega) (by omega) roots64 (by omega) (fr_wf (hp_wf hw) _ _) (by show X.hb ≤ H1.length; have := k1'.1; omega)
  rw [nI_kC] at ok
  have k2' : Keep [] H1 H2 := k2
  simp (maxDischargeDepth := 8) only [go_sem, hw]
  generalize hz : RF tb f_ref27_padded _ _ = z
  obtain ⟨H3, vp, rfl, op, k3, f3, cp⟩ := hz ▸ r_ref27_padded (X := (X.hp H2).fr [.cells true Z] none) (hb.keep (k1'.trans k2') (by simp)) hbl (fr_wf (hp_wf hw) _ _) (by show X.hb ≤ H2.length; have := k1'.1; have := k2'.1; omega)
  have k3' : Keep [] H2 H3 := k3
  have oh3 : Own wF H3 vh hC := (oh.keep k2' (by simp)).keep k3' (by simp)
  have ok3 : Own wF H3 vk kC := ok.keep k3' (by simp)
  have kk : Keep [] H H3 := (k1'.trans k2').trans k3'
  have hsh : shaP b = outB (eat hC (padB b (b.length : Int))).1 := by
    unfold shaP
    rw [sum_whole, wS (by omega) (by omega)]; rfl
  rw [hsh]
  have hpl : (padB b (b.length : Int)).length % 64 = 0 := by
    unfold padB
    rw [List.length_append, show (lenB (b.length : Int)).length = 8 by simp [lenB]]
    simp [padZ]; omega
  have hpl2 : (padB b (b.length : Int)).length ≤ 200000 := by
    unfold padB
    rw [List.length_append, show (lenB (b.length : Int)).length = 8 by simp [lenB]]
    simp [padZ]; omega
  have sk := ok3.isSl (kF_even .u32)
  have sp := op.isSl (kF_even .u8)
  simp (maxDischargeDepth := 8) only [go_sem, hw]
  rw [KL_keep _ _ _ (by simp (maxDischargeDepth := 8) only [go_sem, (oh3.isSl (kF_even .u32)).l, sk.l, sp.l])]
  simp (maxDischargeDepth := 8) only [go_sem]
  generalize padB b (b.length : Int) = L at *
  refine KL_indE (α := Nat × List Int × SV × Hp) (fun q => L.length - 64 * q.1) (fun q => [(2, .ptr (.st X.dep 0) 0), (3, q.2.2.1), (4, vk), (5, vp), (6, .int .i64 ((64 * q.1 : Nat) : Int))]) (fun q => (X.hp q.2.2.2).fr [.cells true Z] none)
    (fun q => 64 * q.1 ≤ L.length ∧ q.2.1.length = 8 ∧ Own wF q.2.2.2 q.2.2.1 q.2.1 ∧ Own wF q.2.2.2 vk kC ∧ Own bF q.2.2.2 vp L ∧ Keep [] H q.2.2.2 ∧ eat q.2.1 (L.drop (64 * q.1)) = eat hC L) ?_ (0, hC, vh, H3) ⟨by omega, rfl, oh3, ok3, op, kk, rfl⟩
  clear oh3 ok3 op kk hz
  rintro ⟨i, hs, v, Hc⟩ ⟨hi, h8, ow, ok, op, kH, hE⟩ ih
  dsimp only at hi h8 ow ok op kH hE ⊢
  have so := ow.isSl (kF_even .u32)
  have lp := op.lies (kF_even .u8)
  have hkk := kH.1
  by_cases hlt : 64 * i < L.length
  · have w1 : IntKind.wrap .i64 (((64 * i : Nat) : Int) + 64) = ((64 * i + 64 : Nat) : Int) := by rw [wS (by omega) (by omega)]; omega
    obtain ⟨vc, c1, c2⟩ := cutK lp cp (lo := 64 * i) (by omega)
    simp (maxDischargeDepth := 8) only [go_sem, hw, so.l, sk.l, sp.l, lp.len, show decide (((64 * i : Nat) : Int) < (L.length : Int)) = true from decide_eq_true (by omega), w1, c1]
    generalize hz : RF tb f_ref27_block _ _ = z
    obtain ⟨H4, v4, rfl, o4, k4, f4⟩ := hz ▸ r_ref27_block (X := (X.hp Hc).fr [.cells true Z] none) (ow.lies (kF_even .u32)) (ok.lies (kF_even .u32)) c2 h8 (by rw [List.length_take, List.length_drop]; omega) (fr_wf (hp_wf hw) _ _) (by show X.hb ≤ Hc.length; omega)
    have k4' : Keep [] Hc H4 := k4
    simp (maxDischargeDepth := 8) only [go_sem, hw]
    rw [KL_keep _ _ _ (by simp (maxDischargeDepth := 8) only [go_sem, sk.l, sp.l, (o4.isSl (kF_even .u32)).l])]
    simp (maxDischargeDepth := 8) only [go_sem, w1]
    have hd : 64 ≤ (L.drop (64 * i)).length := by rw [List.length_drop]; omega
    rw [eat_go hd, List.drop_drop] at hE
    have := ih (i + 1, blk hs ((L.drop (64 * i)).take 64), v4, H4) ⟨by dsimp only; omega, blk_len h8, o4, ok.keep k4' (by simp), op.keep k4' (by simp), kH.trans k4', by rw [show 64 * (i + 1) = 64 * i + 64 by omega]; exact hE⟩ (by dsimp only; omega)
    rw [show 64 * (i + 1) = 64 * i + 64 by omega] at this
    exact this
  · have ei : 64 * i = L.length := by omega
    rw [ei, List.drop_of_length_le (Nat.le_refl _), eat_stop (by simp)] at hE
    rw [← hE]
    simp (maxDischargeDepth := 8) only [go_sem, hw, so.l, sk.l, sp.l, lp.len, show decide (((64 * i : Nat) : Int) < (L.length : Int)) = false from decide_eq_false (by omega)]
    rw [hZ', ← hZ]
    rw [KL_keep _ _ _ (by simp (maxDischargeDepth := 8) only [go_sem, so.l])]
    simp (maxDischargeDepth := 8) only [go_sem]
    have ol := outB_len h8
    have lv := ow.lies (kF_even .u32)
    refine KL_indE (α := Nat) (fun j => 32 - j) (fun j => [(2, .ptr (.st X.dep 0) 0), (3, v), (7, .ptr (.st X.dep 1) 0), (8, .int .i64 (j : Int))]) (fun j => (X.hp Hc).fr [.cells true (bv (List.replicate 32 0)), .cells true (bv ((outB hs).take j ++ List.replicate (32 - j) 0))] none)
      (fun j => j ≤ 32) ?_ 0 (Nat.zero_le _)
    clear ih
    intro j hj ih
    by_cases hlt2 : j < 32
    · have q1 : IntKind.wrap .i64 ((j : Int).tdiv 4) = ((j / 4 : Nat) : Int) := by rw [Int.tdiv_eq_ediv_of_nonneg (by omega), wS (by omega) (by omega)]; omega
      have q2 : (j : Int).tmod 4 = ((j % 4 : Nat) : Int) := by rw [Int.tmod_eq_emod_of_nonneg (by omega)]; omega
      have q3 : IntKind.wrap .i64 (((j % 4 : Nat) : Int) * 8) = ((j % 4 * 8 : Nat) : Int) := by rw [wS (by omega) (by omega)]; omega
      have q4 : IntKind.wrap .i64 (24 - ((j % 4 * 8 : Nat) : Int)) = ((24 - j % 4 * 8 : Nat) : Int) := by rw [wS (by omega) (by omega)]; omega
      have q5 : IntKind.wrap .u64 ((24 - j % 4 * 8 : Nat) : Int) = ((24 - j % 4 * 8 : Nat) : Int) := wU (by omega)
      have q6 : min (24 - j % 4 * 8) 32 = 24 - j % 4 * 8 := by omega
      have tl : ((outB hs).take j).length = j := by rw [List.length_take]; omega
      have e1 : 32 - j = (31 - j) + 1 := by omega
      have hz : j + 1 ≤ (bv ((outB hs).take j ++ List.replicate (31 - j + 1) 0)).length := by rw [List.length_map, List.length_append, tl, List.length_replicate]; omega
      simp (maxDischargeDepth := 8) only [go_sem, hw, so.l, show decide ((j : Int) < 32) = true from decide_eq_true (by omega), q1, q2, q3, q4, q5, q6, show (((24 - j % 4 * 8 : Nat) : Int) < 0) = False from eq_false (by omega), Int.toNat_natCast, inB_nat hlt2, Nat.mul_one, lv.iaddrK (i := j / 4) (by omega), lv.loadK (i := j / 4) (by omega), e1, hz, wSucc (show j ≤ 4611686018427387903 by omega)]
      rw [KL_keep _ _ _ (by simp (maxDischargeDepth := 8) only [go_sem, so.l])]
      simp (maxDischargeDepth := 8) only [go_sem]
      have es := set_b (l := (outB hs).take j) (n := 31 - j) (x := w8 ((hs.getD (j / 4) 0).fdiv (2 ^ (24 - j % 4 * 8))))
      rw [tl] at es
      have ih' := ih (j + 1) (by omega) (by omega)
      rw [List.take_add_one, outB_get hs j (by omega), show 32 - (j + 1) = 31 - j by omega] at ih'
      rw [es]
      exact ih'
    · have ej : j = 32 := by omega
      subst ej
      rw [List.take_of_length_le (by omega)]
      rw [show outB hs ++ List.replicate (32 - 32) 0 = outB hs from List.append_nil _]
      have bl : (bv (outB hs)).length = 32 := by rw [List.length_map, ol]
      have bt : List.take 32 (bv (outB hs)) = bv (outB hs) := List.take_of_length_le (by omega)
      have bz : (bv (List.replicate 32 0)).length = 32 := by simp
      have bd0 : bv (outB hs) ++ List.drop 32 (bv (List.replicate 32 0)) = bv (outB hs) := by rw [List.drop_of_length_le (by omega), List.append_nil]
      simp (maxDischargeDepth := 8) only [go_sem, hw, so.l, bl, bt, bv_all, bv_hxs, bv_lvs, bz, bd0]
      rw [hHl, take_keep kH, ← hH, hp_self]
theorem seqs_self (l : List Int) : seqs (bv l) (bv l) = some true := by
  induction l with
  | nil => rfl
  | cons x l ih => simp only [bv, List.map_cons, seqs, seq]; rw [show seqs (l.map (SV.int .u8)) (l.map (SV.int .u8)) = some true from ih]; simp
theorem kds_bv (l : List Int) : kdsOk (l.map fun _ => Kd.int) (bv l) = true := by
  induction l with
  | nil => rfl
  | cons x l ih => simp only [bv, List.map_cons, kdsOk, Bool.and_eq_true]; exact ⟨rfl, ih⟩
theorem kds_32 {l : List Int} (h : l.length = 32) : kdsOk [.int, .int, .int, .int, .int, .int, .int, .int, .int, .int, .int, .int, .int, .int, .int, .int, .int, .int, .int, .int, .int, .int, .int, .int, .int, .int, .int, .int, .int, .int, .int, .int] (bv l) = true := by
  have := kds_bv l
  rw [List.map_const', h] at this
  exact this
theorem r_law27_DigestOf {X : Mem} {vb : SV} {b : List Int} (hb : LiesD bF (Hm X.heap) vb b) (hw : X.Wf) (hhb : X.hb ≤ X.hl) : ∃ m', RF tb f_law27_DigestOf [vb] X = some (.bool true, m') := by
  rw [RF_go t_law27_DigestOf _ _ rfl, push_hp]
  generalize hH : X.heap = H at *
  have hHl : X.hl = H.length := by rw [← hH]; rfl
  have sb := hb.isSl
  by_cases hl : b.length ≤ 4096
  · obtain ⟨v1, H1, a1, o1, k1, f1, s1⟩ := app_fresh (kF_even .u8) (by decide) (kF_ok .u8) (kF_hx .u8) hb (bytes := 1) (by simp only [two48]; omega) (by simp only [two48]; omega) X (by omega)
    have a1' : ∀ f e, appV 1 1 [.int .u8 0] (fun _ => true) (.sl (.hp H.length 0) 0 0 (some 0) 1) vb ((X.hp (H ++ [(0, .cells true [])])).fr f e) = some (v1, (X.hp H1).fr f e) := fun f e => a1 [.int .u8 0] rfl (fun _ => true) (fun _ _ => rfl) f e
    simp (maxDischargeDepth := 8) only [go_sem, s_law27_DigestOf, hw, hH, hb.len, sb.l, show decide ((b.length : Int) > 4096) = false from decide_eq_false (by omega), a1']
    have hl1 := k1.1
    generalize hz : RF tb f_digest_Of _ _ = z
    obtain ⟨H2, u, rfl, k2, e2⟩ := hz ▸ r_digest_Of (X := (X.hp H1).fr [] none) (o1.lies (kF_even .u8)) (by omega) (fr_wf (hp_wf hw) _ _) (by show X.hb ≤ H1.length; omega)
    have k2' : Keep [] H1 H2 := k2
    have hl2 := k2'.1
    simp (maxDischargeDepth := 8) only [go_sem, hw]
    generalize hz : RF tb f_ref27_Of _ _ = z
    obtain rfl := hz.symm.trans (r_ref27_Of (X := (X.hp H2).fr [] (escMin none u)) (hb.keep (k1.trans k2') (by simp)) (by omega) (fr_wf (hp_wf hw) _ _) (by show X.hb ≤ H2.length; omega))
    have sl : (shaP b).length = 32 := sumB_len (eat_len rfl)
    generalize shaP b = D at *
    simp (maxDischargeDepth := 8) only [go_sem, hw, seqs_self, kds_32 sl]
    generalize hz : RF tb f_law27_awake _ _ = z
    obtain ⟨m', rfl⟩ := hz ▸ r_law27_awake (X := (X.hp H2).fr [] u) (fr_wf (hp_wf hw) _ _) (by show X.hb ≤ H2.length; omega)
    simp (maxDischargeDepth := 8) only [go_sem, hw]
    exact ⟨_, rfl⟩
  · simp (maxDischargeDepth := 8) only [go_sem, s_law27_DigestOf, hw, hH, hb.len, sb.l, show decide ((b.length : Int) > 4096) = true from decide_eq_true (by omega)]
    generalize hz : RF tb f_law27_awake _ _ = z
    obtain ⟨m', rfl⟩ := hz ▸ r_law27_awake (X := (X.hp H).fr [] none) (fr_wf (hp_wf hw) _ _) (by show X.hb ≤ H.length; omega)
    simp (maxDischargeDepth := 8) only [go_sem, hw]
    exact ⟨_, rfl⟩
theorem law27_DigestOf {P : Program} {e : TypeId} {ok : Int → Prop} (s : Sl Int) (hok : slOk P e ok s) {n0 : In} (e0 : n0.map (·.2) = slB bF s) : ∃ m', RF tb f_law27_DigestOf [slV bF s ([] : In).length] (In.mem ([] ++ n0)) = some (.bool true, m') := by
  have hl := sl_inGD (kF_even .u8) hok (pre := []) (n0 := n0) (post := []) (A := []) (B := []) (by simpa using e0)
  rw [List.append_nil] at hl
  exact r_law27_DigestOf (X := In.mem ([] ++ n0)) hl (In.wf _) (Nat.zero_le _)
end Go.Sh.T

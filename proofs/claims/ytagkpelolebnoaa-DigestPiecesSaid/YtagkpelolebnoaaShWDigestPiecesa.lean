import Derived.Test.YtagkpelolebnoaaShTabDigestPieces
import Derived.Test.YtagkpelolebnoaaShArg
set_option linter.all false
set_option linter.unusedVariables false
set_option linter.unusedSimpArgs false
set_option autoImplicit false
namespace Go.Sh.T
open Go.Sh
set_option maxHeartbeats 8000000
set_option maxRecDepth 20000
def or32 (a b : Int) : Int := IntKind.wrap .u32 ((BitVec.ofInt 32 a ||| BitVec.ofInt 32 b).toNat : Nat)
def xr32 (a b : Int) : Int := IntKind.wrap .u32 ((BitVec.ofInt 32 a ^^^ BitVec.ofInt 32 b).toNat : Nat)
def an32 (a b : Int) : Int := IntKind.wrap .u32 ((BitVec.ofInt 32 a &&& BitVec.ofInt 32 b).toNat : Nat)
theorem ib_or32 (a b : Int) : ibits .or .u32 a b = some (or32 a b) := id rfl
theorem ib_xr32 (a b : Int) : ibits .xor .u32 a b = some (xr32 a b) := id rfl
theorem ib_an32 (a b : Int) : ibits .and .u32 a b = some (an32 a b) := id rfl
attribute [go_sem] ib_or32 ib_xr32 ib_an32
def rr (n x : Int) : Int := or32 (IntKind.wrap .u32 (x * 2 ^ (32 - n.toNat))) (x.fdiv (2 ^ n.toNat))
theorem turn_s {n : Int} (h : 1 ≤ n ∧ n ≤ 31) : ibits .and .u64 (IntKind.wrap .u64 (IntKind.wrap .i64 (0 - n))) 31 = some (32 - n) := by
  obtain ⟨k, rfl⟩ : ∃ k : Fin 32, n = (k.val : Int) := ⟨⟨n.toNat, by omega⟩, by show n = ((n.toNat : Nat) : Int); omega⟩
  revert k; decide
theorem wS {x : Int} (h1 : -9223372036854775808 ≤ x) (h2 : x ≤ 9223372036854775807) : IntKind.wrap .i64 x = x := by
  have e : IntKind.wrap .i64 x = if x % 18446744073709551616 ≥ 9223372036854775808 then x % 18446744073709551616 - 18446744073709551616 else x % 18446744073709551616 := by
    simp [IntKind.wrap, IntKind.signed, IntKind.bits]
  rw [e]; split <;> omega
theorem wSucc {i : Nat} (h : i ≤ 4611686018427387903) : IntKind.wrap .i64 ((i : Int) + 1) = ((i + 1 : Nat) : Int) := by rw [wS (by omega) (by omega)]; rfl
theorem wrap_u64 {x : Int} (h : 0 ≤ x ∧ x < 4294967296) : IntKind.wrap .u64 x = x := by
  show x % 18446744073709551616 = x
  omega
theorem r_digest_right {X : Mem} (hw : X.Wf) {n : Int} (h : 1 ≤ n ∧ n ≤ 31) (x : Int) : RF tb f_digest_right [.int .u32 x, .int .i64 n] X = some (.int .u32 (rr n x), X) := by
  rw [RF_go t_digest_right _ _ rfl]
  simp (maxDischargeDepth := 8) only [go_sem, s_digest_right, hw]
  rw [RF_go t_math_bits_RotateLeft32 _ _ rfl]
  simp (maxDischargeDepth := 8) only [go_sem, s_math_bits_RotateLeft32, hw, turn_s h, show (32 - n < 0) = False from eq_false (by omega), wrap_u64 (x := 32 - (32 - n)) (by omega), show (32 - (32 - n) < 0) = False from eq_false (by omega)]
  unfold rr
  rw [show min (32 - n).toNat 32 = 32 - n.toNat by omega, show min (32 - (32 - n)).toNat 32 = n.toNat by omega]
abbrev wv (l : List Int) : List SV := l.map (SV.int .u32)
def hC : List Int := [0x6a09e667, 0xbb67ae85, 0x3c6ef372, 0xa54ff53a, 0x510e527f, 0x9b05688c, 0x1f83d9ab, 0x5be0cd19]
def kC : List Int := [
  0x428a2f98, 0x71374491, 0xb5c0fbcf, 0xe9b5dba5, 0x3956c25b, 0x59f111f1, 0x923f82a4, 0xab1c5ed5,
  0xd807aa98, 0x12835b01, 0x243185be, 0x550c7dc3, 0x72be5d74, 0x80deb1fe, 0x9bdc06a7, 0xc19bf174,
  0xe49b69c1, 0xefbe4786, 0x0fc19dc6, 0x240ca1cc, 0x2de92c6f, 0x4a7484aa, 0x5cb0a9dc, 0x76f988da,
  0x983e5152, 0xa831c66d, 0xb00327c8, 0xbf597fc7, 0xc6e00bf3, 0xd5a79147, 0x06ca6351, 0x14292967,
  0x27b70a85, 0x2e1b2138, 0x4d2c6dfc, 0x53380d13, 0x650a7354, 0x766a0abb, 0x81c2c92e, 0x92722c85,
  0xa2bfe8a1, 0xa81a664b, 0xc24b8b70, 0xc76c51a3, 0xd192e819, 0xd6990624, 0xf40e3585, 0x106aa070,
  0x19a4c116, 0x1e376c08, 0x2748774c, 0x34b0bcb5, 0x391c0cb3, 0x4ed8aa4a, 0x5b9cca4f, 0x682e6ff3,
  0x748f82ee, 0x78a5636f, 0x84c87814, 0x8cc70208, 0x90befffa, 0xa4506ceb, 0xbef9a3f7, 0xc67178f2]
theorem r_digest_begun {X : Mem} (hw : X.Wf) : RF tb f_digest_begun [] X = some (.agg (wv hC), X) := by
  rw [RF_go t_digest_begun _ _ rfl]
  simp (maxDischargeDepth := 8) only [go_sem, s_digest_begun, hw]
  rfl
theorem r_digest_constants {X : Mem} (hw : X.Wf) : RF tb f_digest_constants [] X = some (.agg (wv kC), X) := by
  rw [RF_go t_digest_constants _ _ rfl]
  simp (maxDischargeDepth := 8) only [go_sem, s_digest_constants, hw]
  rfl
/-! slices of whole numbers -/
theorem kF_even (k : IntKind) : (Fl.int k).Even := ⟨fun _ => rfl⟩
theorem kF_ok (k : IntKind) (l : List Int) : SV.cellsOk 0 0 (l.flatMap (Fl.int k).enc) = true := cellsOk_flat (fun _ => rfl) l
theorem kF_hx (k : IntKind) (l : List Int) : SV.hxs (l.flatMap (Fl.int k).enc) = 0 := by induction l with | nil => rfl | cons a l ih => simp only [List.flatMap_cons]; exact ih
theorem kF_flat (k : IntKind) (l : List Int) : l.flatMap (Fl.int k).enc = l.map (SV.int k) := by induction l with | nil => rfl | cons a l ih => simp only [List.flatMap_cons, ih]; rfl
theorem _root_.Go.Sh.LiesD.iaddrK {k : IntKind} {m : Mem} {v : SV} {l : List Int} (h : LiesD (Fl.int k) m v l) {i : Nat} (hi : i < l.length) (j : IntKind) (m' : Mem) : iaddrV 1 v (.int j (i : Int)) m' = some (.ptr (.hp (slN v) (slW v)) (slO v + i), m') := by
  have := LiesD.iaddr h hi j m'
  rw [show (Fl.int k).sz = 1 from rfl, Nat.mul_one] at this
  exact this
theorem _root_.Go.Sh.LiesD.loadK {k : IntKind} {m : Mem} {v : SV} {l : List Int} (h : LiesD (Fl.int k) m v l) {i : Nat} (hi : i < l.length) {X : Mem} (hX : HpSub m X) : X.load (.hp (slN v) (slW v)) (slO v + i) none = some (.int k (l.getD i 0)) := by
  have := LiesD.load1 (kF_even k) (h.sub hX) (show l[i]? = some (l.getD i 0) by rw [List.getD_eq_getElem?_getD, List.getElem?_eq_getElem hi]; rfl) (j := 0) (show (0 : Nat) < 1 by decide)
  rw [show (Fl.int k).sz = 1 from rfl, Nat.mul_one, Nat.add_zero] at this
  exact this
theorem _root_.Go.Sh.LiesD.dropK {k : IntKind} {m : Mem} {v : SV} {l : List Int} (h : LiesD (Fl.int k) m v l) {lo : Nat} (hl : lo ≤ l.length) : sliceV 1 v (some (lo : Int)) none none = some (dropV 1 lo v) := Lies.dropS h hl
theorem _root_.Go.Sh.LiesD.dropKl {k : IntKind} {m : Mem} {v : SV} {l : List Int} (h : LiesD (Fl.int k) m v l) {lo : Nat} (hl : lo ≤ l.length) : LiesD (Fl.int k) m (dropV 1 lo v) (l.drop lo) := h.drop (kF_even k) hl
def word4 (b : List Int) (i : Nat) : Int := or32 (or32 (or32 (IntKind.wrap .u32 (IntKind.wrap .u32 (b.getD i 0) * 2 ^ 24)) (IntKind.wrap .u32 (IntKind.wrap .u32 (b.getD (i + 1) 0) * 2 ^ 16))) (IntKind.wrap .u32 (IntKind.wrap .u32 (b.getD (i + 2) 0) * 2 ^ 8))) (IntKind.wrap .u32 (b.getD (i + 3) 0))
theorem r_digest_high4 {m : Mem} {v : SV} {b : List Int} (hl : LiesD (Fl.int .u8) m v b) (h4 : 4 ≤ b.length) {X : Mem} (hX : HpSub m X) (hw : X.Wf) : RF tb f_digest_high4 [v] X = some (.int .u32 (word4 b 0), X) := by
  rw [RF_go t_digest_high4 _ _ rfl]
  have l0 := hl.loadK (i := 0) (by omega) (X := X) hX
  rw [Nat.add_zero] at l0
  have l1 := hl.loadK (i := 1) (by omega) (X := X) hX
  have l2 := hl.loadK (i := 2) (by omega) (X := X) hX
  have l3 := hl.loadK (i := 3) (by omega) (X := X) hX
  have a0 := fun j m' => hl.iaddrK (i := 0) (by omega) j m'
  have a1 := fun j m' => hl.iaddrK (i := 1) (by omega) j m'
  have a2 := fun j m' => hl.iaddrK (i := 2) (by omega) j m'
  have a3 := fun j m' => hl.iaddrK (i := 3) (by omega) j m'
  simp only [Int.cast_ofNat_Int, Nat.add_zero] at a0 a1 a2 a3
  simp (maxDischargeDepth := 8) only [go_sem, s_digest_high4, hw, a0, a1, a2, a3, l0, l1, l2, l3]
  try rfl
abbrev w32 (x : Int) : Int := IntKind.wrap .u32 x
def wx (w : List Int) (i : Nat) : Int := w32 (w32 (w32 (w.getD (i - 16) 0 + w.getD (i - 7) 0) + xr32 (xr32 (rr 7 (w.getD (i - 15) 0)) (rr 18 (w.getD (i - 15) 0))) ((w.getD (i - 15) 0).fdiv (2 ^ 3))) + xr32 (xr32 (rr 17 (w.getD (i - 2) 0)) (rr 19 (w.getD (i - 2) 0))) ((w.getD (i - 2) 0).fdiv (2 ^ 10)))
def wfst (b : List Int) (n : Nat) : List Int := (List.range n).map fun j => word4 b (4 * j)
def wseq (b : List Int) : Nat → List Int
  | 0 => wfst b 16
  | m + 1 => wseq b m ++ [wx (wseq b m) (16 + m)]
theorem wfst_len (b : List Int) (n : Nat) : (wfst b n).length = n := by simp [wfst]
theorem wfst_succ (b : List Int) (n : Nat) : wfst b (n + 1) = wfst b n ++ [word4 b (4 * n)] := by simp [wfst, List.range_succ]
theorem wseq_len (b : List Int) (m : Nat) : (wseq b m).length = 16 + m := by
  induction m with
  | zero => exact wfst_len b 16
  | succ m ih => simp only [wseq, List.length_append, ih, List.length_cons, List.length_nil]; omega
def rt1 (e f g h k w : Int) : Int := w32 (w32 (w32 (w32 (h + xr32 (xr32 (rr 6 e) (rr 11 e)) (rr 25 e)) + xr32 (an32 e f) (an32 (xr32 4294967295 e) g)) + k) + w)
def rt2 (a b c : Int) : Int := w32 (xr32 (xr32 (rr 2 a) (rr 13 a)) (rr 22 a) + xr32 (xr32 (an32 a b) (an32 a c)) (an32 b c))
def rnd (k w : Int) : List Int → List Int
  | [a, b, c, d, e, f, g, h] => [w32 (rt1 e f g h k w + rt2 a b c), a, b, c, w32 (d + rt1 e f g h k w), e, f, g]
  | l => l
def rndN (ks ws : List Int) (v : List Int) : Nat → List Int
  | 0 => v
  | n + 1 => rnd (ks.getD n 0) (ws.getD n 0) (rndN ks ws v n)
theorem rnd_len {k w : Int} {v : List Int} (h : v.length = 8) : (rnd k w v).length = 8 := by
  unfold rnd; split
  · rfl
  · exact h
theorem rndN_len {ks ws v : List Int} (h : v.length = 8) (n : Nat) : (rndN ks ws v n).length = 8 := by
  induction n with
  | zero => exact h
  | succ n ih => exact rnd_len ih
def addN (h v : List Int) : Nat → List Int
  | 0 => h
  | i + 1 => (addN h v i).set i (w32 ((addN h v i).getD i 0 + v.getD i 0))
theorem addN_len {h v : List Int} (e : h.length = 8) (n : Nat) : (addN h v n).length = 8 := by
  induction n with
  | zero => exact e
  | succ n ih => simp only [addN, List.length_set, ih]
def blk (h b : List Int) : List Int := addN h (rndN kC (wseq b 48) h 64) 8
theorem blk_len {h b : List Int} (e : h.length = 8) : (blk h b).length = 8 := addN_len e 8
theorem len8 {l : List Int} (h : l.length = 8) : ∃ a b c d e f g i, l = [a, b, c, d, e, f, g, i] := by
  match l, h with
  | [a, b, c, d, e, f, g, i], _ => exact ⟨a, b, c, d, e, f, g, i, rfl⟩
theorem set_last {α : Type} (H : List α) (x y : α) : (H ++ [x]).set H.length y = H ++ [y] := by
  rw [List.set_append_right _ _ (Nat.le_refl _), Nat.sub_self]; rfl
theorem lvs_wv (a b : Nat) (l : List Int) : SV.lvs a b (wv l) = true := by
  induction l with
  | nil => rfl
  | cons x l ih => simp only [wv, List.map_cons, SV.lvs, SV.lv, Bool.true_and]; exact ih
/-! cells of words -/
theorem part_w {l : List Int} {R : List SV} {j : Nat} (h : j < l.length) : (wv l ++ R)[j]? = some (.int .u32 (l.getD j 0)) := by
  rw [List.getElem?_append_left (by simpa using h), List.getElem?_map, List.getElem?_eq_getElem h, List.getD_eq_getElem?_getD, List.getElem?_eq_getElem h]; rfl
theorem part_w0 {l : List Int} {j : Nat} (h : j < l.length) : (wv l)[j]? = some (.int .u32 (l.getD j 0)) := by
  have := part_w (R := []) h
  rwa [List.append_nil] at this
theorem set_end {l : List Int} {n : Nat} {x : Int} : (wv l ++ List.replicate (n + 1) (SV.int .u32 0)).take l.length ++ [SV.int .u32 x] ++ (wv l ++ List.replicate (n + 1) (SV.int .u32 0)).drop (l.length + 1) = wv (l ++ [x]) ++ List.replicate n (SV.int .u32 0) := by
  rw [List.take_append_of_le_length (by simp), List.take_of_length_le (by simp), List.drop_append, List.drop_of_length_le (by simp)]
  simp
theorem set_w {l : List Int} {R : List SV} {i : Nat} {x : Int} (h : i < l.length) : (wv l ++ R).take i ++ [SV.int .u32 x] ++ (wv l ++ R).drop (i + 1) = wv (l.set i x) ++ R := by
  have h2 : i < (wv l).length := by simpa using h
  rw [List.take_append_of_le_length (by omega), List.drop_append_of_le_length (by omega), ← List.append_assoc]
  show _ = (l.set i x).map (SV.int .u32) ++ R
  rw [List.map_set, List.set_eq_take_append_cons_drop, if_pos (by simpa using h)]
  simp
/-! slices of arrays; copies -/
def arrO (n esz : Nat) (b : Bk) (off : Nat) (lo hi mx : Option Int) (m : Mem) : Option SBk → Option (SV × Mem)
  | some (.cells _ cs) => if off + n * esz ≤ cs.length then (bnds n (some n) lo hi mx).map fun (l, h, c) => (.sl b (off + l * esz) (h - l) c esz, m) else none
  | _ => none
def arrP (n esz : Nat) (x : SV) (lo hi mx : Option SV) (m : Mem) : Option (SV × Mem) := match optS lo, optS hi, optS mx with
  | some lo, some hi, some mx => match x with
    | .ptr b off => arrO n esz b off lo hi mx m (m.get b)
    | _ => none
  | _, _, _ => none
theorem RP_arr (F : Tbl) {m : Mem} {fr : Fr} {n esz : Nat} {x : Opd} {lo hi mx : Option Opd} : RP F (.sliceArr n esz x lo hi mx) fr m = arrP n esz (x.ev fr) (lo.map (·.ev fr)) (hi.map (·.ev fr)) (mx.map (·.ev fr)) m := by
  rw [RP_mem _ _ _ rfl]
  have e : ∀ o : Option Opd, optI fr o = optS (o.map (·.ev fr)) := by intro o; cases o <;> rfl
  simp only [memop, arrP, e]
  cases optS (lo.map (·.ev fr)) <;> cases optS (hi.map (·.ev fr)) <;> cases optS (mx.map (·.ev fr)) <;> first | rfl | (cases x.ev fr <;> rfl)
theorem arrP_lo (n esz : Nat) (b : Bk) (off : Nat) (k : IntKind) (i : Int) (m : Mem) : arrP n esz (.ptr b off) (some (.int k i)) none none m = arrO n esz b off (some i) none none m (m.get b) := id rfl
theorem arrP_hi (n esz : Nat) (b : Bk) (off : Nat) (k : IntKind) (i : Int) (m : Mem) : arrP n esz (.ptr b off) none (some (.int k i)) none m = arrO n esz b off none (some i) none m (m.get b) := id rfl
theorem arrO_cells (n esz : Nat) (b : Bk) (off : Nat) (lo hi mx : Option Int) (m : Mem) (rw : Bool) (cs : List SV) : arrO n esz b off lo hi mx m (some (.cells rw cs)) = if off + n * esz ≤ cs.length then (bnds n (some n) lo hi mx).map fun (l, h, c) => (.sl b (off + l * esz) (h - l) c esz, m) else none := id rfl
theorem bnds_8a : bnds 8 (some 8) (some 1) none none = some (1, 8, some 7) := by decide
theorem bnds_8b : bnds 8 (some 8) none (some 7) none = some (0, 7, some 8) := by decide
def copE (esz : Nat) (b : Bk) (off k off' : Nat) (m : Mem) : Option SBk → Option (SV × Mem)
  | some (.cells _ cs) => if off' + k * esz ≤ cs.length then (m.store b off ((cs.drop off').take (k * esz))).map fun m => (.i k, m) else none
  | _ => none
def copV (esz : Nat) (x y : SV) (m : Mem) : Option (SV × Mem) :=
  match lenS x, lenv y with
    | some dl, some sl =>
      (m.elems esz (min sl dl) y).bind fun cs =>
        match x with
        | .nils => some (.i (min sl dl : Nat), m)
        | .sl b off _ _ _ => (m.store b off cs).map fun m => (.i (min sl dl : Nat), m)
        | _ => none
    | _, _ => none
theorem RP_cop (F : Tbl) {m : Mem} {fr : Fr} {esz : Nat} {x y : Opd} : RP F (.copy esz x y) fr m = copV esz (x.ev fr) (y.ev fr) m := by
  rw [RP_mem _ _ _ rfl]
  rfl
theorem copV_sl (esz : Nat) (b b' : Bk) (off off' n n' : Nat) (c c' : Option Nat) (z z' : Nat) (m : Mem) : copV esz (.sl b off n c z) (.sl b' off' n' c' z') m = copE esz b off (min n' n) off' m (m.get b') := by
  simp only [copV, lenS, lenv, Mem.elems]
  cases m.get b' with
  | none => rfl
  | some y =>
    cases y with
    | cells rw cs => simp only [copE]; split <;> rfl
    | _ => rfl
theorem copE_cells (esz : Nat) (b : Bk) (off k off' : Nat) (m : Mem) (rw : Bool) (cs : List SV) : copE esz b off k off' m (some (.cells rw cs)) = if off' + k * esz ≤ cs.length then (m.store b off ((cs.drop off').take (k * esz))).map fun m => (.i k, m) else none := id rfl
theorem not32 : (if IntKind.u32.signed = true then (-1 : Int) else IntKind.u32.max) = 4294967295 := by decide
attribute [go_sem] not32 shut_get Nat.min_self
theorem inB_8 : inB 0 8 = true ∧ inB 1 8 = true ∧ inB 2 8 = true ∧ inB 3 8 = true ∧ inB 4 8 = true ∧ inB 5 8 = true ∧ inB 6 8 = true ∧ inB 7 8 = true := by decide
attribute [go_sem] RP_arr arrP_lo arrP_hi arrO_cells bnds_8a bnds_8b RP_cop copV_sl copE_cells
theorem set_same {H : Hp} {k : Nat} {x : SBk} (h : hget H k 0 = some x) : H.set k (0, x) = H := by
  have hl := hget_lt h
  have : H[k]? = some (0, x) := by
    unfold hget at h
    rw [List.getElem?_eq_getElem hl] at h ⊢
    dsimp only at h
    split at h
    · cases h; congr 1; rename_i e; exact Prod.ext e rfl
    · cases h
  apply List.ext_getElem?
  intro j
  rw [List.getElem?_set]
  split
  · rename_i e; subst e; exact this.symm
  · rfl
theorem hget_sa {H : Hp} {k : Nat} (hk : k < H.length) (x : SBk) (L : Hp) : hget (H.set k (0, x) ++ L) k 0 = some x := by
  rw [hget_app _ (by simpa using hk), hget_set_eq hk, if_pos rfl]
theorem hget_sl {H : Hp} {k : Nat} (y : Nat × SBk) (x : SBk) : hget (H.set k y ++ [(0, x)]) H.length 0 = some x := by
  have := hget_new0 (H := H.set k y) 0 [(0, x)]
  rw [List.length_set] at this
  rw [this]; rfl
theorem set_sa {H : Hp} {k : Nat} (hk : k < H.length) (y z : Nat × SBk) (L : Hp) : (H.set k y ++ L).set k z = H.set k z ++ L := by
  rw [List.set_append_left _ _ (by simpa using hk), List.set_set]
theorem inB_nat {i n : Nat} (h : i < n) : inB (i : Int) n = true := by simp [inB]; omega
theorem r_words_block {X : Mem} {k : Nat} {hs : List Int} {R : List SV} {v : SV} {b : List Int} (hk : hget X.heap k 0 = some (.cells true (wv hs ++ R))) (h8 : hs.length = 8) (hl : LiesD (Fl.int .u8) (Hm X.heap) v b) (hb : 64 ≤ b.length) (hw : X.Wf) (hhb : X.hb ≤ k) : RF tb f_digest_words_block [.ptr (.hp k 0) 0, v] X = some (.tup [], X.hp (X.heap.set k (0, .cells true (wv (blk hs b) ++ R)))) := by
  rw [RF_go t_digest_words_block _ _ rfl, push_hp]
  generalize hH : X.heap = H at *
  have hHl : X.hl = H.length := by rw [← hH]; rfl
  simp (maxDischargeDepth := 8) only [go_sem, s_digest_words_block, hw, hH]
  rw [KL_keep _ _ _ (by simp (maxDischargeDepth := 8) only [go_sem, (LiesD.isSl hl).l, hw])]
  simp (maxDischargeDepth := 8) only [go_sem]
  refine KL_indE (α := Nat) (fun i => 16 - i) (fun i => [(0, .ptr (.hp k 0) 0), (1, v), (4, .ptr (.st X.dep 0) 0), (17, .int .i64 (i : Int))]) (fun i => (X.hp H).fr [.cells true (wv (wfst b i) ++ List.replicate (64 - i) (.int .u32 0))] none) (fun i => i ≤ 16) ?_ 0 (Nat.zero_le _)
  intro i hi ih
  simp (maxDischargeDepth := 8) only [go_sem, hw, (LiesD.isSl hl).l]
  by_cases hlt : i < 16
  · simp (maxDischargeDepth := 8) only [go_sem, show decide ((i : Int) < 16) = true from decide_eq_true (by omega), hw]
    have h4 : IntKind.wrap .i64 (4 * (i : Int)) = ((4 * i : Nat) : Int) := by rw [wS (by omega) (by omega)]; omega
    have hd := hl.dropKl (lo := 4 * i) (by omega)
    have e64 : 64 - i = (63 - i) + 1 := by omega
    have hlen : (wv (wfst b i)).length = i := by rw [List.length_map, wfst_len]
    have hz2 : i + 1 ≤ (wfst b i).length + (63 - i + 1) := by rw [wfst_len]; omega
    simp (maxDischargeDepth := 8) only [go_sem, h4, hl.dropK (lo := 4 * i) (by omega), r_digest_high4 hd (by rw [List.length_drop]; omega), hw, inB_nat (show i < 64 by omega), e64, List.length_append, List.length_map, List.length_replicate, Nat.mul_one, hz2, wSucc (show i ≤ 4611686018427387903 by omega)]
    rw [KL_keep _ _ _ (by simp (maxDischargeDepth := 8) only [go_sem, (LiesD.isSl hl).l, hw])]
    simp (maxDischargeDepth := 8) only [go_sem]
    have es := set_end (l := wfst b i) (n := 63 - i) (x := word4 (b.drop (4 * i)) 0)
    rw [wfst_len] at es
    rw [es]
    have := ih (i + 1) (by omega) (by omega)
    rw [wfst_succ, show 64 - (i + 1) = 63 - i by omega, show word4 b (4 * i) = word4 (b.drop (4 * i)) 0 by simp only [word4, List.getD_eq_getElem?_getD, List.getElem?_drop, Nat.add_zero, Nat.add_assoc]] at this
    exact this
  · have ei : i = 16 := by omega
    subst ei
    clear ih
    simp (maxDischargeDepth := 8) only [go_sem, hw]
    rw [KL_keep _ _ _ (by simp (maxDischargeDepth := 8) only [go_sem, hw])]
    simp (maxDischargeDepth := 8) only [go_sem]
    refine KL_indE (α := Nat) (fun i => 48 - i) (fun i => [(0, .ptr (.hp k 0) 0), (4, .ptr (.st X.dep 0) 0), (6, .int .i64 ((16 + i : Nat) : Int))]) (fun i => (X.hp H).fr [.cells true (wv (wseq b i) ++ List.replicate (48 - i) (.int .u32 0))] none) (fun i => i ≤ 48) ?_ 0 (Nat.zero_le _)
    intro i hi ih
    simp (maxDischargeDepth := 8) only [go_sem, hw]
    by_cases hlt : i < 48
    · simp (maxDischargeDepth := 8) only [go_sem, show decide (((16 + i : Nat) : Int) < 64) = true from decide_eq_true (by omega), hw]
      have hwl := wseq_len b i
      have s15 : IntKind.wrap .i64 (((16 + i : Nat) : Int) - 15) = ((i + 1 : Nat) : Int) := by rw [wS (by omega) (by omega)]; omega
      have s2 : IntKind.wrap .i64 (((16 + i : Nat) : Int) - 2) = ((14 + i : Nat) : Int) := by rw [wS (by omega) (by omega)]; omega
      have s16 : IntKind.wrap .i64 (((16 + i : Nat) : Int) - 16) = ((i : Nat) : Int) := by rw [wS (by omega) (by omega)]; omega
      have s7 : IntKind.wrap .i64 (((16 + i : Nat) : Int) - 7) = ((9 + i : Nat) : Int) := by rw [wS (by omega) (by omega)]; omega
      have e48 : 48 - i = (47 - i) + 1 := by omega
      have hz3 : 16 + i + 1 ≤ (wv (wseq b i) ++ List.replicate (47 - i + 1) (SV.int .u32 0)).length := by simp only [List.length_append, List.length_map, List.length_replicate]; omega
      have pw : ∀ {j : Nat}, j < 16 + i → (wv (wseq b i) ++ List.replicate (47 - i + 1) (SV.int .u32 0))[j]? = some (.int .u32 ((wseq b i).getD j 0)) := fun hj => part_w (by omega)
      simp (maxDischargeDepth := 8) only [go_sem, s15, s2, s16, s7, e48, inB_nat (show i + 1 < 64 by omega), inB_nat (show 14 + i < 64 by omega), inB_nat (show i < 64 by omega), inB_nat (show 9 + i < 64 by omega), inB_nat (show 16 + i < 64 by omega), Nat.mul_one, Int.toNat_natCast, pw (j := i + 1) (by omega), pw (j := 14 + i) (by omega), pw (j := i) (by omega), pw (j := 9 + i) (by omega), hw, hz3, r_digest_right, wSucc (show 16 + i ≤ 4611686018427387903 by omega)]
      rw [KL_keep _ _ _ (by simp (maxDischargeDepth := 8) only [go_sem, hw])]
      simp (maxDischargeDepth := 8) only [go_sem]
      have es := set_end (l := wseq b i) (n := 47 - i) (x := wx (wseq b i) (16 + i))
      rw [hwl] at es
      have ew : wx (wseq b i) (16 + i) = IntKind.wrap .u32 (IntKind.wrap .u32 (IntKind.wrap .u32 ((wseq b i).getD i 0 + (wseq b i).getD (9 + i) 0) + xr32 (xr32 (rr 7 ((wseq b i).getD (i + 1) 0)) (rr 18 ((wseq b i).getD (i + 1) 0))) (((wseq b i).getD (i + 1) 0).fdiv (2 ^ min 3 32))) + xr32 (xr32 (rr 17 ((wseq b i).getD (14 + i) 0)) (rr 19 ((wseq b i).getD (14 + i) 0))) (((wseq b i).getD (14 + i) 0).fdiv (2 ^ min 10 32))) := by
        unfold wx
        rw [show 16 + i - 16 = i by omega, show 16 + i - 7 = 9 + i by omega, show 16 + i - 15 = i + 1 by omega, show 16 + i - 2 = 14 + i by omega]
        rfl
      rw [← ew, es]
      have := ih (i + 1) (by omega) (by omega)
      rw [show 48 - (i + 1) = 47 - i by omega, show 16 + (i + 1) = 16 + i + 1 by omega] at this
      exact this
    · have ei : i = 48 := by omega
      subst ei
      clear ih
      obtain ⟨g0, g1, g2, g3, g4, g5, g6, g7, rfl⟩ := len8 h8
      have h8' : 8 ≤ (wv [g0, g1, g2, g3, g4, g5, g6, g7] ++ R).length := by simp
      have hkl := hget_lt hk
      simp (maxDischargeDepth := 8) only [go_sem, hw, hk, r_digest_constants, h8', hH, show X.hb ≤ H.length by omega]
      rw [KL_keep _ _ _ (by simp (maxDischargeDepth := 8) only [go_sem, hw, lvs_wv])]
      simp (maxDischargeDepth := 8) only [go_sem, set_last]
      have hwl := wseq_len b 48
      refine KL_indE (α := Nat) (fun i => 64 - i) (fun i => [(0, .ptr (.hp k 0) 0), (4, .ptr (.st X.dep 0) 0), (9, .ptr (.hp H.length 0) 0), (72, .agg (wv kC)), (73, .int .i64 (i : Int))]) (fun i => (X.hp (H ++ [(0, .cells true (wv (rndN kC (wseq b 48) [g0, g1, g2, g3, g4, g5, g6, g7] i)))])).fr [.cells true (wv (wseq b 48) ++ List.replicate 0 (.int .u32 0))] none) (fun i => i ≤ 64) ?_ 0 (Nat.zero_le _)
      intro i hi ih
      by_cases hlt : i < 64
      · obtain ⟨a0, a1, a2, a3, a4, a5, a6, a7, ha⟩ := len8 (rndN_len (ks := kC) (ws := wseq b 48) h8 i)
        have pk : (wv kC)[i]? = some (.int .u32 (kC.getD i 0)) := part_w0 (show i < kC.length from hlt)
        have pw : (wv (wseq b 48) ++ List.replicate 0 (SV.int .u32 0))[i]? = some (.int .u32 ((wseq b 48).getD i 0)) := part_w (by omega)
        simp (maxDischargeDepth := 8) only [go_sem, hw, show decide ((i : Int) < 64) = true from decide_eq_true (by omega), lvs_wv, inB_nat hlt, inB_8, Nat.mul_one, pk, pw, ha, r_digest_right, show X.hb ≤ H.length by omega, wSucc (show i ≤ 4611686018427387903 by omega), set_last]
        rw [KL_keep _ _ _ (by simp (maxDischargeDepth := 8) only [go_sem, hw, lvs_wv])]
        simp (maxDischargeDepth := 8) only [go_sem]
        have e1 : rndN kC (wseq b 48) [g0, g1, g2, g3, g4, g5, g6, g7] (i + 1) = rnd (kC.getD i 0) ((wseq b 48).getD i 0) [a0, a1, a2, a3, a4, a5, a6, a7] := by rw [← ha]; rfl
        have := ih (i + 1) (by omega) (by omega)
        rw [e1] at this
        exact this
      · have ei : i = 64 := by omega
        subst ei
        clear ih
        have v8 := rndN_len (ks := kC) (ws := wseq b 48) h8 64
        simp (maxDischargeDepth := 8) only [go_sem, hw, lvs_wv]
        rw [KL_keep _ _ _ (by simp (maxDischargeDepth := 8) only [go_sem, hw, lvs_wv])]
        simp (maxDischargeDepth := 8) only [go_sem]
        generalize hV : rndN kC (wseq b 48) [g0, g1, g2, g3, g4, g5, g6, g7] 64 = V at *
        have hfin : X.hp (H.set k (0, .cells true (wv (blk [g0, g1, g2, g3, g4, g5, g6, g7] b) ++ R))) = X.hp (H.set k (0, .cells true (wv (addN [g0, g1, g2, g3, g4, g5, g6, g7] V 8) ++ R))) := by rw [← hV]; rfl
        rw [hfin]
        clear hfin hV
        generalize hG : [g0, g1, g2, g3, g4, g5, g6, g7] = G at *
        rw [show H ++ [(0, SBk.cells true (wv V))] = H.set k (0, .cells true (wv (addN G V 0) ++ R)) ++ [(0, SBk.cells true (wv V))] by rw [show addN G V 0 = G from rfl, set_same hk]]
        refine KL_indE (α := Nat) (fun i => 8 - i) (fun i => [(0, .ptr (.hp k 0) 0), (9, .ptr (.hp H.length 0) 0), (146, .int .i64 (i : Int))]) (fun i => (X.hp (H.set k (0, .cells true (wv (addN G V i) ++ R)) ++ [(0, SBk.cells true (wv V))])).fr [.cells true (wv (wseq b 48) ++ List.replicate 0 (.int .u32 0))] none) (fun i => i ≤ 8) ?_ 0 (Nat.zero_le _)
        intro i hi ih
        have a8 := addN_len (v := V) h8 i
        by_cases hlt : i < 8
        · have pg : (wv (addN G V i) ++ R)[i]? = some (.int .u32 ((addN G V i).getD i 0)) := part_w (by omega)
          have pv : (wv V)[i]? = some (.int .u32 (V.getD i 0)) := part_w0 (by omega)
          have hz : i + 1 ≤ (wv (addN G V i) ++ R).length := by simp [a8]; omega
          simp (maxDischargeDepth := 8) only [go_sem, hw, show decide ((i : Int) < 8) = true from decide_eq_true (by omega), inB_nat hlt, Nat.mul_one, hget_sa hkl, hget_sl, pg, pv, hhb, hz, set_sa hkl, wSucc (show i ≤ 4611686018427387903 by omega)]
          rw [KL_keep _ _ _ (by simp (maxDischargeDepth := 8) only [go_sem, hw])]
          simp (maxDischargeDepth := 8) only [go_sem]
          have es := set_w (l := addN G V i) (R := R) (i := i) (x := w32 ((addN G V i).getD i 0 + V.getD i 0)) (by omega)
          rw [es]
          exact ih (i + 1) (by omega) (by omega)
        · have ei : i = 8 := by omega
          subst ei
          simp (maxDischargeDepth := 8) only [go_sem, hw, hH, hHl]
          rw [List.take_append_of_le_length (by simp), List.take_of_length_le (by simp)]
theorem r_words_blockS {X : Mem} {H : Hp} {b0 b1 : SBk} {hs : List Int} {v : SV} {b : List Int} (h8 : hs.length = 8) (hl : LiesD (Fl.int .u8) (Hm H) v b) (hb : 64 ≤ b.length) (hw : X.Wf) (hhb : X.hb ≤ H.length) : RF tb f_digest_words_block [.ptr (.st X.dep 2) 0, v] ((X.hp H).fr [b0, b1, .cells true (wv hs)] none) = some (.tup [], (X.hp H).fr [b0, b1, .cells true (wv (blk hs b))] none) := by
  rw [RF_go t_digest_words_block _ _ rfl, push_fr]
  simp (maxDischargeDepth := 8) only [go_sem, s_digest_words_block, hw]
  rw [KL_keep _ _ _ (by simp (maxDischargeDepth := 8) only [go_sem, (LiesD.isSl hl).l, hw])]
  simp (maxDischargeDepth := 8) only [go_sem]
  refine KL_indE (α := Nat) (fun i => 16 - i) (fun i => [(0, .ptr (.st X.dep 2) 0), (1, v), (4, .ptr (.st (X.dep + 1) 0) 0), (17, .int .i64 (i : Int))]) (fun i => ((X.hp H).fr [b0, b1, .cells true (wv hs)] none).fr [.cells true (wv (wfst b i) ++ List.replicate (64 - i) (.int .u32 0))] none) (fun i => i ≤ 16) ?_ 0 (Nat.zero_le _)
  intro i hi ih
  simp (maxDischargeDepth := 8) only [go_sem, hw, (LiesD.isSl hl).l]
  by_cases hlt : i < 16
  · simp (maxDischargeDepth := 8) only [go_sem, show decide ((i : Int) < 16) = true from decide_eq_true (by omega), hw]
    have h4 : IntKind.wrap .i64 (4 * (i : Int)) = ((4 * i : Nat) : Int) := by rw [wS (by omega) (by omega)]; omega
    have hd := hl.dropKl (lo := 4 * i) (by omega)
    have e64 : 64 - i = (63 - i) + 1 := by omega
    have hlen : (wv (wfst b i)).length = i := by rw [List.length_map, wfst_len]
    have hz2 : i + 1 ≤ (wfst b i).length + (63 - i + 1) := by rw [wfst_len]; omega
    simp (maxDischargeDepth := 8) only [go_sem, h4, hl.dropK (lo := 4 * i) (by omega), r_digest_high4 hd (by rw [List.length_drop]; omega), hw, inB_nat (show i < 64 by omega), e64, List.length_append, List.length_map, List.length_replicate, Nat.mul_one, hz2, wSucc (show i ≤ 4611686018427387903 by omega)]
    rw [KL_keep _ _ _ (by simp (maxDischargeDepth := 8) only [go_sem, (LiesD.isSl hl).l, hw])]
    simp (maxDischargeDepth := 8) only [go_sem]
    have es := set_end (l := wfst b i) (n := 63 - i) (x := word4 (b.drop (4 * i)) 0)
    rw [wfst_len] at es
    rw [es]
    have := ih (i + 1) (by omega) (by omega)
    rw [wfst_succ, show 64 - (i + 1) = 63 - i by omega, show word4 b (4 * i) = word4 (b.drop (4 * i)) 0 by simp only [word4, List.getD_eq_getElem?_getD, List.getElem?_drop, Nat.add_zero, Nat.add_assoc]] at this
    exact this
  · have ei : i = 16 := by omega
    subst ei
    clear ih
    simp (maxDischargeDepth := 8) only [go_sem, hw]
    rw [KL_keep _ _ _ (by simp (maxDischargeDepth := 8) only [go_sem, hw])]
    simp (maxDischargeDepth := 8) only [go_sem]
    refine KL_indE (α := Nat) (fun i => 48 - i) (fun i => [(0, .ptr (.st X.dep 2) 0), (4, .ptr (.st (X.dep + 1) 0) 0), (6, .int .i64 ((16 + i : Nat) : Int))]) (fun i => ((X.hp H).fr [b0, b1, .cells true (wv hs)] none).fr [.cells true (wv (wseq b i) ++ List.replicate (48 - i) (.int .u32 0))] none) (fun i => i ≤ 48) ?_ 0 (Nat.zero_le _)
    intro i hi ih
    simp (maxDischargeDepth := 8) only [go_sem, hw]
    by_cases hlt : i < 48
    · simp (maxDischargeDepth := 8) only [go_sem, show decide (((16 + i : Nat) : Int) < 64) = true from decide_eq_true (by omega), hw]
      have hwl := wseq_len b i
      have s15 : IntKind.wrap .i64 (((16 + i : Nat) : Int) - 15) = ((i + 1 : Nat) : Int) := by rw [wS (by omega) (by omega)]; omega
      have s2 : IntKind.wrap .i64 (((16 + i : Nat) : Int) - 2) = ((14 + i : Nat) : Int) := by rw [wS (by omega) (by omega)]; omega
      have s16 : IntKind.wrap .i64 (((16 + i : Nat) : Int) - 16) = ((i : Nat) : Int) := by rw [wS (by omega) (by omega)]; omega
      have s7 : IntKind.wrap .i64 (((16 + i : Nat) : Int) - 7) = ((9 + i : Nat) : Int) := by rw [wS (by omega) (by omega)]; omega
      have e48 : 48 - i = (47 - i) + 1 := by omega
      have hz3 : 16 + i + 1 ≤ (wv (wseq b i) ++ List.replicate (47 - i + 1) (SV.int .u32 0)).length := by simp only [List.length_append, List.length_map, List.length_replicate]; omega
      have pw : ∀ {j : Nat}, j < 16 + i → (wv (wseq b i) ++ List.replicate (47 - i + 1) (SV.int .u32 0))[j]? = some (.int .u32 ((wseq b i).getD j 0)) := fun hj => part_w (by omega)
      simp (maxDischargeDepth := 8) only [go_sem, s15, s2, s16, s7, e48, inB_nat (show i + 1 < 64 by omega), inB_nat (show 14 + i < 64 by omega), inB_nat (show i < 64 by omega), inB_nat (show 9 + i < 64 by omega), inB_nat (show 16 + i < 64 by omega), Nat.mul_one, Int.toNat_natCast, pw (j := i + 1) (by omega), pw (j := 14 + i) (by omega), pw (j := i) (by omega), pw (j := 9 + i) (by omega), hw, hz3, r_digest_right, wSucc (show 16 + i ≤ 4611686018427387903 by omega)]
      rw [KL_keep _ _ _ (by simp (maxDischargeDepth := 8) only [go_sem, hw])]
      simp (maxDischargeDepth := 8) only [go_sem]
      have es := set_end (l := wseq b i) (n := 47 - i) (x := wx (wseq b i) (16 + i))
      rw [hwl] at es
      have ew : wx (wseq b i) (16 + i) = IntKind.wrap .u32 (IntKind.wrap .u32 (IntKind.wrap .u32 ((wseq b i).getD i 0 + (wseq b i).getD (9 + i) 0) + xr32 (xr32 (rr 7 ((wseq b i).getD (i + 1) 0)) (rr 18 ((wseq b i).getD (i + 1) 0))) (((wseq b i).getD (i + 1) 0).fdiv (2 ^ min 3 32))) + xr32 (xr32 (rr 17 ((wseq b i).getD (14 + i) 0)) (rr 19 ((wseq b i).getD (14 + i) 0))) (((wseq b i).getD (14 + i) 0).fdiv (2 ^ min 10 32))) := by
        unfold wx
        rw [show 16 + i - 16 = i by omega, show 16 + i - 7 = 9 + i by omega, show 16 + i - 15 = i + 1 by omega, show 16 + i - 2 = 14 + i by omega]
        rfl
      rw [← ew, es]
      have := ih (i + 1) (by omega) (by omega)
      rw [show 48 - (i + 1) = 47 - i by omega, show 16 + (i + 1) = 16 + i + 1 by omega] at this
      exact this
    · have ei : i = 48 := by omega
      subst ei
      clear ih
      obtain ⟨g0, g1, g2, g3, g4, g5, g6, g7, rfl⟩ := len8 h8
      simp (maxDischargeDepth := 8) only [go_sem, hw, r_digest_constants, hhb]
      rw [KL_keep _ _ _ (by simp (maxDischargeDepth := 8) only [go_sem, hw, lvs_wv])]
      simp (maxDischargeDepth := 8) only [go_sem, set_last]
      have hwl := wseq_len b 48
      refine KL_indE (α := Nat) (fun i => 64 - i) (fun i => [(0, .ptr (.st X.dep 2) 0), (4, .ptr (.st (X.dep + 1) 0) 0), (9, .ptr (.hp H.length 0) 0), (72, .agg (wv kC)), (73, .int .i64 (i : Int))]) (fun i => ((X.hp (H ++ [(0, .cells true (wv (rndN kC (wseq b 48) [g0, g1, g2, g3, g4, g5, g6, g7] i)))])).fr [b0, b1, .cells true (wv [g0, g1, g2, g3, g4, g5, g6, g7])] none).fr [.cells true (wv (wseq b 48) ++ List.replicate 0 (.int .u32 0))] none) (fun i => i ≤ 64) ?_ 0 (Nat.zero_le _)
      intro i hi ih
      by_cases hlt : i < 64
      · obtain ⟨a0, a1, a2, a3, a4, a5, a6, a7, ha⟩ := len8 (rndN_len (ks := kC) (ws := wseq b 48) h8 i)
        have pk : (wv kC)[i]? = some (.int .u32 (kC.getD i 0)) := part_w0 (show i < kC.length from hlt)
        have pw : (wv (wseq b 48) ++ List.replicate 0 (SV.int .u32 0))[i]? = some (.int .u32 ((wseq b 48).getD i 0)) := part_w (by omega)
        simp (maxDischargeDepth := 8) only [go_sem, hw, show decide ((i : Int) < 64) = true from decide_eq_true (by omega), lvs_wv, inB_nat hlt, inB_8, Nat.mul_one, pk, pw, ha, r_digest_right, show X.hb ≤ H.length by omega, wSucc (show i ≤ 4611686018427387903 by omega), set_last]
        rw [KL_keep _ _ _ (by simp (maxDischargeDepth := 8) only [go_sem, hw, lvs_wv])]
        simp (maxDischargeDepth := 8) only [go_sem]
        have e1 : rndN kC (wseq b 48) [g0, g1, g2, g3, g4, g5, g6, g7] (i + 1) = rnd (kC.getD i 0) ((wseq b 48).getD i 0) [a0, a1, a2, a3, a4, a5, a6, a7] := by rw [← ha]; rfl
        have := ih (i + 1) (by omega) (by omega)
        rw [e1] at this
        exact this
      · have ei : i = 64 := by omega
        subst ei
        clear ih
        have v8 := rndN_len (ks := kC) (ws := wseq b 48) h8 64
        simp (maxDischargeDepth := 8) only [go_sem, hw, lvs_wv]
        rw [KL_keep _ _ _ (by simp (maxDischargeDepth := 8) only [go_sem, hw, lvs_wv])]
        simp (maxDischargeDepth := 8) only [go_sem]
        generalize hV : rndN kC (wseq b 48) [g0, g1, g2, g3, g4, g5, g6, g7] 64 = V at *
        have hfin : blk [g0, g1, g2, g3, g4, g5, g6, g7] b = addN [g0, g1, g2, g3, g4, g5, g6, g7] V 8 := by rw [← hV]; rfl
        rw [hfin]
        clear hfin hV
        generalize hG : [g0, g1, g2, g3, g4, g5, g6, g7] = G at *
        rw [show [SV.int .u32 g0, SV.int .u32 g1, SV.int .u32 g2, SV.int .u32 g3, SV.int .u32 g4, SV.int .u32 g5, SV.int .u32 g6, SV.int .u32 g7] = wv (addN G V 0) by rw [← hG]; rfl]
        refine KL_indE (α := Nat) (fun i => 8 - i) (fun i => [(0, .ptr (.st X.dep 2) 0), (9, .ptr (.hp H.length 0) 0), (146, .int .i64 (i : Int))]) (fun i => ((X.hp (H ++ [(0, SBk.cells true (wv V))])).fr [b0, b1, .cells true (wv (addN G V i))] none).fr [.cells true (wv (wseq b 48) ++ List.replicate 0 (.int .u32 0))] none) (fun i => i ≤ 8) ?_ 0 (Nat.zero_le _)
        intro i hi ih
        have a8 := addN_len (v := V) h8 i
        by_cases hlt : i < 8
        · have pg : (wv (addN G V i))[i]? = some (.int .u32 ((addN G V i).getD i 0)) := part_w0 (by omega)
          have pv : (wv V)[i]? = some (.int .u32 (V.getD i 0)) := part_w0 (by omega)
          have hz : i + 1 ≤ (wv (addN G V i)).length := by simp [a8]; omega
          simp (maxDischargeDepth := 8) only [go_sem, hw, show decide ((i : Int) < 8) = true from decide_eq_true (by omega), inB_nat hlt, Nat.mul_one, pg, pv, hhb, hz, wSucc (show i ≤ 4611686018427387903 by omega)]
          rw [KL_keep _ _ _ (by simp (maxDischargeDepth := 8) only [go_sem, hw])]
          simp (maxDischargeDepth := 8) only [go_sem]
          have es := set_w (l := addN G V i) (R := []) (i := i) (x := w32 ((addN G V i).getD i 0 + V.getD i 0)) (by omega)
          rw [List.append_nil, List.append_nil] at es
          rw [es]
          exact ih (i + 1) (by omega) (by omega)
        · have ei : i = 8 := by omega
          subst ei
          simp (maxDischargeDepth := 8) only [go_sem, hw]
          have hb := back_HR (X := X) (H := H) (H' := H ++ [(0, SBk.cells true (wv V))]) [b0, b1, SBk.cells true (wv (addN G V 0))] [b0, b1, SBk.cells true (wv (addN G V 8))] [SBk.cells true (wv (wseq b 48) ++ List.replicate 0 (SV.int IntKind.u32 0))] [] none none none none 0
          simp only [Nat.zero_le, escOk_none, and_self, if_true, List.take_left] at hb
          exact congrArg (fun z => some (SV.tup [], z)) hb
/-- The cells of a hash. -/
abbrev hashC (hs : List Int) (rv : SV) (n : Int) : List SV := wv hs ++ [rv, .int .i64 n, .bool true]
abbrev bF : Fl Int := Fl.int .u8
def capN (v : SV) : Prop := ∀ b off n c z, v = .sl b off n c z → c = none
theorem app_capN {esz bytes : Nat} {z : List SV} {aw : Bk → Bool} {x y v : SV} {m m' : Mem} (h : appV esz bytes z aw x y m = some (v, m')) (hx : lenv y = some 0 → capN x) : capN v := by
  unfold appV at h
  split at h
  · rename_i sl n h1 h2
    rw [Option.bind_eq_some_iff] at h
    obtain ⟨new, _, h⟩ := h
    split at h
    · rename_i hn; cases h; exact hx (by rw [h2, hn])
    · split at h
      · split at h
        · rw [Option.map_eq_some_iff] at h
          obtain ⟨q, _, h⟩ := h
          cases h; intro _ _ _ _ _ e; cases e; rfl
        · rw [Option.map_eq_some_iff] at h
          obtain ⟨q, _, h⟩ := h
          cases h; intro _ _ _ _ _ e; cases e; rfl
        · rw [Option.bind_eq_some_iff] at h
          obtain ⟨old, _, h⟩ := h
          split at h
          · split at h
            · rw [Option.map_eq_some_iff] at h
              obtain ⟨q, _, h⟩ := h
              cases h; intro _ _ _ _ _ e; cases e; rfl
            · split at h
              · split at h
                · cases h; intro _ _ _ _ _ e; cases e; rfl
                · cases h
              · cases h
          · cases h
        · cases h
      · cases h
  · cases h
theorem app_b {H : Hp} {v y : SV} {l k : List Int} (hv : Own bF H v l) (hy : LiesD bF (Hm H) y k) (hc : k = [] → capN v) (hb : l.length + k.length ≤ 1000000) (B : Nat) (hm : ∀ i ∈ slFp v, B ≤ i) :
    ∃ v' H', (∀ Y : Mem, Y.heap = H → Y.hb = B → appV 1 1 [.int .u8 0] (fun _ => true) v y Y = some (v', Y.hp H')) ∧ Own bF H' v' (l ++ k) ∧ Keep (slFp v) H H' ∧ (∀ i ∈ slFp v', i ∈ slFp v ∨ H.length ≤ i) ∧ capN v' ∧ H'.length ≤ H.length + 1 := by
  obtain ⟨v', H2, ha, o2, k2, f2, -, l2⟩ := app_ownY (kF_even .u8) (by decide) (kF_ok .u8) (kF_hx .u8) hv hy (bytes := 1) (by simp only [two48]; omega) (by simp only [two48]; omega) { Hm H with hb := B } hm
  have ha' := fun Y h1 h2 => ha [.int .u8 0] rfl (fun _ => true) (hv.aw (fun _ _ => rfl)) Y h1 h2
  exact ⟨v', H2, ha', o2, k2, f2, app_capN (ha' { Hm H with hb := B } rfl rfl) (fun h => hc (by rw [Lies.lenv hy] at h; simpa using h)), l2⟩
theorem _root_.Go.Sh.LiesD.takeK {k : IntKind} {m : Mem} {v : SV} {l : List Int} (h : LiesD (Fl.int k) m v l) (hc : capN v) {hi : Nat} (hl : hi ≤ l.length) : sliceV 1 v none (some (hi : Int)) none = some (takeV hi v) ∧ LiesD (Fl.int k) m (takeV hi v) (l.take hi) := by
  refine ⟨Lies.takeS h hl (fun b off cap z e => by cases hc _ _ _ _ _ e; exact hl), ?_⟩
  have := Lies.take h hl
  unfold LiesD
  rw [kF_flat] at this ⊢
  rw [show hi * (Fl.int k).sz = hi from Nat.mul_one hi] at this
  rw [List.map_take, List.length_take, Nat.min_eq_left hl]
  exact this
theorem dropV_fp (z n : Nat) (v : SV) : slFp (dropV z n v) = slFp v := by
  cases v with
  | sl b off len cap q => cases b <;> rfl
  | _ => rfl
theorem dropV_cap {z n : Nat} {v : SV} (h : capN v) : capN (dropV z n v) := by
  cases v with
  | sl b off len cap q =>
    cases h _ _ _ _ _ rfl
    intro _ _ _ _ _ e; cases e; rfl
  | _ => exact h
theorem own_dropK {k : IntKind} {H : Hp} {v : SV} {l : List Int} (h : Own (Fl.int k) H v l) {lo : Nat} (hl : lo ≤ l.length) : Own (Fl.int k) H (dropV 1 lo v) (l.drop lo) := by
  rcases h with ⟨rfl, rfl⟩ | ⟨rfl, rfl⟩ | ⟨n, w, off, cap, c, rfl, h1, h2, h3⟩
  · exact .inl ⟨rfl, by simp⟩
  · exact .inr (.inl ⟨rfl, by simp⟩)
  · rw [show (Fl.int k).sz = 1 from rfl] at h2 h3
    refine .inr (.inr ⟨n, w, off + lo * 1, _, c, by rw [List.length_drop]; rfl, h1, ?_, ?_⟩)
    · rw [List.length_drop, show (Fl.int k).sz = 1 from rfl]; omega
    · rw [kF_flat] at h3 ⊢
      rw [List.map_drop, ← h3, List.drop_take, List.drop_drop, List.length_drop, show (Fl.int k).sz = 1 from rfl, Nat.mul_one, Nat.mul_one, Nat.mul_one]
theorem esc_step {e : Option Nat} {k : Nat} (he : e = none ∨ e = some k) (c : Prop) [Decidable c] : ∃ e', (if c then e else escMin e (some k)) = e' ∧ (e' = none ∨ e' = some k) ∧ (e' = none → c ∧ e = none) := by
  by_cases h : c
  · rw [if_pos h]; exact ⟨e, rfl, he, fun h' => ⟨h, h'⟩⟩
  · rw [if_neg h]
    refine ⟨_, rfl, .inr ?_, ?_⟩
    · rcases he with rfl | rfl
      · rfl
      · simp [escMin]
    · intro h'
      rcases he with rfl | rfl
      · cases h'
      · simp [escMin] at h'
/-- Whole blocks taken in. -/
def eatN : Nat → List Int → List Int → List Int × List Int
  | 0, h, r => (h, r)
  | n + 1, h, r => if 64 ≤ r.length then eatN n (blk h (r.take 64)) (r.drop 64) else (h, r)
def eat (h r : List Int) : List Int × List Int := eatN (r.length / 64) h r
theorem eat_go {h r : List Int} (hr : 64 ≤ r.length) : eat h r = eat (blk h (r.take 64)) (r.drop 64) := by
  unfold eat
  rw [List.length_drop, show r.length / 64 = (r.length - 64) / 64 + 1 by omega, eatN, if_pos hr]
theorem eat_stop {h r : List Int} (hr : r.length < 64) : eat h r = (h, r) := by
  unfold eat
  rw [Nat.div_eq_of_lt hr]; rfl
theorem eat_len {r h : List Int} (e8 : h.length = 8) : (eat h r).1.length = 8 := by
  have key : ∀ n (h r : List Int), h.length = 8 → (eatN n h r).1.length = 8 := by
    intro n
    induction n with
    | zero => exact fun h r e => e
    | succ n ih =>
      intro h r e
      simp only [eatN]
      split
      · exact ih _ _ (blk_len e)
      · exact e
  exact key _ _ _ e8
theorem r_digest_New {X : Mem} (hw : X.Wf) (hhb : X.hb ≤ X.hl) : RF tb f_digest_New [] X = some (.ptr (.hp X.hl 0) 0, X.hp (X.heap ++ [(0, .cells true (hashC hC .nils 0))])) := by
  rw [RF_go t_digest_New _ _ rfl, push_hp]
  generalize hH : X.heap = H at *
  have hHl : X.hl = H.length := by rw [← hH]; rfl
  have l8 : (wv hC).length = 8 := rfl
  have f1 : (wv hC ++ [SV.nils, SV.int IntKind.i64 0, SV.bool false]).length = 11 := rfl
  have f2 : List.take 10 (wv hC ++ [SV.nils, SV.int IntKind.i64 0, SV.bool false]) ++ [SV.bool true] ++ List.drop 11 (wv hC ++ [SV.nils, SV.int IntKind.i64 0, SV.bool false]) = hashC hC .nils 0 := rfl
  have f3 : (hashC hC .nils 0).length = 11 := rfl
  have f4 : (hashC hC .nils 0).all (SV.cell 0 0) = true := rfl
  simp (maxDischargeDepth := 8) only [go_sem, s_digest_New, hw, hH, r_digest_begun, l8, f1, f2, f3, f4]
  rw [hHl, if_neg (by omega)]
theorem r_Hash_Len {X : Mem} {k : Nat} {hs : List Int} {rv : SV} {n : Int} (hk : hget X.heap k 0 = some (.cells true (hashC hs rv n))) (h8 : hs.length = 8) (hw : X.Wf) : RF tb f_digest_Hash_Len [.ptr (.hp k 0) 0] X = some (.int .i64 n, X) := by
  obtain ⟨g0, g1, g2, g3, g4, g5, g6, g7, rfl⟩ := len8 h8
  rw [RF_go t_digest_Hash_Len _ _ rfl, push_hp]
  generalize hH : X.heap = H at *
  simp (maxDischargeDepth := 8) only [go_sem, s_digest_Hash_Len, hw, hH, hk, hashC]
theorem r_Hash_Write {X : Mem} {k : Nat} {hs : List Int} {rv : SV} {n : Int} {v : SV} {r b : List Int} (hk : hget X.heap k 0 = some (.cells true (hashC hs rv n))) (h8 : hs.length = 8) (hr : Own bF X.heap rv r) (hkr : k ∉ slFp rv) (hrl : r.length ≤ 100000) (hbl : b.length ≤ 100000) (hl : LiesD bF (Hm X.heap) v b) (hkv : k ∉ slFp v) (hcap : capN rv) (hw : X.Wf) (hhb : X.hb ≤ k) (hrb : ∀ i ∈ slFp rv, X.hb ≤ i) :
    ∃ H' rv' u, RF tb f_digest_Hash_Write [.ptr (.hp k 0) 0, v] X = some (.tup [], (X.hp H').es (escMin X.esc u)) ∧ (u = none ∨ u = some k) ∧ hget H' k 0 = some (.cells true (hashC (eat hs (r ++ b)).1 rv' (IntKind.wrap .i64 (n + b.length)))) ∧ Own bF H' rv' (eat hs (r ++ b)).2 ∧ capN rv' ∧ (∀ i ∈ slFp rv', i ∈ slFp rv ∨ X.hl ≤ i) ∧ Keep (k :: slFp rv) X.heap H' := by
  obtain ⟨g0, g1, g2, g3, g4, g5, g6, g7, rfl⟩ := len8 h8
  rw [RF_go t_digest_Hash_Write _ _ rfl, push_hp]
  generalize hH : X.heap = H at *
  have hHl : X.hl = H.length := by rw [← hH]; rfl
  have hkl := hget_lt hk
  obtain ⟨N, hN⟩ : ∃ N, IntKind.wrap .i64 (n + (b.length : Int)) = N := ⟨_, rfl⟩
  rw [hN]
  obtain ⟨H1, hH1⟩ : ∃ H1, H.set k (0, .cells true (hashC [g0, g1, g2, g3, g4, g5, g6, g7] rv N)) = H1 := ⟨_, rfl⟩
  have k1 : Keep [k] H H1 := by rw [← hH1]; exact Keep.set (by simp) _ _
  have l1 : H1.length = H.length := by rw [← hH1, List.length_set]
  have g1' : hget H1 k 0 = some (.cells true (hashC [g0, g1, g2, g3, g4, g5, g6, g7] rv N)) := by rw [← hH1, hget_set_eq hkl, if_pos rfl]
  have hr1 : Own bF H1 rv r := hr.keep k1 (fun i hi hc => by simp at hc; subst hc; exact hkr hi)
  have hv1 : LiesD bF (Hm H1) v b := hl.keep k1 (fun i hi hc => by simp at hc; subst hc; exact hkv hi)
  obtain ⟨rv1, H2, ha, o2, k2, f2, cap1, -⟩ := app_b hr1 hv1 (fun _ => hcap) (by omega) X.hb hrb
  have hH1' : H.set k (0, SBk.cells true [SV.int .u32 g0, SV.int .u32 g1, SV.int .u32 g2, SV.int .u32 g3, SV.int .u32 g4, SV.int .u32 g5, SV.int .u32 g6, SV.int .u32 g7, rv, .int .i64 N, .bool true]) = H1 := hH1
  simp (maxDischargeDepth := 8) only [go_sem, s_digest_Hash_Write, hw, hH, hk, hashC, (LiesD.isSl hl).l, hhb, hl.len, hN, hH1', g1']
  rw [ha ((X.hp H1).fr [] none) rfl rfl]
  have hk2 := k2.get g1' hkr
  have hkl2 := hget_lt hk2
  obtain ⟨H3, hH3⟩ : ∃ H3, H2.set k (0, .cells true (hashC [g0, g1, g2, g3, g4, g5, g6, g7] rv1 N)) = H3 := ⟨_, rfl⟩
  have hH3' : H2.set k (0, SBk.cells true [SV.int .u32 g0, SV.int .u32 g1, SV.int .u32 g2, SV.int .u32 g3, SV.int .u32 g4, SV.int .u32 g5, SV.int .u32 g6, SV.int .u32 g7, rv1, .int .i64 N, .bool true]) = H3 := hH3
  have s2 := o2.isSl (kF_even .u8)
  simp (maxDischargeDepth := 8) only [go_sem, hw, hk2, hhb, hashC, s2.l, s2.c, s2.k, s2.o, hH3']
  have hkl1 : H2.length ≤ H3.length := by rw [← hH3, List.length_set]; exact Nat.le_refl _
  have k3 : Keep [k] H2 H3 := by rw [← hH3]; exact Keep.set (by simp) _ _
  have kr1 : k ∉ slFp rv1 := fun hc => by rcases f2 k hc with h | h; exact hkr h; omega
  have hk3 : hget H3 k 0 = some (.cells true (hashC [g0, g1, g2, g3, g4, g5, g6, g7] rv1 N)) := by rw [← hH3, hget_set_eq hkl2, if_pos rfl]
  have o3 : Own bF H3 rv1 (r ++ b) := o2.keep k3 (fun i hi hc => by simp at hc; subst hc; exact kr1 hi)
  obtain ⟨e1, he1, he2, he3⟩ := esc_step (k := k) (.inl rfl : (none : Option Nat) = none ∨ none = some k) (rv1.hx ≤ k)
  rw [show escMin none (some k) = some k from rfl] at he1
  rw [he1]
  rw [KL_keep _ _ _ (by simp (maxDischargeDepth := 8) only [go_sem])]
  simp (maxDischargeDepth := 8) only [go_sem]
  have hx : ∀ {w : SV} {c : Nat}, w.hx ≤ c → ∀ i ∈ slFp w, i < c := fun h i hi => by have := hx_fp hi; omega
  generalize hG : [g0, g1, g2, g3, g4, g5, g6, g7] = G at *
  refine KL_ind (R := fun z => ∃ H' rv' u, fin [] X z = some (.tup [], (X.hp H').es (escMin X.esc u)) ∧ (u = none ∨ u = some k) ∧ hget H' k 0 = some (.cells true (hashC (eat G (r ++ b)).1 rv' N)) ∧ Own bF H' rv' (eat G (r ++ b)).2 ∧ capN rv' ∧ (∀ i ∈ slFp rv', i ∈ slFp rv ∨ X.hl ≤ i) ∧ Keep (k :: slFp rv) H H')
    (α := List Int × List Int × SV × Hp × Option Nat) (fun q => q.2.1.length) (fun q => [(0, .ptr (.hp k 0) 0)]) (fun q => (X.hp q.2.2.2.1).fr [] q.2.2.2.2)
    (fun q => q.1.length = 8 ∧ hget q.2.2.2.1 k 0 = some (.cells true (hashC q.1 q.2.2.1 N)) ∧ Own bF q.2.2.2.1 q.2.2.1 q.2.1 ∧ capN q.2.2.1 ∧ (∀ i ∈ slFp q.2.2.1, i ∈ slFp rv ∨ H.length ≤ i) ∧ Keep (k :: slFp rv) H q.2.2.2.1 ∧ k ∉ slFp q.2.2.1 ∧ (q.2.2.2.2 = none ∨ q.2.2.2.2 = some k) ∧ (q.2.2.2.2 = none → ∀ i ∈ slFp q.2.2.1, i < H.length) ∧ eat q.1 q.2.1 = eat G (r ++ b)) ?_ (G, r ++ b, rv1, H3, e1)
    ⟨h8, hk3, o3, cap1, fun i hi => (f2 i hi).imp id (fun h => by omega), ((k1.weak (by simp)).trans' k2 (by simp +contextual)).trans' k3 (by simp), kr1, he2, fun h i hi => by have := hx (he3 h).1 i hi; omega, rfl⟩
  clear he1 he2 he3 o3 hk3 k3 hkl1 s2 o2 k2 ha f2 cap1 hH3 hH3' hk2 hkl2 g1' k1
  rintro ⟨hs, rr, w, Hc, e⟩ ⟨q8, qk, qo, qc, qf, qK, qn, qe, qe2, qE⟩ ih
  dsimp only at q8 qk qo qc qf qK qn qe qe2 qE ⊢
  obtain ⟨a0, a1, a2, a3, a4, a5, a6, a7, rfl⟩ := len8 q8
  have lo := qo.lies (kF_even .u8)
  by_cases hlt : 64 ≤ rr.length
  · obtain ⟨t1, t2⟩ := lo.takeK qc hlt
    rw [show ((64 : Nat) : Int) = 64 from rfl] at t1
    have d1 := lo.dropK (lo := 64) hlt
    rw [show ((64 : Nat) : Int) = 64 from rfl] at d1
    simp (maxDischargeDepth := 8) only [go_sem, hw, qk, hashC, lo.len, show decide ((64 : Int) ≤ (rr.length : Int)) = true from decide_eq_true (by omega), t1, (LiesD.isSl t2).l]
    have hkc := hget_lt qk
    generalize hz : RF tb f_digest_words_block _ _ = z
    obtain rfl := hz.symm.trans (r_words_block (X := (X.hp Hc).fr [] e) (R := [w, .int .i64 N, .bool true]) qk q8 t2 (by rw [List.length_take]; omega) (by simp (maxDischargeDepth := 8) only [go_sem, hw]) hhb)
    obtain ⟨H4, hH4⟩ : ∃ H4, Hc.set k (0, .cells true (wv (blk [a0, a1, a2, a3, a4, a5, a6, a7] (rr.take 64)) ++ [w, .int .i64 N, .bool true])) = H4 := ⟨_, rfl⟩
    rw [eat_go hlt] at qE
    have b8 := blk_len (b := rr.take 64) q8
    have m4 : hget H4 k 0 = some (.cells true (wv (blk [a0, a1, a2, a3, a4, a5, a6, a7] (rr.take 64)) ++ [w, .int .i64 N, .bool true])) := by rw [← hH4, hget_set_eq hkc, if_pos rfl]
    generalize blk [a0, a1, a2, a3, a4, a5, a6, a7] (rr.take 64) = B at *
    have k4 : Keep [k] Hc H4 := by rw [← hH4]; exact Keep.set (by simp) _ _
    have l4 : H4.length = Hc.length := by rw [← hH4, List.length_set]
    have qo4 : Own bF H4 w rr := qo.keep k4 (fun i hi hc => by simp at hc; subst hc; exact qn hi)
    have od := own_dropK qo4 hlt
    obtain ⟨c0, c1, c2, c3, c4, c5, c6, c7, rfl⟩ := len8 b8
    have sd := od.isSl (kF_even .u8)
    have hH4' : Hc.set k (0, SBk.cells true [SV.int .u32 c0, SV.int .u32 c1, SV.int .u32 c2, SV.int .u32 c3, SV.int .u32 c4, SV.int .u32 c5, SV.int .u32 c6, SV.int .u32 c7, w, .int .i64 N, .bool true]) = H4 := hH4
    simp (maxDischargeDepth := 8) only [go_sem, hw, hH4', m4, d1, hhb, sd.l, sd.c, sd.k, sd.o]
    obtain ⟨H5, hH5⟩ : ∃ H5, H4.set k (0, .cells true (hashC [c0, c1, c2, c3, c4, c5, c6, c7] (dropV 1 64 w) N)) = H5 := ⟨_, rfl⟩
    have hH5' : H4.set k (0, SBk.cells true [.int .u32 c0, .int .u32 c1, .int .u32 c2, .int .u32 c3, .int .u32 c4, .int .u32 c5, .int .u32 c6, .int .u32 c7, dropV 1 64 w, .int .i64 N, .bool true]) = H5 := hH5
    obtain ⟨e1, he1, he2, he3⟩ := esc_step (k := k) qe ((dropV 1 64 w).hx ≤ k)
    rw [hH5', he1]
    rw [KL_keep _ _ _ (by simp (maxDischargeDepth := 8) only [go_sem])]
    simp (maxDischargeDepth := 8) only [go_sem]
    have k5 : Keep [k] H4 H5 := by rw [← hH5]; exact Keep.set (by simp) _ _
    have m5 : hget H5 k 0 = some (.cells true (hashC [c0, c1, c2, c3, c4, c5, c6, c7] (dropV 1 64 w) N)) := by rw [← hH5, hget_set_eq (by omega), if_pos rfl]
    have fp : slFp (dropV 1 64 w) = slFp w := dropV_fp _ _ _
    refine ih ([c0, c1, c2, c3, c4, c5, c6, c7], rr.drop 64, dropV 1 64 w, H5, e1) ⟨rfl, m5, od.keep k5 (fun i hi hc => by simp at hc; subst hc; rw [fp] at hi; exact qn hi), dropV_cap qc, by rw [fp]; exact qf, (qK.trans' k4 (by simp)).trans' k5 (by simp), by rw [fp]; exact qn, he2, fun h i hi => by have := hx (he3 h).1 i hi; omega, ?_⟩ (by show (rr.drop 64).length < rr.length; rw [List.length_drop]; omega)
    exact qE
  · simp (maxDischargeDepth := 8) only [go_sem, hw, qk, hashC, lo.len, show decide ((64 : Int) ≤ (rr.length : Int)) = false from decide_eq_false (by omega)]
    have qE' := eat_stop (h := [a0, a1, a2, a3, a4, a5, a6, a7]) (show rr.length < 64 by omega)
    rw [qE] at qE'
    rw [qE']
    have hfk : ∀ {i : Nat}, i < X.hl ∨ escOk X.hl e = false → (if escOk X.hl e = true then List.take X.hl Hc else Hc)[i]? = Hc[i]? := fun h => fin_keep0 h
    refine ⟨_, w, e, rfl, qe, ?_, qo.congr fun i hi => hfk ?_, qc, fun i hi => (qf i hi).imp id (fun h => by omega), ?_⟩
    · rw [hget_congr (hfk (.inl (by omega)))]; exact qk
    · rcases qe with h | h
      · exact .inl (by have := qe2 h i hi; omega)
      · exact .inr (by rw [h]; exact escOk_some (by omega))
    · have := (show Keep (k :: slFp rv) X.heap Hc by rw [hH]; exact qK).back0 (u := e)
      rw [hH] at this
      exact this
abbrev w8 (x : Int) : Int := IntKind.wrap .u8 x
abbrev w64 (x : Int) : Int := IntKind.wrap .u64 x
abbrev bv (l : List Int) : List SV := l.map (SV.int .u8)
def padZ (n : Nat) : Nat := (119 - n % 64) % 64
def lenB (n : Int) : List Int := (List.range 8).map fun j => w8 ((w64 (w64 n * 2 ^ 3)).fdiv (2 ^ (56 - 8 * j)))
def padB (r : List Int) (n : Int) : List Int := (r ++ [128] ++ List.replicate (padZ r.length) 0) ++ lenB n
def outB (l : List Int) : List Int := l.flatMap fun x => [w8 (x.fdiv (2 ^ 24)), w8 (x.fdiv (2 ^ 16)), w8 (x.fdiv (2 ^ 8)), w8 x]
def sumB (hs r : List Int) (n : Int) : List Int := outB (eat hs (padB r n)).1
theorem take_keep {H H' : Hp} (h : Keep [] H H') : H'.take H.length = H := by
  apply List.ext_getElem?
  intro i
  rw [List.getElem?_take]
  split
  · rename_i hi; exact h.2 i hi (by simp)
  · rw [List.getElem?_eq_none (by omega)]
theorem app_1 {H : Hp} {v : SV} {l : List Int} (hv : Own bF H v l) (hl : l.length ≤ 200000) (x : Int) (B : Nat) (hm : ∀ i ∈ slFp v, B ≤ i) :
    ∃ v' H', (∀ Y : Mem, Y.heap = H ++ [(0, SBk.cells true [SV.int .u8 x])] → Y.hb = B → appV 1 1 [.int .u8 0] (fun _ => true) v (.sl (.hp H.length 0) 0 1 (some 1) 1) Y = some (v', Y.hp H')) ∧ Own bF H' v' (l ++ [x]) ∧ capN v' ∧ Keep (slFp v) H H' ∧ (∀ i ∈ slFp v', i ∈ slFp v ∨ H.length ≤ i) := by
  have d1 : LiesD bF (Hm (H ++ [(0, SBk.cells true [SV.int .u8 x])])) (.sl (.hp H.length 0) 0 1 (some 1) 1) [x] := (own_new (kF_even .u8) H [x] (some 1)).lies (kF_even .u8)
  obtain ⟨v2, H2, a2, o2, k2, f2, c2, -⟩ := app_b (hv.keep (Keep.app [] _ _) (by simp)) d1 (fun h => by simp at h) (by simp; omega) B hm
  exact ⟨v2, H2, a2, o2, c2, (Keep.app _ _ _).trans k2, fun i hi => (f2 i hi).imp id (fun h => by simp at h; omega)⟩
theorem inB_32 : inB 0 32 = true ∧ inB 1 32 = true ∧ inB 2 32 = true ∧ inB 3 32 = true ∧ inB 4 32 = true ∧ inB 5 32 = true ∧ inB 6 32 = true ∧ inB 7 32 = true ∧ inB 8 32 = true ∧ inB 9 32 = true ∧ inB 10 32 = true ∧ inB 11 32 = true ∧ inB 12 32 = true ∧ inB 13 32 = true ∧ inB 14 32 = true ∧ inB 15 32 = true ∧ inB 16 32 = true ∧ inB 17 32 = true ∧ inB 18 32 = true ∧ inB 19 32 = true ∧ inB 20 32 = true ∧ inB 21 32 = true ∧ inB 22 32 = true ∧ inB 23 32 = true ∧ inB 24 32 = true ∧ inB 25 32 = true ∧ inB 26 32 = true ∧ inB 27 32 = true ∧ inB 28 32 = true ∧ inB 29 32 = true ∧ inB 30 32 = true ∧ inB 31 32 = true := by decide
theorem wLit : IntKind.wrap .i64 0 = 0 ∧ IntKind.wrap .i64 1 = 1 ∧ IntKind.wrap .i64 2 = 2 ∧ IntKind.wrap .i64 3 = 3 ∧ IntKind.wrap .i64 4 = 4 ∧ IntKind.wrap .i64 5 = 5 ∧ IntKind.wrap .i64 6 = 6 ∧ IntKind.wrap .i64 7 = 7 ∧ IntKind.wrap .i64 8 = 8 ∧ IntKind.wrap .i64 9 = 9 ∧ IntKind.wrap .i64 10 = 10 ∧ IntKind.wrap .i64 11 = 11 ∧ IntKind.wrap .i64 12 = 12 ∧ IntKind.wrap .i64 13 = 13 ∧ IntKind.wrap .i64 14 = 14 ∧ IntKind.wrap .i64 15 = 15 ∧ IntKind.wrap .i64 16 = 16 ∧ IntKind.wrap .i64 17 = 17 ∧ IntKind.wrap .i64 18 = 18 ∧ IntKind.wrap .i64 19 = 19 ∧ IntKind.wrap .i64 20 = 20 ∧ IntKind.wrap .i64 21 = 21 ∧ IntKind.wrap .i64 22 = 22 ∧ IntKind.wrap .i64 23 = 23 ∧ IntKind.wrap .i64 24 = 24 ∧ IntKind.wrap .i64 25 = 25 ∧ IntKind.wrap .i64 26 = 26 ∧ IntKind.wrap .i64 27 = 27 ∧ IntKind.wrap .i64 28 = 28 ∧ IntKind.wrap .i64 29 = 29 ∧ IntKind.wrap .i64 30 = 30 ∧ IntKind.wrap .i64 31 = 31 ∧ IntKind.wrap .i64 32 = 32 := by decide
theorem tmod64 {m : Nat} : ((m : Int).tmod 64) = ((m % 64 : Nat) : Int) := by
  rw [Int.tmod_eq_emod_of_nonneg (by omega)]; rfl
theorem r_Hash_Sum {X : Mem} {k : Nat} {hs : List Int} {rv : SV} {n : Int} {r : List Int} (hk : hget X.heap k 0 = some (.cells true (hashC hs rv n))) (h8 : hs.length = 8) (hr : Own bF X.heap rv r) (hrl : r.length ≤ 100000) (hw : X.Wf) (hhb : X.hb ≤ X.hl) : RF tb f_digest_Hash_Sum [.ptr (.hp k 0) 0] X = some (.agg (bv (sumB hs r n)), X) := by
  obtain ⟨g0, g1, g2, g3, g4, g5, g6, g7, rfl⟩ := len8 h8
  rw [RF_go t_digest_Hash_Sum _ _ rfl, push_hp]
  generalize hH : X.heap = H at *
  have hHl : X.hl = H.length := by rw [← hH]; rfl
  have hkl := hget_lt hk
  obtain ⟨v1, H1, a1, o1, k1, f1, s1⟩ := app_fresh (kF_even .u8) (by decide) (kF_ok .u8) (kF_hx .u8) (hr.lies (kF_even .u8)) (bytes := 1) (by simp only [two48]; omega) (by simp only [two48]; omega) X (by omega)
  have a1' : ∀ f e, appV 1 1 [.int .u8 0] (fun _ => true) (.sl (.hp H.length 0) 0 0 (some 0) 1) rv ((X.hp (H ++ [(0, .cells true [])])).fr f e) = some (v1, (X.hp H1).fr f e) := fun f e => a1 [.int .u8 0] rfl (fun _ => true) (fun _ _ => rfl) f e
  have hk0 : hget (H ++ [(0, SBk.cells true [])]) k 0 = some (.cells true (hashC [g0, g1, g2, g3, g4, g5, g6, g7] rv n)) := hget_app_some _ hk
  obtain ⟨Z, hZ⟩ : ∃ Z, bv (List.replicate 32 0) = Z := ⟨_, rfl⟩
  have hZ' : [SV.int .u8 0, SV.int .u8 0, SV.int .u8 0, SV.int .u8 0, SV.int .u8 0, SV.int .u8 0, SV.int .u8 0, SV.int .u8 0, SV.int .u8 0, SV.int .u8 0, SV.int .u8 0, SV.int .u8 0, SV.int .u8 0, SV.int .u8 0, SV.int .u8 0, SV.int .u8 0, SV.int .u8 0, SV.int .u8 0, SV.int .u8 0, SV.int .u8 0, SV.int .u8 0, SV.int .u8 0, SV.int .u8 0, SV.int .u8 0, SV.int .u8 0, SV.int .u8 0, SV.int .u8 0, SV.int .u8 0, SV.int .u8 0, SV.int .u8 0, SV.int .u8 0, SV.int .u8 0] = Z := hZ
  simp (maxDischargeDepth := 8) only [go_sem, s_digest_Hash_Sum, hw, hH, hk, hk0, hashC, a1']
  rw [hZ']
  have d1 : LiesD bF (Hm (H1 ++ [(0, SBk.cells true [SV.int .u8 128])])) (.sl (.hp H1.length 0) 0 1 (some 1) 1) [128] := (own_new (kF_even .u8) H1 [128] (some 1)).lies (kF_even .u8)
  obtain ⟨v2, H2, a2, o2, k2, f2, c2, e2⟩ := app_b (o1.keep (Keep.app [] _ _) (by simp)) d1 (fun h => by simp at h) (by simp; omega) X.hb (fun i hi => by have := f1 i hi; omega)
  simp (maxDischargeDepth := 8) only [go_sem, hw, a2]
  have v8 : ∀ {x : Int} {W : Hp}, LiesD bF (Hm (W ++ [(0, SBk.cells true [SV.int .u8 x])])) (.sl (.hp W.length 0) 0 1 (some 1) 1) [x] := fun {x W} => (own_new (kF_even .u8) W [x] (some 1)).lies (kF_even .u8)
  rw [KL_keep _ _ _ (by simp (maxDischargeDepth := 8) only [go_sem, hw, (o2.isSl (kF_even .u8)).l])]
  simp (maxDischargeDepth := 8) only [go_sem]
  have kk2 : Keep [] H H2 := (k1.trans (Keep.app [] _ _)).trans' k2 (fun i hi hl => by have := f1 i hi; omega)
  have ff2 : ∀ i ∈ slFp v2, H.length ≤ i := fun i hi => by
    rcases f2 i hi with h | h
    · exact f1 i h
    · simp at h; have := k1.1; omega
  have c2' := c2
  clear a1' a2 d1 f2 c2 k1 f1 s1 o1 e2 k2
  -- zeros
  have hz := Nat.mod_lt r.length (show 0 < 64 by decide)
  refine KL_indE (α := Nat × SV × Hp) (fun q => padZ r.length - q.1) (fun q => [(0, .ptr (.hp k 0) 0), (2, .ptr (.st X.dep 0) 0), (3, .ptr (.st X.dep 1) 0), (4, .ptr (.st X.dep 2) 0), (5, q.2.1)])
    (fun q => (X.hp q.2.2).fr [.cells true Z, .cells true Z, .cells true (wv [g0, g1, g2, g3, g4, g5, g6, g7])] none)
    (fun q => q.1 ≤ padZ r.length ∧ Own bF q.2.2 q.2.1 (r ++ [128] ++ List.replicate q.1 0) ∧ capN q.2.1 ∧ Keep [] H q.2.2 ∧ ∀ i ∈ slFp q.2.1, H.length ≤ i) ?_ (0, v2, H2) ⟨Nat.zero_le _, by simpa using o2, c2', kk2, ff2⟩
  rintro ⟨j, v, Hc⟩ ⟨hj, ow, hc, kH, ff⟩ ih
  dsimp only at hj ow hc kH ff ⊢
  obtain ⟨L, hL⟩ : ∃ L, r ++ [128] ++ List.replicate j 0 = L := ⟨_, rfl⟩
  have hLl : L.length = r.length + 1 + j := by rw [← hL]; simp; omega
  rw [hL] at ow
  have lo := ow.lies (kF_even .u8)
  have hkk := kH.1
  by_cases hjz : j < padZ r.length
  · obtain ⟨v', H', a', o', c', k', f'⟩ := app_1 ow (by unfold padZ at hjz; omega) 0 X.hb (fun i hi => by have := ff i hi; omega)
    simp (maxDischargeDepth := 8) only [go_sem, hw, lo.len, hLl, tmod64, show ((((r.length + 1 + j) % 64 : Nat) : Int) != 56) = true from bne_iff_ne.2 (by unfold padZ at hjz; omega), (ow.isSl (kF_even .u8)).l, a']
    rw [KL_keep _ _ _ (by simp (maxDischargeDepth := 8) only [go_sem, hw, (o'.isSl (kF_even .u8)).l])]
    simp (maxDischargeDepth := 8) only [go_sem]
    refine ih (j + 1, v', H') ⟨by dsimp only; omega, ?_, c', kH.trans' k' (fun i hi hl => by have := ff i hi; omega), fun i hi => ?_⟩ (by dsimp only; omega)
    · dsimp only; rw [List.replicate_succ', ← List.append_assoc, hL]; exact o'
    · rcases f' i hi with h | h
      · exact ff i h
      · omega
  · have ej : j = padZ r.length := by omega
    simp (maxDischargeDepth := 8) only [go_sem, hw, lo.len, hLl, tmod64, show ((((r.length + 1 + j) % 64 : Nat) : Int) != 56) = false from bne_eq_false_iff_eq.2 (by rw [ej]; unfold padZ; omega), (ow.isSl (kF_even .u8)).l]
    rw [KL_keep _ _ _ (by simp (maxDischargeDepth := 8) only [go_sem, hw, (ow.isSl (kF_even .u8)).l])]
    simp (maxDischargeDepth := 8) only [go_sem]
    rw [ej] at hL
    have hpad : padB r n = L ++ lenB n := by unfold padB; rw [hL]
    clear ih
    refine KL_indE (α := Nat × SV × Hp) (fun q => 8 - q.1) (fun q => [(0, .ptr (.hp k 0) 0), (2, .ptr (.st X.dep 0) 0), (3, .ptr (.st X.dep 1) 0), (4, .ptr (.st X.dep 2) 0), (5, q.2.1), (6, .int .i64 (56 - 8 * (q.1 : Int)))])
      (fun q => (X.hp q.2.2).fr [.cells true Z, .cells true Z, .cells true (wv [g0, g1, g2, g3, g4, g5, g6, g7])] none)
      (fun q => q.1 ≤ 8 ∧ Own bF q.2.2 q.2.1 (L ++ (lenB n).take q.1) ∧ capN q.2.1 ∧ Keep [] H q.2.2 ∧ ∀ i ∈ slFp q.2.1, H.length ≤ i) ?_ (0, v, Hc) ⟨Nat.zero_le _, by simpa using ow, hc, kH, ff⟩
    clear ow hc kH ff lo hkk v Hc
    rintro ⟨i, v, Hc⟩ ⟨hi, ow, hc, kH, ff⟩ ih
    dsimp only at hi ow hc kH ff ⊢
    have l8 : (lenB n).length = 8 := by simp [lenB]
    have hkk := kH.1
    have hkc := kH.get hk (by simp)
    by_cases h8i : i < 8
    · obtain ⟨v', H', a', o', c', k', f'⟩ := app_1 ow (by rw [List.length_append, List.length_take]; unfold padZ at ej; omega) (w8 ((w64 (w64 n * 2 ^ 3)).fdiv (2 ^ (56 - 8 * i)))) X.hb (fun i hi => by have := ff i hi; omega)
      have es : IntKind.wrap .i64 (56 - 8 * (i : Int) - 8) = 56 - 8 * ((i + 1 : Nat) : Int) := by rw [wS (by omega) (by omega)]; omega
      have eg : (56 - 8 * (i : Int)).toNat = 56 - 8 * i := by omega
      have em : min (56 - 8 * i) 64 = 56 - 8 * i := by omega
      simp (maxDischargeDepth := 8) only [go_sem, hw, hkc, hashC, show decide ((0 : Int) ≤ 56 - 8 * (i : Int)) = true from decide_eq_true (by omega), show (56 - 8 * (i : Int) < 0) = False from eq_false (by omega), (ow.isSl (kF_even .u8)).l, eg, em, show min 3 64 = 3 from rfl, a', es]
      rw [KL_keep _ _ _ (by simp (maxDischargeDepth := 8) only [go_sem, hw, (o'.isSl (kF_even .u8)).l])]
      simp (maxDischargeDepth := 8) only [go_sem]
      refine ih (i + 1, v', H') ⟨by dsimp only; omega, ?_, c', kH.trans' k' (fun i hi hl => by have := ff i hi; omega), fun i hi => ?_⟩ (by dsimp only; omega)
      · dsimp only
        rw [List.append_assoc] at o'
        rw [List.take_add_one, show (lenB n)[i]? = some (w8 ((w64 (w64 n * 2 ^ 3)).fdiv (2 ^ (56 - 8 * i)))) by unfold lenB; rw [List.getElem?_map, List.getElem?_range h8i]; rfl]
        exact o'
      · rcases f' i hi with h | h
        · exact ff i h
        · omega
    · have ei : i = 8 := by omega
      subst ei
      clear ih
      rw [List.take_of_length_le (by omega), ← hpad] at ow
      simp (maxDischargeDepth := 8) only [go_sem, hw, show decide ((-8 : Int) ≥ 0) = false from by decide, (ow.isSl (kF_even .u8)).l]
      rw [KL_keep _ _ _ (by simp (maxDischargeDepth := 8) only [go_sem, hw, (ow.isSl (kF_even .u8)).l])]
      simp (maxDischargeDepth := 8) only [go_sem]
      generalize hG : [g0, g1, g2, g3, g4, g5, g6, g7] = G at *
      rw [show [SV.int .u32 g0, SV.int .u32 g1, SV.int .u32 g2, SV.int .u32 g3, SV.int .u32 g4, SV.int .u32 g5, SV.int .u32 g6, SV.int .u32 g7] = wv G by rw [← hG]; rfl]
      have hpl : (padB r n).length % 64 = 0 := by rw [hpad, List.length_append, l8, hLl, ej]; unfold padZ; omega
      refine KL_indE (α := List Int × List Int × SV × Hp) (fun q => q.2.1.length) (fun q => [(2, .ptr (.st X.dep 0) 0), (3, .ptr (.st X.dep 1) 0), (4, .ptr (.st X.dep 2) 0), (5, q.2.2.1)])
        (fun q => (X.hp q.2.2.2).fr [.cells true Z, .cells true Z, .cells true (wv q.1)] none)
        (fun q => q.1.length = 8 ∧ Own bF q.2.2.2 q.2.2.1 q.2.1 ∧ capN q.2.2.1 ∧ Keep [] H q.2.2.2 ∧ q.2.1.length % 64 = 0 ∧ eat q.1 q.2.1 = eat G (padB r n)) ?_ (G, padB r n, v, Hc) ⟨h8, ow, hc, kH, hpl, rfl⟩
      clear ow hc kH ff hkk v Hc hpl hkc
      rintro ⟨hs, e, v, Hc⟩ ⟨q8, ow, hc, kH, qm, qE⟩ ih
      dsimp only at q8 ow hc kH qm qE ⊢
      have lo := ow.lies (kF_even .u8)
      by_cases hlt : 64 ≤ e.length
      · obtain ⟨t1, t2⟩ := lo.takeK hc hlt
        rw [show ((64 : Nat) : Int) = 64 from rfl] at t1
        have d1 := lo.dropK (lo := 64) hlt
        rw [show ((64 : Nat) : Int) = 64 from rfl] at d1
        have od := own_dropK ow hlt
        simp (maxDischargeDepth := 8) only [go_sem, hw, lo.len, show decide ((0 : Int) < (e.length : Int)) = true from decide_eq_true (by omega), t1, (LiesD.isSl t2).l, (ow.isSl (kF_even .u8)).l]
        generalize hz : RF tb f_digest_words_block _ _ = z
        obtain rfl := hz.symm.trans (r_words_blockS (X := X) (b0 := .cells true Z) (b1 := .cells true Z) q8 t2 (by rw [List.length_take]; omega) hw (by have := kH.1; omega))
        simp (maxDischargeDepth := 8) only [go_sem, hw, d1]
        rw [KL_keep _ _ _ (by simp (maxDischargeDepth := 8) only [go_sem, hw, (od.isSl (kF_even .u8)).l])]
        simp (maxDischargeDepth := 8) only [go_sem]
        rw [eat_go hlt] at qE
        exact ih (blk hs (e.take 64), e.drop 64, dropV 1 64 v, Hc) ⟨blk_len q8, od, dropV_cap hc, kH, by dsimp only; rw [List.length_drop]; omega, qE⟩ (by dsimp only; rw [List.length_drop]; omega)
      · have e0 : e = [] := List.length_eq_zero_iff.1 (by omega)
        subst e0
        rw [eat_stop (by simp)] at qE
        have hsum : sumB G r n = outB hs := by unfold sumB; rw [← qE]
        rw [hsum]
        obtain ⟨a0, a1, a2, a3, a4, a5, a6, a7, rfl⟩ := len8 q8
        rw [← hZ']
        simp (maxDischargeDepth := 8) only [go_sem, hw, lo.len, (ow.isSl (kF_even .u8)).l, show decide ((0 : Int) > 0) = false from by decide]
        rw [KL_keep _ _ _ (by simp (maxDischargeDepth := 8) only [go_sem, hw, lvs_wv])]
        simp (maxDischargeDepth := 8) only [go_sem]
        rw [KL_go]
        simp (maxDischargeDepth := 8) only [go_sem, hw, inB_8, inB_32, wLit]
        rw [KL_keep _ _ _ (by simp (maxDischargeDepth := 8) only [go_sem, hw, lvs_wv])]
        simp (maxDischargeDepth := 8) only [go_sem]
        rw [KL_go]
        simp (maxDischargeDepth := 8) only [go_sem, hw, inB_8, inB_32, wLit]
        rw [KL_keep _ _ _ (by simp (maxDischargeDepth := 8) only [go_sem, hw, lvs_wv])]
        simp (maxDischargeDepth := 8) only [go_sem]
        rw [KL_go]
        simp (maxDischargeDepth := 8) only [go_sem, hw, inB_8, inB_32, wLit]
        rw [KL_keep _ _ _ (by simp (maxDischargeDepth := 8) only [go_sem, hw, lvs_wv])]
        simp (maxDischargeDepth := 8) only [go_sem]
        rw [KL_go]
        simp (maxDischargeDepth := 8) only [go_sem, hw, inB_8, inB_32, wLit]
        rw [KL_keep _ _ _ (by simp (maxDischargeDepth := 8) only [go_sem, hw, lvs_wv])]
        simp (maxDischargeDepth := 8) only [go_sem]
        rw [KL_go]
        simp (maxDischargeDepth := 8) only [go_sem, hw, inB_8, inB_32, wLit]
        rw [KL_keep _ _ _ (by simp (maxDischargeDepth := 8) only [go_sem, hw, lvs_wv])]
        simp (maxDischargeDepth := 8) only [go_sem]
        rw [KL_go]
        simp (maxDischargeDepth := 8) only [go_sem, hw, inB_8, inB_32, wLit]
        rw [KL_keep _ _ _ (by simp (maxDischargeDepth := 8) only [go_sem, hw, lvs_wv])]
        simp (maxDischargeDepth := 8) only [go_sem]
        rw [KL_go]
        simp (maxDischargeDepth := 8) only [go_sem, hw, inB_8, inB_32, wLit]
        rw [KL_keep _ _ _ (by simp (maxDischargeDepth := 8) only [go_sem, hw, lvs_wv])]
        simp (maxDischargeDepth := 8) only [go_sem]
        rw [KL_go]
        simp (maxDischargeDepth := 8) only [go_sem, hw, inB_8, inB_32, wLit]
        rw [KL_keep _ _ _ (by simp (maxDischargeDepth := 8) only [go_sem, hw, lvs_wv])]
        simp (maxDischargeDepth := 8) only [go_sem]
        rw [KL_go]
        simp (maxDischargeDepth := 8) only [go_sem, hw, inB_8, inB_32, wLit]
        rw [hHl, take_keep kH, ← hH, hp_self]
        rfl
def shaP (b : List Int) : List Int := sumB (eat hC b).1 (eat hC b).2 (IntKind.wrap .i64 (b.length : Int))
theorem eatN_le : ∀ n (h r : List Int), (eatN n h r).2.length ≤ r.length := by
  intro n
  induction n with
  | zero => exact fun h r => Nat.le_refl _
  | succ n ih =>
    intro h r
    simp only [eatN]
    split
    · exact Nat.le_trans (ih _ _) (by rw [List.length_drop]; omega)
    · exact Nat.le_refl _
theorem outB_len {l : List Int} (h : l.length = 8) : (outB l).length = 32 := by
  obtain ⟨a0, a1, a2, a3, a4, a5, a6, a7, rfl⟩ := len8 h; rfl
theorem sumB_len {hs r : List Int} {n : Int} (h : hs.length = 8) : (sumB hs r n).length = 32 := outB_len (eat_len h)
theorem w8_in (x : Int) : 0 ≤ w8 x ∧ w8 x < 256 := by
  show 0 ≤ x % 256 ∧ x % 256 < 256
  omega
theorem outB_in {l : List Int} {c : Int} (h : c ∈ outB l) : 0 ≤ c ∧ c < 256 := by
  unfold outB at h
  rw [List.mem_flatMap] at h
  obtain ⟨x, -, h⟩ := h
  simp only [List.mem_cons, List.not_mem_nil, or_false] at h
  rcases h with rfl | rfl | rfl | rfl <;> exact w8_in _
theorem bv_all (a b : Nat) (l : List Int) : (bv l).all (SV.cell a b) = true := by
  induction l with
  | nil => rfl
  | cons x l ih => simp only [bv, List.map_cons, List.all_cons, Bool.and_eq_true]; exact ⟨rfl, ih⟩
theorem bv_hxs (l : List Int) : SV.hxs (bv l) = 0 := by
  induction l with
  | nil => rfl
  | cons x l ih => simp only [bv, List.map_cons, SV.hxs, SV.hx]; rw [show SV.hxs (l.map (SV.int .u8)) = 0 from ih]; rfl
theorem bv_lvs (a b : Nat) (l : List Int) : SV.lvs a b (bv l) = true := by
  induction l with
  | nil => rfl
  | cons x l ih => simp only [bv, List.map_cons, SV.lvs, SV.lv, Bool.true_and]; exact ih
theorem r_digest_Of {X : Mem} {v : SV} {b : List Int} (hl : LiesD bF (Hm X.heap) v b) (hbl : b.length ≤ 100000) (hw : X.Wf) (hhb : X.hb ≤ X.hl) : ∃ H' u, RF tb f_digest_Of [v] X = some (.agg (bv (shaP b)), (X.hp H').es (escMin X.esc u)) ∧ Keep [] X.heap H' ∧ (u = none ∨ u = some X.hl) := by
  rw [RF_go t_digest_Of _ _ rfl, push_hp]
  generalize hH : X.heap = H at *
  have hHl : X.hl = H.length := by rw [← hH]; rfl
  have hk0 : hget (H ++ [(0, SBk.cells true (hashC hC SV.nils 0))]) H.length 0 = some (.cells true (hashC hC .nils 0)) := by rw [hget_new0]; rfl
  simp (maxDischargeDepth := 8) only [go_sem, s_digest_Of, hw, hH, r_digest_New, show X.hb ≤ H.length by omega]
  generalize hz : RF tb f_digest_Hash_Write _ _ = z
  obtain ⟨H2, rv2, u, rfl, e2, g2, o2, c2, f2, k2⟩ := hz ▸ r_Hash_Write (X := (X.hp (H ++ [(0, SBk.cells true (hashC hC SV.nils 0))])).fr [SBk.cells true [SV.int .u8 0, SV.int .u8 0, SV.int .u8 0, SV.int .u8 0, SV.int .u8 0, SV.int .u8 0, SV.int .u8 0, SV.int .u8 0, SV.int .u8 0, SV.int .u8 0, SV.int .u8 0, SV.int .u8 0, SV.int .u8 0, SV.int .u8 0, SV.int .u8 0, SV.int .u8 0, SV.int .u8 0, SV.int .u8 0, SV.int .u8 0, SV.int .u8 0, SV.int .u8 0, SV.int .u8 0, SV.int .u8 0, SV.int .u8 0, SV.int .u8 0, SV.int .u8 0, SV.int .u8 0, SV.int .u8 0, SV.int .u8 0, SV.int .u8 0, SV.int .u8 0, SV.int .u8 0]] none) (k := H.length) (rv := .nils) (r := []) hk0 rfl (Own.nil _) (by simp [slFp]) (by simp) hbl (hl.keep (Keep.app [] _ _) (by simp)) (fun h => by have := hl.fp _ h; omega) (by intro _ _ _ _ _ e; cases e) (fr_wf (hp_wf hw) _ _) (show X.hb ≤ H.length by omega) (by simp [slFp])
  rw [List.nil_append] at g2 o2
  rw [show IntKind.wrap .i64 ((0 : Int) + (b.length : Int)) = IntKind.wrap .i64 (b.length : Int) by rw [Int.zero_add]] at g2
  have hS := fun f e => r_Hash_Sum (X := (X.hp H2).fr f e) g2 (eat_len rfl) o2 (Nat.le_trans (eatN_le _ _ _) hbl) (fr_wf (hp_wf hw) f e) (by have h9 : H.length + 1 ≤ H2.length := Nat.le_trans (by simp) (show (H ++ [(0, SBk.cells true (hashC hC SV.nils 0))]).length ≤ H2.length from k2.1); show X.hb ≤ H2.length; omega)
  have sl := sumB_len (r := (eat hC b).2) (n := IntKind.wrap .i64 (b.length : Int)) (eat_len (r := b) (show hC.length = 8 from rfl))
  rw [show sumB (eat hC b).1 (eat hC b).2 (IntKind.wrap .i64 (b.length : Int)) = shaP b from rfl] at hS sl
  generalize shaP b = D at *
  have dl : (bv D).length = 32 := by rw [List.length_map, sl]
  simp (maxDischargeDepth := 8) only [go_sem, hw, hS, dl, bv_all, bv_hxs, bv_lvs]
  rw [List.take_of_length_le (by omega), bv_hxs, bv_lvs, if_pos rfl]
  have kk : Keep [] X.heap H2 := by rw [hH]; exact (Keep.app _ _ _).trans' k2 (fun m hm hl => by simp [slFp] at hm; omega)
  have := kk.back (h := 0) (u := u)
  rw [hH] at this
  exact ⟨_, u, rfl, this, by rw [hHl]; exact e2⟩
def hexC (i : Int) : Int := if i < 10 then 48 + i else 87 + i
def textB (d : List Int) : List Int := d.flatMap fun c => [hexC (c / 16), hexC (c % 16)]
def textS (d : List Int) : ByteArray := ⟨((textB d).map fun n => UInt8.ofNat n.toNat).toArray⟩
theorem u8s_bv (l : List Int) : u8s (bv l) = some (l.map fun n => UInt8.ofNat n.toNat) := by
  induction l with
  | nil => rfl
  | cons x l ih => simp only [bv, List.map_cons, u8s]; rw [show u8s (l.map (SV.int .u8)) = _ from ih]; rfl
abbrev hexA : ByteArray := ⟨#[48, 49, 50, 51, 52, 53, 54, 55, 56, 57, 97, 98, 99, 100, 101, 102]⟩
theorem hex_at {i : Int} (h : 0 ≤ i ∧ i < 16) : (hexA.data.toList[i.toNat]?).map (fun b => SV.int .u8 b.toNat) = some (.int .u8 (hexC i)) := by
  obtain ⟨k, rfl⟩ : ∃ k : Fin 16, i = (k.val : Int) := ⟨⟨i.toNat, by omega⟩, by show i = ((i.toNat : Nat) : Int); omega⟩
  have key : ∀ k : Fin 16, (hexA.data.toList[((k.val : Int)).toNat]?).map (fun b => (b.toNat : Int)) = some (hexC k.val) := by decide
  have := key k
  rw [Option.map_eq_some_iff] at this ⊢
  obtain ⟨b, h1, h2⟩ := this
  exact ⟨b, h1, by rw [h2]⟩
theorem low4 {c : Int} (h : 0 ≤ c ∧ c < 256) : ibits .and .u8 c 15 = some (c % 16) := by
  obtain ⟨k, rfl⟩ : ∃ k : Fin 256, c = (k.val : Int) := ⟨⟨c.toNat, by omega⟩, by show c = ((c.toNat : Nat) : Int); omega⟩
  revert k; decide
def idxSV : SV → SV → Option SV
  | .str s, .int _ i => if 0 ≤ i then (s.data.toList[i.toNat]?).map fun b => .int .u8 b.toNat else none
  | _, _ => none
theorem pev_idxS {x i : Opd} {fr : Fr} : pev (.idxS x i) fr = idxSV (x.ev fr) (i.ev fr) := by
  simp only [pev, idxSV]
  cases x.ev fr <;> cases i.ev fr <;> rfl
theorem idx_hex {k : IntKind} {i : Int} (h : 0 ≤ i ∧ i < 16) : idxSV (.str ⟨#[48, 49, 50, 51, 52, 53, 54, 55, 56, 57, 97, 98, 99, 100, 101, 102]⟩) (.int k i) = some (.int .u8 (hexC i)) := by
  show (if 0 ≤ i then _ else _) = _
  rw [if_pos h.1]
  exact hex_at h
def b2sV (v : SV) (m : Mem) : Option (SV × Mem) := match v with
  | .nils => some (.str .empty, m)
  | .sl b off n c z => (m.elems 1 n (.sl b off n c z)).bind fun l => (u8s l).map fun bs => (.str ⟨bs.toArray⟩, m)
  | _ => none
theorem RP_b2s (F : Tbl) {m : Mem} {fr : Fr} {x : Opd} : RP F (.b2s x) fr m = b2sV (x.ev fr) m := by
  rw [RP_mem _ _ _ rfl]
  unfold memop b2sV
  dsimp only
  cases x.ev fr <;> rfl
theorem b2s_lies {m X : Mem} {v : SV} {l : List Int} (h : LiesD bF m v l) (hn : l ≠ []) (hX : HpSub m X) : b2sV v X = some (.str ⟨(l.map fun n => UInt8.ofNat n.toNat).toArray⟩, X) := by
  have he := (LiesD.sub h hX).elems
  rw [kF_flat] at he
  rcases h.2 with ⟨rfl, h0⟩ | ⟨rfl, h0⟩ | ⟨k, w, off, cap, c, rw, rfl, _⟩
  · exact absurd (List.length_eq_zero_iff.1 h0) hn
  · exact absurd (List.length_eq_zero_iff.1 h0) hn
  · simp only [b2sV]
    rw [show Mem.elems X 1 l.length _ = some (bv l) from he]
    simp only [Option.bind_some, u8s_bv, Option.map_some]
attribute [go_sem] pev_idxS RP_b2s
theorem r_digest_Text {X : Mem} {d : List Int} (h32 : d.length = 32) (hd : ∀ c ∈ d, 0 ≤ c ∧ c < 256) (hw : X.Wf) (hhb : X.hb ≤ X.hl) : ∃ H' u, RF tb f_digest_Text [.agg (bv d)] X = some (.str (textS d), (X.hp H').es (escMin X.esc u)) ∧ Keep [] X.heap H' ∧ (u = none ∨ u = some X.hl) := by
  rw [RF_go t_digest_Text _ _ rfl, push_hp]
  generalize hH : X.heap = H at *
  have hHl : X.hl = H.length := by rw [← hH]; rfl
  have dl : (bv d).length = 32 := by rw [List.length_map, h32]
  simp (maxDischargeDepth := 8) only [go_sem, s_digest_Text, hw, hH, dl, bv_all, bv_hxs]
  rw [List.take_of_length_le (by omega)]
  refine KL_ind (R := fun z => ∃ H' u, fin [SRes.t 2] X z = some (.str (textS d), (X.hp H').es (escMin X.esc u)) ∧ Keep [] H H' ∧ (u = none ∨ u = some X.hl))
    (α := Nat × SV × Hp) (fun q => 32 - q.1) (fun q => [(3, q.2.1), (6, .agg (bv d)), (7, .int .i64 (q.1 : Int))]) (fun q => (X.hp q.2.2).fr [.cells true (bv d)] none)
    (fun q => q.1 ≤ 32 ∧ Own bF q.2.2 q.2.1 (textB (d.take q.1)) ∧ Keep [] H q.2.2 ∧ (∀ i ∈ slFp q.2.1, H.length ≤ i) ∧ capN q.2.1) ?_ (0, .nils, H) ⟨Nat.zero_le _, Own.nil _, Keep.refl _ _, by simp [slFp], by intro _ _ _ _ _ e; cases e⟩
  rintro ⟨i, v, Hc⟩ ⟨hi, ow, kH, ff, hc⟩ ih
  dsimp only at hi ow kH ff hc ⊢
  have hkk := kH.1
  have so := ow.isSl (kF_even .u8)
  have lo := ow.lies (kF_even .u8)
  have tl : ∀ l : List Int, (textB l).length = 2 * l.length := fun l => by
    induction l with
    | nil => rfl
    | cons x l ih => simp only [textB, List.flatMap_cons, List.length_append, List.length_cons, List.length_nil] at ih ⊢; omega
  by_cases hlt : i < 32
  · obtain ⟨c, hcd⟩ : ∃ c, d[i]? = some c := ⟨d[i]'(by omega), List.getElem?_eq_getElem (by omega)⟩
    have hcr := hd c (List.mem_of_getElem? hcd)
    have hcb : (bv d)[i]? = some (.int .u8 c) := by rw [List.getElem?_map, hcd]; rfl
    have q1 := hex_at (i := c / 16) (by omega)
    have q2 := hex_at (i := c % 16) (by omega)
    have d2 : LiesD bF (Hm (Hc ++ [(0, SBk.cells true [SV.int .u8 (hexC (c / 16)), SV.int .u8 (hexC (c % 16))])])) (.sl (.hp Hc.length 0) 0 2 (some 2) 1) [hexC (c / 16), hexC (c % 16)] := (own_new (kF_even .u8) Hc [hexC (c / 16), hexC (c % 16)] (some 2)).lies (kF_even .u8)
    obtain ⟨v', H', a', o', k', f', c', -⟩ := app_b (ow.keep (Keep.app [] _ _) (by simp)) d2 (fun h => by simp at h) (by rw [tl, List.length_take]; simp; omega) X.hb (fun i hi => by have := ff i hi; omega)
    simp (maxDischargeDepth := 8) only [go_sem, hw, show decide ((i : Int) < 32) = true from decide_eq_true (by omega), bv_lvs, so.l, inB_nat hlt, Nat.mul_one, hcb, low4 hcr, show c.fdiv (2 ^ min 4 8) = c / 16 from Int.fdiv_eq_ediv_of_nonneg _ (by decide), idx_hex (show 0 ≤ c / 16 ∧ c / 16 < 16 by omega), idx_hex (show 0 ≤ c % 16 ∧ c % 16 < 16 by omega), a', wSucc (show i ≤ 4611686018427387903 by omega)]
    rw [KL_keep _ _ _ (by simp (maxDischargeDepth := 8) only [go_sem, hw, bv_lvs, (o'.isSl (kF_even .u8)).l])]
    simp (maxDischargeDepth := 8) only [go_sem]
    refine ih (i + 1, v', H') ⟨by dsimp only; omega, ?_, kH.trans' ((Keep.app _ _ _).trans k') (fun i hi hl => by have := ff i hi; omega), fun i hi => ?_, c'⟩ (by dsimp only; omega)
    · dsimp only
      rw [List.take_add_one, hcd, show textB (d.take i ++ (some c).toList) = textB (d.take i) ++ [hexC (c / 16), hexC (c % 16)] by unfold textB; rw [List.flatMap_append]; rfl]
      exact o'
    · rcases f' i hi with h | h
      · exact ff i h
      · simp at h; omega
  · have ei : i = 32 := by omega
    subst ei
    rw [List.take_of_length_le (by omega)] at ow lo
    have hb := b2s_lies lo (fun h => by have := tl d; rw [h] at this; simp at this; omega) (X := (X.hp Hc).fr [.cells true (bv d)] none) (by intro _ _ _ h; exact h)
    simp (maxDischargeDepth := 8) only [go_sem, hw, bv_lvs, so.l, hb]
    have kt := (show Keep [] X.heap Hc by rw [hH]; exact kH).take (Nat.le_refl _)
    rw [hH] at kt
    refine ⟨List.take X.hl Hc, none, ?_, by rw [hHl]; exact kt, .inl rfl⟩
    rw [show escMin X.esc none = X.esc by cases X.esc <;> rfl]
    rfl
def fzV (v : SV) (m : Mem) : Option (SV × Mem) := match v with
  | .sl b off n c z => match m.get b with
      | some (.cells true _) => if 0 < n ∧ m.may b then some (.sl b off n c z, m) else none
      | _ => none
  | _ => none
theorem RP_fz (F : Tbl) {m : Mem} {fr : Fr} {x : Opd} : RP F (.fz x) fr m = fzV (x.ev fr) m := by
  rw [RP_mem _ _ _ rfl]
  unfold memop fzV
  dsimp only
  cases x.ev fr <;> rfl
theorem fz_new {H : Hp} {X : Mem} {c : List SV} {n : Nat} {f : List SBk} {e : Option Nat} (hn : 0 < n) (hb : X.hb ≤ H.length) : fzV (.sl (.hp H.length 0) 0 n (some n) 1) ((X.hp (H ++ [(0, .cells true c)])).fr f e) = some (.sl (.hp H.length 0) 0 n (some n) 1, (X.hp (H ++ [(0, .cells true c)])).fr f e) := by
  unfold fzV
  dsimp only
  rw [show ((X.hp (H ++ [(0, .cells true c)])).fr f e).get (.hp H.length 0) = some (.cells true c) from hget_new0 0 _]
  dsimp only
  rw [if_pos ⟨hn, by simp [Mem.may, fr_hb]; exact hb⟩]
theorem r_law27_awake {X : Mem} (hw : X.Wf) (hhb : X.hb ≤ X.hl) : ∃ m', RF tb f_law27_awake [] X = some (.bool true, m') := by
  rw [RF_go t_law27_awake _ _ rfl, push_hp]
  generalize hH : X.heap = H at *
  have hHl : X.hl = H.length := by rw [← hH]; rfl
  simp (maxDischargeDepth := 8) only [go_sem, s_law27_awake, hw, hH, RP_fz]
  rw [fz_new (by decide) (by omega)]
  simp (maxDischargeDepth := 8) only [go_sem, hw]
  generalize hz : RF tb f_digest_Of _ _ = z
  have d3 : LiesD bF (Hm (H ++ [(0, SBk.cells true [SV.int .u8 97, SV.int .u8 98, SV.int .u8 99])])) (.sl (.hp H.length 0) 0 3 (some 3) 1) [97, 98, 99] := (own_new (kF_even .u8) H [97, 98, 99] (some 3)).lies (kF_even .u8)
  obtain ⟨H2, u, rfl, k2, e2⟩ := hz ▸ r_digest_Of (X := (X.hp (H ++ [(0, SBk.cells true [SV.int .u8 97, SV.int .u8 98, SV.int .u8 99])])).fr [] none) d3 (by simp) (fr_wf (hp_wf hw) _ _) (by show X.hb ≤ (H ++ [_]).length; simp; omega)
  have kl : H.length + 1 ≤ H2.length := Nat.le_trans (by simp) (show (H ++ [(0, SBk.cells true [SV.int .u8 97, SV.int .u8 98, SV.int .u8 99])]).length ≤ H2.length from k2.1)
  simp (maxDischargeDepth := 8) only [go_sem, hw]
  generalize hz : RF tb f_digest_Text _ _ = z
  obtain ⟨H3, u3, rfl, k3, e3⟩ := hz ▸ r_digest_Text (X := (X.hp H2).fr [] u) (sumB_len (eat_len rfl)) (fun c hc => outB_in hc) (fr_wf (hp_wf hw) _ _) (by show X.hb ≤ H2.length; omega)
  have ht : textS (shaP [97, 98, 99]) = ⟨#[98, 97, 55, 56, 49, 54, 98, 102, 56, 102, 48, 49, 99, 102, 101, 97, 52, 49, 52, 49, 52, 48, 100, 101, 53, 100, 97, 101, 50, 50, 50, 51, 98, 48, 48, 51, 54, 49, 97, 51, 57, 54, 49, 55, 55, 97, 57, 99, 98, 52, 49, 48, 102, 102, 54, 49, 102, 50, 48, 48, 49, 53, 97, 100]⟩ := by decide
  simp (maxDischargeDepth := 8) only [go_sem, hw]
  rw [show textS (sumB (eat hC [97, 98, 99]).1 (eat hC [97, 98, 99]).2 (IntKind.wrap .i64 3)) = _ from ht, beq_self_eq_true]
  exact ⟨_, rfl⟩
theorem slB_casesD {α : Type} (d : Fl α) (s : Sl α) : slB d s = [] ∨ slB d s = [s.l.flatMap d.enc] := by
  unfold slB; split <;> simp
theorem blk_atD {n0 : In} {L : List (List SV)} (h : n0.map (·.2) = L) {j : Nat} {c : List SV} (hj : L[j]? = some c) (pre post : In) : ∃ t, (pre ++ n0 ++ post)[pre.length + j]? = some (t, c) := by
  rw [← h, List.getElem?_map] at hj
  cases hx : n0[j]? with
  | none => rw [hx] at hj; cases hj
  | some x =>
    rw [hx] at hj
    simp only [Option.map_some, Option.some.injEq] at hj
    have hlt := (List.getElem?_eq_some_iff.1 hx).1
    refine ⟨x.1, ?_⟩
    rw [List.append_assoc, List.getElem?_append_right (Nat.le_add_right _ _), Nat.add_sub_cancel_left, List.getElem?_append_left hlt, hx, ← hj]
/-- A slice that came in. -/
theorem sl_inGD {α : Type} {d : Fl α} (hd : d.Even) {P : Program} {e : TypeId} {ok : α → Prop} {s : Sl α} (hok : slOk P e ok s) {pre n0 post : In} {A B : List (List SV)} (e0 : n0.map (·.2) = A ++ slB d s ++ B) : LiesD d (In.mem (pre ++ n0 ++ post)) (slV d s (pre.length + A.length)) s.l := by
  refine lies_in hd hok.2.2.2.1 hok.2.2.2.2 ?_
  rcases slB_casesD d s with h | h
  · exact .inl h
  · refine .inr ⟨_, h, ?_⟩
    rw [h] at e0
    obtain ⟨t, ht⟩ := blk_atD e0 (j := A.length) (c := s.l.flatMap d.enc) (by simp) pre post
    exact In.get (x := (t, _)) ht
theorem sl_bdD {α : Type} {P : Program} {e : TypeId} {ok : α → Prop} {s : Sl α} (hok : slOk P e ok s) {b : Nat} (hb : P.bytesOf e = b) : 2 * s.l.length * b ≤ two48 := by
  have := hok.2.1
  rw [hb] at this
  have h2 : 2 * s.l.length * b = 2 * (s.l.length * b) := Nat.mul_assoc _ _ _
  simp only [two48, reachBytes, maxLen] at *
  omega
def wl (b : List Int) (i : Nat) : List Int := if i < 16 then wfst b i else wseq b (i - 16)
theorem eat_app : ∀ n (h b s : List Int), b.length / 64 = n → eat h (b ++ s) = eat (eat h b).1 ((eat h b).2 ++ s) := by
  intro n
  induction n with
  | zero => intro h b s hn; rw [eat_stop (show b.length < 64 by omega)]
  | succ n ih =>
    intro h b s hn
    have hb : 64 ≤ b.length := by omega
    rw [eat_go (r := b ++ s) (by rw [List.length_append]; omega), eat_go hb, List.take_append_of_le_length hb, List.drop_append_of_le_length hb]
    exact ih _ _ _ (by rw [List.length_drop]; omega)
theorem seqs_self (l : List Int) : seqs (bv l) (bv l) = some true := by
  induction l with
  | nil => rfl
  | cons x l ih => simp only [bv, List.map_cons, seqs, seq]; rw [show seqs (l.map (SV.int .u8)) (l.map (SV.int .u8)) = some true from ih]; simp
theorem kds_bv (l : List Int) : kdsOk (l.map fun _ => Kd.int) (bv l) = true := by
  induction l with
  | nil => rfl
  | cons x l ih => simp only [bv, List.map_cons, kdsOk, Bool.and_eq_true]; exact ⟨rfl, ih⟩
theorem kds_32 {l : List Int} (h : l.length = 32) : kdsOk [.int, .int, .int, .int, .int, .int, .int, .int, .int, .int, .int, .int, .int, .int, .int, .int, .int, .int, .int, .int, .int, .int, .int, .int, .int, .int, .int, .int, .int, .int, .int, .int] (bv l) = true := by
  have := kds_bv l
  rw [List.map_const', h] at this
  exact this
section
open Go Go.ChangeShapes Go.WideShapes Go.ChangeAt Go.RowKit
def rowB {α : Type} (d : Rd α) : List α → Nat → List (List SV)
  | [], _ => []
  | a :: l, n => d.blks a n ++ rowB d l (n + (d.blks a n).length)
def rowC {α : Type} (d : Rd α) : List α → Nat → List SV
  | [], _ => []
  | a :: l, n => d.cells a n ++ rowC d l (n + (d.blks a n).length)
theorem rowB_app {α : Type} (d : Rd α) : ∀ (l : List α) (a : α) (n : Nat), rowB d (l ++ [a]) n = rowB d l n ++ d.blks a (n + (rowB d l n).length) := by
  intro l
  induction l with
  | nil => intro a n; simp [rowB]
  | cons x l ih =>
    intro a n
    simp only [List.cons_append, rowB, ih, List.append_assoc, List.length_append]
    rw [Nat.add_assoc]
theorem rowC_app {α : Type} (d : Rd α) : ∀ (l : List α) (a : α) (n : Nat), rowC d (l ++ [a]) n = rowC d l n ++ d.cells a (n + (rowB d l n).length) := by
  intro l
  induction l with
  | nil => intro a n; simp [rowC, rowB]
  | cons x l ih =>
    intro a n
    simp only [List.cons_append, rowC, rowB, ih, List.append_assoc, List.length_append]
    rw [Nat.add_assoc]
def rsV {α : Type} (d : Rd α) (s : Sl α) (n : Nat) : SV := match s.cap with
  | none => .nils
  | some 0 => .emp
  | some c => .sl (.hp (n + (rowB d s.l n).length) 0) 0 s.l.length (some c) d.sz
def rsB {α : Type} (d : Rd α) (s : Sl α) (n : Nat) : List (List SV) := match s.cap with
  | none => []
  | some 0 => []
  | some _ => rowB d s.l n ++ [rowC d s.l n]
def rsR {α : Type} (d : Rd α) : Rd (Sl α) := ⟨1, fun s n => [rsV d s n], fun s n => rsB d s n⟩
theorem weights_all {H : Type} {P : Program} {e : TypeId} {n : Nat} : ∀ {l : List (DataW H)} {d : DataW H}, d ∈ l → n ∈ d.weights P e → n ∈ DataW.weightsAll P e l := by
  intro l
  induction l with
  | nil => intro d h; cases h
  | cons x l ih =>
    intro d h hn
    simp only [DataW.weightsAll, List.mem_append]
    rcases List.mem_cons.1 h with rfl | h
    · exact .inl hn
    · exact .inr (ih h hn)
theorem reads_rslice {α : Type} {P : Program} {t e : TypeId} {d : Rd α} {ok : α → Prop} (ht : P.underlying t = some (.slice e)) (hs : P.cellsOf e = d.sz) (hpos : 0 < d.sz) (hd : Reads P e d ok) :
    Reads P t (rsR d) (slOk P e ok) := by
  constructor
  intro H enc W base spare held fuel cs x hsp hx hw
  rcases Deep.open_slice ht hx with ⟨rfl, rfl⟩ | ⟨a, len, cap, m, n, D, Pl, rfl, hb, hl, hm, hmm, rfl, hel⟩
  · refine ⟨⟨[], none⟩, ⟨by simp, by simp, by simp, by simp, by simp⟩, fun _ => rfl, fun pre hp => ⟨[], rfl, by simpa using hp, ?_⟩⟩
    exact .cons .nils .nil
  · have hmc : m = cap := by rw [hmm, if_pos (hsp _)]
    subst hmc
    have hsz : (m * P.bytesOf e) ≤ reachBytes := by
      apply hw
      simp only [DataW.weights, ht]
      refine List.mem_cons.2 (.inl ?_)
      simp
      congr 1
      omega
    have hlist : ∀ j, j ≤ len → ∃ l : List α, l.length = j ∧ (∀ a ∈ l, ok a) ∧ (∀ n, (rowC d l n).length = j * d.sz) ∧ ∃ vs : List Value, (∀ i, i < j * d.sz → W.cell? (a.add i) = vs[i]?) ∧ vs.length = j * d.sz ∧ ∀ pre : In, pre.Ok P W → ∃ new : In, new.map (·.2) = rowB d l pre.length ∧ In.Ok P W (pre ++ new) ∧ VRs (In.mu (pre ++ new)) (rowC d l pre.length) vs := by
      intro j
      induction j with
      | zero => exact fun _ => ⟨[], rfl, by simp, by simp [rowC], [], fun i hi => by omega, by simp, fun pre hp => ⟨[], rfl, by simpa using hp, .nil⟩⟩
      | succ j ih =>
        intro hj
        obtain ⟨l, q1, q2, q3, vs, q4, q5, q6⟩ := ih (by omega)
        obtain ⟨c, h1, h2⟩ := hel j (by omega)
        obtain ⟨b, o1, l1, k1⟩ := hd.out enc W base spare held n c _ hsp h2 (fun z hz => hw z (by
          simp only [DataW.weights, ht]
          refine List.mem_cons.2 (.inr (List.mem_append.2 (.inl (weights_all (d := D j) ?_ hz))))
          exact List.mem_map.2 ⟨j, List.mem_range.2 (by omega), rfl⟩))
        obtain ⟨_, hclen, hc⟩ := World.cells?_some h1
        rw [hs] at hclen
        refine ⟨l ++ [b], by simp [q1], ?_, ?_, vs ++ c, ?_, ?_, fun pre hp => ?_⟩
        · intro z hz
          rcases List.mem_append.1 hz with hz | hz
          · exact q2 z hz
          · simp at hz; subst hz; exact o1
        · intro n
          rw [rowC_app, List.length_append, q3, l1, Nat.add_mul, Nat.one_mul]
        · intro i hi
          by_cases hlt : i < j * d.sz
          · rw [List.getElem?_append_left (by omega)]; exact q4 i hlt
          · rw [List.getElem?_append_right (by omega), q5]
            have hi2 : i - j * d.sz < c.length := by
              rw [hclen]; rw [Nat.add_mul, Nat.one_mul] at hi; omega
            have := hc (i - j * d.sz) (by rw [hs]; omega)
            rw [addr_add, hs, show j * d.sz + (i - j * d.sz) = i by omega] at this
            exact this
        · rw [List.length_append, q5, hclen, Nat.add_mul, Nat.one_mul]
        · obtain ⟨n1, e1, p1, r1⟩ := q6 pre hp
          obtain ⟨n2, e2, p2, r2⟩ := k1 (pre ++ n1) p1
          have hlen : (pre ++ n1).length = pre.length + (rowB d l pre.length).length := by rw [List.length_append, ← e1, List.length_map]
          rw [hlen] at e2 r2
          refine ⟨n1 ++ n2, by rw [List.map_append, e1, e2, rowB_app], by rw [← List.append_assoc]; exact p2, ?_⟩
          rw [rowC_app, ← List.append_assoc]
          exact (r1.sub fun _ _ h => In.mu_app h).append r2
    obtain ⟨l, q1, q2, q3, vs, q4, q5, q6⟩ := hlist len (Nat.le_refl _)
    have hlen2 : len * P.bytesOf e ≤ reachBytes := Nat.le_trans (Nat.mul_le_mul_right _ hl) hsz
    refine ⟨⟨l, some m⟩, ⟨by show l.length ≤ maxLen; omega, by show l.length * _ ≤ _; rw [q1]; exact hlen2, q2, fun c hc => (by cases hc; show l.length ≤ _; omega), fun h => (by cases h)⟩, fun _ => rfl, fun pre hp => ?_⟩
    cases m with
    | zero =>
      refine ⟨[], rfl, by simpa using hp, ?_⟩
      have h0 : len = 0 := by omega
      subst h0
      exact .cons (.emp a) .nil
    | succ c =>
      -- the block
      have hfirst : ∃ v, W.cell? (a.add 0) = some v := by
        obtain ⟨cc, h1, _⟩ := hel 0 (by omega)
        obtain ⟨_, hclen, hc⟩ := World.cells?_some h1
        have := hc 0 (by rw [hs]; exact hpos)
        rw [addr_add] at this
        simp only [Nat.zero_mul] at this
        rw [List.getElem?_eq_getElem (by rw [hclen, hs]; exact hpos)] at this
        exact ⟨_, this⟩
      obtain ⟨v0, hv0⟩ := hfirst
      obtain ⟨C, ee, pp, hh, hv0', hspot⟩ := cell_app hv0
      have ha0 : a.add 0 = a := rfl
      rw [ha0] at hh hspot hv0'
      have hbl : ∀ i v, W.cell? (a.add i) = some v → C[a.off + i]? = some v := by
        intro i v hv
        obtain ⟨C', _, _, h1, h2, _⟩ := cell_app hv
        have eb : (a.add i).block = a.block := by unfold Addr.add; split <;> rfl
        have eo : (a.add i).off = a.off + i := by
          unfold Addr.add
          split
          · rename_i h0; rw [h0]; rfl
          · rfl
        rw [eb, hh] at h1
        cases h1
        rw [eo] at h2
        exact h2
      -- the whole room lies in the block
      have hroom : a.off + (c + 1) * d.sz ≤ C.size := by
        obtain ⟨cc, h1, _⟩ := hel c (by omega)
        obtain ⟨_, hclen, hc⟩ := World.cells?_some h1
        have := hc (d.sz - 1) (by rw [hs]; omega)
        rw [addr_add, hs, List.getElem?_eq_getElem (by rw [hclen, hs]; omega)] at this
        have h3 := (Array.getElem?_eq_some_iff.1 (hbl _ _ this)).1
        rw [Nat.add_mul, Nat.one_mul]
        omega
      obtain ⟨n1, e1, p1, r1⟩ := q6 pre hp
      have hln : (pre ++ n1).length = pre.length + (rowB d l pre.length).length := by rw [List.length_append, ← e1, List.length_map]
      refine ⟨n1 ++ [((a.block, a.off, C.size), rowC d l pre.length)], by rw [List.map_append, e1]; rfl, ?_, ?_⟩
      · rw [← List.append_assoc]
        intro i x hi
        by_cases hlt : i < (pre ++ n1).length
        · rw [List.getElem?_append_left hlt] at hi
          exact p1.sub i x hi
        · rw [List.getElem?_append_right (by omega)] at hi
          have : i - (pre ++ n1).length = 0 := by
            rcases Nat.eq_zero_or_pos (i - (pre ++ n1).length) with h | h
            · exact h
            · rw [List.getElem?_eq_none (show 1 ≤ _ from h)] at hi; cases hi
          rw [this] at hi
          simp only [List.getElem?_cons_zero, Option.some.injEq] at hi
          subst hi
          refine ⟨C, ee, pp.1, pp.2, hh, rfl, ?_, ?_, fun h => by cases h⟩
          · rw [q3]
            have : len * d.sz ≤ (c + 1) * d.sz := Nat.mul_le_mul_right _ hl
            show a.off + len * d.sz ≤ C.size
            omega
          · rw [q3]
            have e1 : (C.toList.drop a.off).take (len * d.sz) = vs := by
              apply List.ext_getElem?
              intro i
              by_cases hi : i < len * d.sz
              · rw [List.getElem?_take, if_pos hi, List.getElem?_drop]
                have hv := q4 i hi
                have hlt : i < vs.length := by omega
                rw [List.getElem?_eq_getElem hlt] at hv ⊢
                have := hbl i _ hv
                simpa using this
              · rw [List.getElem?_eq_none (by simp; omega), List.getElem?_eq_none (by omega)]
            show VRs _ _ ((C.toList.drop a.off).take (len * d.sz))
            rw [e1]
            exact r1.sub fun _ _ h => In.mu_app h
      · refine .cons ?_ .nil
        have hmu : In.mu (pre ++ (n1 ++ [((a.block, a.off, C.size), rowC d l pre.length)])) (.hp (pre.length + (rowB d l pre.length).length) 0) = some (a.block, a.off, C.size) := by
          rw [← hln, ← List.append_assoc]
          simp [In.mu]
        have := VR.sl (off := 0) (len := l.length) (c := c + 1) (z := d.sz) (cap := some (c + 1)) hmu (by omega) (fun k hk => by cases hk; rfl) (by simpa using hroom)
        rw [Nat.add_zero, q1] at this
        have ea : a = ⟨a.block, a.off, none⟩ := by
          clear this
          obtain ⟨ab, ao, asp⟩ := a
          simp only at hspot
          rw [hspot]
        rw [ea]
        simp only [rsV, q1]
        exact this
end
/-- A slice of slices of bytes. -/
def PL (m : Mem) (v : SV) (ls : List (List Int)) : Prop := ∃ cs, Lies m 1 v ls.length cs ∧ ∀ (j : Nat) (l : List Int), ls[j]? = some l → ∃ vj, cs[j]? = some vj ∧ LiesD bF m vj l
theorem PL.sub {m X : Mem} {v : SV} {ls : List (List Int)} (h : PL m v ls) (hX : HpSub m X) : PL X v ls := by
  obtain ⟨cs, h1, h2⟩ := h
  exact ⟨cs, h1.sub hX, fun j l hj => by obtain ⟨vj, a, b⟩ := h2 j l hj; exact ⟨vj, a, b.sub hX⟩⟩
theorem PL.at {m : Mem} {v : SV} {ls : List (List Int)} (h : PL m v ls) {j : Nat} {l : List Int} (hj : ls[j]? = some l) : ∃ vj, LiesD bF m vj l ∧ (∀ k m', iaddrV 1 v (.int k (j : Int)) m' = some (.ptr (.hp (slN v) (slW v)) (slO v + j), m')) ∧ ∀ {X : Mem}, HpSub m X → X.load (.hp (slN v) (slW v)) (slO v + j) none = some vj := by
  obtain ⟨cs, h1, h2⟩ := h
  obtain ⟨vj, a, b⟩ := h2 j l hj
  have hl : j < ls.length := (List.getElem?_eq_some_iff.1 hj).1
  refine ⟨vj, b, fun k m' => ?_, fun hX => ?_⟩
  · have := h1.iaddr hl k m'
    rw [Nat.mul_one] at this
    exact this
  · rw [(h1.sub hX).load1 (by omega), a]
theorem storeB {H : Hp} {v : SV} {l : List Int} (hv : Own bF H v l) {i : Nat} (hi : i < l.length) (X : Mem) (hm : ∀ i ∈ slFp v, X.hb ≤ i) (a : Int) :
    ∃ H', (∀ f e, ((X.hp H).fr f e).store (.hp (slN v) (slW v)) (slO v + i) [.int .u8 a] = some ((X.hp H').fr f e)) ∧ Own bF H' v (l.set i a) ∧ Keep (slFp v) H H' ∧ H'.length = H.length := by
  obtain ⟨H', h1, h2⟩ := store_own (kF_even .u8) (by decide) (fun _ => rfl) (fun _ => rfl) hv hi X hm a
  refine ⟨H', fun f e => ?_, h2⟩
  have := h1 f e
  rw [show (Fl.int .u8).sz = 1 from rfl, Nat.mul_one] at this
  exact this
theorem seqs_bv (a b : List Int) (h : a = b) : seqs (bv a) (bv b) = some true := by subst h; exact seqs_self a
theorem r_law27_DigestPieces {X : Mem} {v : SV} {ls : List (List Int)} (hp : PL (Hm X.heap) v ls) (hll : ls.length ≤ 10000000000000) (hsz : ∀ l ∈ ls, l.length ≤ 1000000000000000) (hw : X.Wf) (hhb : X.hb ≤ X.hl) : ∃ m', RF tb f_law27_DigestPieces [v] X = some (.bool true, m') := by
  rw [RF_go t_law27_DigestPieces _ _ rfl, push_hp]
  generalize hH : X.heap = H at *
  have hHl : X.hl = H.length := by rw [← hH]; rfl
  obtain ⟨vc, vl, hv2⟩ := hp
  have hp : PL (Hm H) v ls := ⟨vc, vl, hv2⟩
  have sv : ∀ a b, SV.lv a b v = true := vl.lv
  have lenv0 := fun m' => vl.len m'
  simp (maxDischargeDepth := 8) only [go_sem, s_law27_DigestPieces, hw, hH, r_digest_New, show X.hb ≤ H.length by omega, sv]
  obtain ⟨H1, hH1⟩ : ∃ H1, H ++ [(0, SBk.cells true (hashC hC SV.nils 0))] = H1 := ⟨_, rfl⟩
  have hk1 : hget H1 H.length 0 = some (.cells true (hashC hC .nils 0)) := by rw [← hH1, hget_new0]; rfl
  have l1 : H1.length = H.length + 1 := by rw [← hH1, List.length_append]; rfl
  have k1 : Keep [] H H1 := by rw [← hH1]; exact Keep.app _ _ _
  rw [hH1]
  have oa0 : Own bF (H1 ++ [(0, SBk.cells true [])]) (.sl (.hp H1.length 0) 0 0 (some 0) 1) [] := own_new (kF_even .u8) H1 [] (some 0)
  rw [KL_keep _ _ _ (by simp (maxDischargeDepth := 8) only [go_sem, sv])]
  simp (maxDischargeDepth := 8) only [go_sem]
  have q1 := (Keep.app [] H1 [(0, SBk.cells true [])]).get hk1 (by simp)
  have q2 := k1.trans (Keep.app [] H1 [(0, SBk.cells true [])])
  refine KL_ind (R := fun z => ∃ m', fin [.t 2] X z = some (.bool true, m'))
    (α := Nat × List Int × SV × SV × Hp × Option Nat) (fun q => ls.length - q.1) (fun q => [(0, v), (3, .ptr (.hp H.length 0) 0), (4, q.2.2.1), (5, .int .i64 (q.1 : Int))]) (fun q => (X.hp q.2.2.2.2.1).fr [] q.2.2.2.2.2)
    (fun q => q.1 ≤ ls.length ∧ q.2.1.length ≤ 4096 ∧ hget q.2.2.2.2.1 H.length 0 = some (.cells true (hashC (eat hC q.2.1).1 q.2.2.2.1 (q.2.1.length : Int))) ∧ Own bF q.2.2.2.2.1 q.2.2.2.1 (eat hC q.2.1).2 ∧ capN q.2.2.2.1 ∧ Own bF q.2.2.2.2.1 q.2.2.1 q.2.1 ∧ (∀ j ∈ slFp q.2.2.2.1, H.length < j) ∧ (∀ j ∈ slFp q.2.2.1, H.length < j) ∧ (∀ j ∈ slFp q.2.2.2.1, j ∉ slFp q.2.2.1) ∧ Keep [] H q.2.2.2.2.1)
    ?_ (0, [], .sl (.hp H1.length 0) 0 0 (some 0) 1, .nils, H1 ++ [(0, SBk.cells true [])], none) ⟨Nat.zero_le _, by simp, by (dsimp only; rw [eat_stop (by simp)]; exact q1), by (dsimp only; rw [eat_stop (by simp)]; exact Own.nil _), by (intro _ _ _ _ _ e; cases e), oa0, by simp [slFp], by simp [slFp]; omega, by simp [slFp], q2⟩
  clear oa0 q1 q2 hk1 hH1 k1 l1 hv2 vl
  rintro ⟨i, A, va, rv, Hc, e⟩ ⟨hi, hA, hk, orr, cr, oa, fr, fa, fd, kH⟩ ih
  dsimp only at hi hA hk orr cr oa fr fa fd kH ⊢
  have hkk := kH.1
  have hkl := hget_lt hk
  have h8 := eat_len (r := A) (show hC.length = 8 from rfl)
  have hrl := Nat.le_trans (eatN_le (A.length / 64) hC A) hA
  have hrl' : (eat hC A).2.length ≤ 4096 := hrl
  have so := oa.isSl (kF_even .u8)
  have lo := oa.lies (kF_even .u8)
  have hS := fun f e => r_Hash_Sum (X := (X.hp Hc).fr f e) hk h8 orr (by omega) (fr_wf (hp_wf hw) f e) (show X.hb ≤ Hc.length by omega)
  have hsum : sumB (eat hC A).1 (eat hC A).2 (A.length : Int) = shaP A := by unfold shaP; rw [wS (by omega) (by omega)]
  have sl1 : (sumB (eat hC A).1 (eat hC A).2 (A.length : Int)).length = 32 := sumB_len h8
  have sl2 : (shaP A).length = 32 := by rw [← hsum]; exact sl1
  have h300 : ((i : Int) < 300) = (i < 300) := propext (by omega)
  by_cases hlt : i < ls.length ∧ i < 300
  · obtain ⟨l, hl⟩ : ∃ l, ls[i]? = some l := ⟨_, List.getElem?_eq_getElem hlt.1⟩
    obtain ⟨vj, lj, ia, il⟩ := hp.at hl
    have il0 : ∀ Hx, Keep [] H Hx → loadO (hget Hx (slN v) (slW v)) (slO v + i) none = some vj := fun Hx hx => (hp_load (m := Hm []) (H := Hx) _ _ _ _).symm.trans (il (X := Hm Hx) hx.sub)
    have hlz := hsz l (List.mem_of_getElem? hl)
    have sj := lj.isSl
    have wl : IntKind.wrap .i64 (4096 - (A.length : Int)) = 4096 - (A.length : Int) := wS (by omega) (by omega)
    by_cases hbig : 4096 - (A.length : Int) < l.length
    · simp (maxDischargeDepth := 8) only [go_sem, hw, sv, so.l, lenv0, show decide ((i : Int) < (ls.length : Int)) = true from decide_eq_true (by omega), show decide ((i : Int) < 300) = true from decide_eq_true (by omega), ia, il0 _ kH, lj.len, lo.len, wl, show decide ((l.length : Int) > 4096 - (A.length : Int)) = true from decide_eq_true hbig, hS]
      generalize hz : RF tb f_digest_Of _ _ = z
      obtain ⟨H5, u5, rfl, k5, e5⟩ := hz ▸ r_digest_Of (X := (X.hp Hc).fr [] e) (oa.lies (kF_even .u8)) (by omega) (fr_wf (hp_wf hw) _ _) (by show X.hb ≤ Hc.length; omega)
      have k5' : Keep [] Hc H5 := k5
      have hk5 := k5'.get hk (by simp)
      have hl5 := k5'.1
      have hS5 := fun f e => r_Hash_Sum (X := (X.hp H5).fr f e) hk5 h8 (orr.keep k5' (by simp)) (by omega) (fr_wf (hp_wf hw) f e) (show X.hb ≤ H5.length by omega)
      simp (maxDischargeDepth := 8) only [go_sem, hw, seqs_bv _ _ hsum, kds_32 sl1, kds_32 sl2, hS5]
      generalize hz : RF tb f_digest_Of _ _ = z
      obtain ⟨H6, u6, rfl, k6, e6⟩ := hz ▸ r_digest_Of (X := (X.hp H5).fr [] (escMin e u5)) ((oa.keep k5' (by simp)).lies (kF_even .u8)) (by omega) (fr_wf (hp_wf hw) _ _) (by show X.hb ≤ H5.length; omega)
      have k6' : Keep [] H5 H6 := k6
      have hl6 := k6'.1
      simp (maxDischargeDepth := 8) only [go_sem, hw, seqs_bv _ _ hsum, kds_32 sl1, kds_32 sl2]
      generalize hz : RF tb f_law27_awake _ _ = z
      obtain ⟨m', rfl⟩ := hz ▸ r_law27_awake (X := (X.hp H6).fr [] (escMin (escMin e u5) u6)) (fr_wf (hp_wf hw) _ _) (by show X.hb ≤ H6.length; omega)
      simp (maxDischargeDepth := 8) only [go_sem, hw]
      exact ⟨_, rfl⟩
    · simp (maxDischargeDepth := 8) only [go_sem, hw, sv, so.l, lenv0, show decide ((i : Int) < (ls.length : Int)) = true from decide_eq_true (by omega), show decide ((i : Int) < 300) = true from decide_eq_true (by omega), ia, il0 _ kH, lj.len, lo.len, wl, show decide ((l.length : Int) > 4096 - (A.length : Int)) = false from decide_eq_false hbig]
      obtain ⟨vo, Ho, ao, oo, ko, fo, soo⟩ := app_fresh (kF_even .u8) (by decide) (kF_ok .u8) (kF_hx .u8) (lj.keep kH (by simp)) (bytes := 1) (by simp only [two48]; omega) (by simp only [two48]; omega) X (by omega)
      have ao' : ∀ f e, appV 1 1 [.int .u8 0] (fun _ => true) (.sl (.hp Hc.length 0) 0 0 (some 0) 1) vj ((X.hp (Hc ++ [(0, .cells true [])])).fr f e) = some (vo, (X.hp Ho).fr f e) := fun f e => ao [.int .u8 0] rfl (fun _ => true) (fun _ _ => rfl) f e
      simp (maxDischargeDepth := 8) only [go_sem, hw, sv, so.l, il0 _ (kH.trans (Keep.app [] Hc [(0, SBk.cells true [])])), ao']
      have hko := ko.get hk (by simp)
      have hlo := ko.1
      have nk : H.length ∉ slFp rv := fun h => by have := fr _ h; omega
      have nko : H.length ∉ slFp vo := fun h => by have := fo _ h; omega
      generalize hz : RF tb f_digest_Hash_Write _ _ = z
      obtain ⟨H2, rv2, u, rfl, e2, hk2, o2, c2, f2, kw⟩ := hz ▸ r_Hash_Write (X := (X.hp Ho).fr [] e) hko h8 (orr.keep ko (by simp)) nk (by omega) (by omega) (oo.lies (kF_even .u8)) nko cr (fr_wf (hp_wf hw) _ _) (show X.hb ≤ H.length by omega) (fun j hj => by have := fr j hj; show X.hb ≤ j; omega)
      rw [← eat_app _ hC A l rfl] at hk2 o2
      have wN : IntKind.wrap .i64 ((A.length : Int) + (l.length : Int)) = ((A ++ l).length : Int) := by rw [wS (by omega) (by omega), List.length_append]; omega
      rw [wN] at hk2
      have kw' : Keep (H.length :: slFp rv) Ho H2 := kw
      have hl2 := kw'.1
      have hAl : (A ++ l).length ≤ 4096 := by rw [List.length_append]; omega
      have oo2 : Own bF H2 vo l := oo.keep kw' (fun j hj hc => by
        have h1 := fo j hj
        rcases List.mem_cons.1 hc with h | h
        · omega
        · have := orr.fp j h; omega)
      have oa2 : Own bF H2 va A := (oa.keep ko (by simp)).keep kw' (fun j hj hc => by
        rcases List.mem_cons.1 hc with h | h
        · have := fa j hj; omega
        · exact fd j h hj)
      have kH2 : Keep [] H H2 := (kH.trans ko).trans' kw' (fun m hm hl => by
        rcases List.mem_cons.1 hm with h | h
        · omega
        · have := fr m h; omega)
      have fr2 : ∀ j ∈ slFp rv2, H.length < j := fun j hj => by
        rcases f2 j hj with h | h
        · exact fr j h
        · have h' : Ho.length ≤ j := h; omega
      have fd2 : ∀ j ∈ slFp rv2, j ∉ slFp va := fun j hj hc => by
        rcases f2 j hj with h | h
        · exact fd j h hc
        · have h' : Ho.length ≤ j := h
          have := oa.fp j hc; omega
      have fo2 : ∀ j ∈ slFp vo, H.length < j ∧ j ∉ slFp rv2 ∧ j ∉ slFp va := fun j hj => by
        have h1 := fo j hj
        have h2 := oo.fp j hj
        refine ⟨by omega, fun hc => ?_, fun hc => by have := oa.fp j hc; omega⟩
        rcases f2 j hc with h | h
        · have := orr.fp j h; omega
        · have h' : Ho.length ≤ j := h; omega
      simp (maxDischargeDepth := 8) only [go_sem, hw, sv, so.l]
      rw [KL_keep _ _ _ (by simp (maxDischargeDepth := 8) only [go_sem, sv, so.l, soo.l])]
      simp (maxDischargeDepth := 8) only [go_sem]
      refine KL_ind (R := fun z => ∃ m', fin [.t 2] X z = some (.bool true, m'))
        (α := Nat × List Int × Hp) (fun q => l.length - q.1) (fun q => [(0, v), (3, .ptr (.hp H.length 0) 0), (4, va), (5, .int .i64 (i : Int)), (6, vo), (7, .int .i64 (q.1 : Int))]) (fun q => (X.hp q.2.2).fr [] (escMin e u))
        (fun q => q.2.1.length = l.length ∧ Own bF q.2.2 vo q.2.1 ∧ Keep (slFp vo) H2 q.2.2 ∧ q.2.2.length = H2.length) ?_ (0, l, H2) ⟨rfl, oo2, Keep.refl _ _, rfl⟩
      clear oo2
      rintro ⟨t, y, Hd⟩ ⟨hy, oy, kd, ld⟩ ih2
      dsimp only at hy oy kd ld ⊢
      have ly := oy.lies (kF_even .u8)
      by_cases ht : t < l.length
      · obtain ⟨H5, st, o5, k5, l5⟩ := storeB oy (i := t) (by omega) X (fun j hj => by have := (fo2 j hj).1; omega) (IntKind.wrap .u8 (y.getD t 0 + 1))
        simp (maxDischargeDepth := 8) only [go_sem, hw, sv, so.l, soo.l, ly.len, hy, show decide ((t : Int) < (l.length : Int)) = true from decide_eq_true (by omega), ly.iaddrK (i := t) (by omega), ly.loadK (i := t) (by omega), st, wSucc (show t ≤ 4611686018427387903 by omega)]
        rw [KL_keep _ _ _ (by simp (maxDischargeDepth := 8) only [go_sem, sv, so.l, soo.l])]
        simp (maxDischargeDepth := 8) only [go_sem]
        exact ih2 (t + 1, y.set t _, H5) ⟨by dsimp only; rw [List.length_set]; exact hy, o5, kd.trans k5, by dsimp only; omega⟩ (by dsimp only; omega)
      · have kHd : Keep [] H Hd := kH2.trans' kd (fun m hm hl => by have := (fo2 m hm).1; omega)
        have oad : Own bF Hd va A := oa2.keep kd (fun j hj hc => (fo2 j hc).2.2 hj)
        have ord2 : Own bF Hd rv2 (eat hC (A ++ l)).2 := o2.keep kd (fun j hj hc => (fo2 j hc).2.1 hj)
        have hkd := kd.get hk2 (fun hc => by have := (fo2 _ hc).1; omega)
        obtain ⟨va', H6, a6, o6, k6, f6, -, -⟩ := app_ownY (kF_even .u8) (by decide) (kF_ok .u8) (kF_hx .u8) oad (lj.keep kHd (by simp)) (bytes := 1) (by simp only [two48]; omega) (by simp only [two48]; omega) X (fun j hj => by have := fa j hj; omega)
        have a6' : ∀ f e, appV 1 1 [.int .u8 0] (fun _ => true) va vj ((X.hp Hd).fr f e) = some (va', (X.hp H6).fr f e) := fun f e => a6 [.int .u8 0] rfl (fun _ => true) (oad.aw (fun _ _ => rfl)) _ rfl rfl
        simp (maxDischargeDepth := 8) only [go_sem, hw, sv, so.l, soo.l, ly.len, hy, show decide ((t : Int) < (l.length : Int)) = false from decide_eq_false (by omega), ia, il0 _ kHd, a6']
        have nka : H.length ∉ slFp va := fun h => by have := fa _ h; omega
        have hk6 := k6.get hkd nka
        have h88 := eat_len (r := A ++ l) (show hC.length = 8 from rfl)
        have kH6 : Keep [] H H6 := kHd.trans' k6 (fun m hm hl => by have := fa m hm; omega)
        have or6 : Own bF H6 rv2 (eat hC (A ++ l)).2 := ord2.keep k6 (fun j hj hc => fd2 j hj hc)
        have hL6 := fun f e => r_Hash_Len (X := (X.hp H6).fr f e) hk6 h88 (fr_wf (hp_wf hw) f e)
        have lo6 := o6.lies (kF_even .u8)
        have s6 := o6.isSl (kF_even .u8)
        have hrl6 : (eat hC (A ++ l)).2.length ≤ 4096 := Nat.le_trans (eatN_le ((A ++ l).length / 64) hC (A ++ l)) hAl
        have hl6 := kH6.1
        have hS6 := fun f e => r_Hash_Sum (X := (X.hp H6).fr f e) hk6 h88 or6 (by omega) (fr_wf (hp_wf hw) f e) (show X.hb ≤ H6.length by omega)
        have hsum6 : sumB (eat hC (A ++ l)).1 (eat hC (A ++ l)).2 ((A ++ l).length : Int) = shaP (A ++ l) := by unfold shaP; rw [wS (by omega) (by omega)]
        have sl61 : (sumB (eat hC (A ++ l)).1 (eat hC (A ++ l)).2 ((A ++ l).length : Int)).length = 32 := sumB_len h88
        have sl62 : (shaP (A ++ l)).length = 32 := by rw [← hsum6]; exact sl61
        have t3 : (i : Int).tmod 3 = ((i % 3 : Nat) : Int) := by rw [Int.tmod_eq_emod_of_nonneg (by omega)]; omega
        generalize hAll : A ++ l = A' at *
        have fr6 : ∀ j ∈ slFp va', H.length < j ∧ j ∉ slFp rv2 := fun j hj => by
          rcases f6 j hj with h | h
          · exact ⟨fa j h, fun hc => fd2 j hc h⟩
          · have h' : Hd.length ≤ j := h
            exact ⟨by omega, fun hc => by have := o2.fp j hc; omega⟩
        by_cases h3 : i % 3 = 0
        · simp (maxDischargeDepth := 8) only [go_sem, hw, sv, hL6, lo6.len, bne_self_eq_false, t3, show (((i % 3 : Nat) : Int) == 0) = true from beq_iff_eq.2 (by omega), hS6]
          generalize hz : RF tb f_digest_Of _ _ = z
          obtain ⟨H7, u7, rfl, k7, e7⟩ := hz ▸ r_digest_Of (X := (X.hp H6).fr [] (escMin e u)) lo6 (by omega) (fr_wf (hp_wf hw) _ _) (show X.hb ≤ H6.length by omega)
          have k7' : Keep [] H6 H7 := k7
          simp (maxDischargeDepth := 8) only [go_sem, hw, sv, s6.l, seqs_bv _ _ hsum6, kds_32 sl61, kds_32 sl62, bne_self_eq_false]
          rw [KL_keep _ _ _ (by simp (maxDischargeDepth := 8) only [go_sem, sv, s6.l])]
          simp (maxDischargeDepth := 8) only [go_sem, wSucc (show i ≤ 4611686018427387903 by omega)]
          exact ih (i + 1, A', va', rv2, H7, _) ⟨by dsimp only; omega, hAl, k7'.get hk6 (by simp), or6.keep k7' (by simp), c2, o6.keep k7' (by simp), fr2, fun j hj => (fr6 j hj).1, fun j hj hc => (fr6 j hc).2 hj, kH6.trans k7'⟩ (by dsimp only; omega)
        · simp (maxDischargeDepth := 8) only [go_sem, hw, sv, s6.l, hL6, lo6.len, bne_self_eq_false, t3, show (((i % 3 : Nat) : Int) == 0) = false from beq_eq_false_iff_ne.2 (by omega)]
          rw [KL_keep _ _ _ (by simp (maxDischargeDepth := 8) only [go_sem, sv, s6.l])]
          simp (maxDischargeDepth := 8) only [go_sem, wSucc (show i ≤ 4611686018427387903 by omega)]
          exact ih (i + 1, A', va', rv2, H6, _) ⟨by dsimp only; omega, hAl, hk6, or6, c2, o6, fr2, fun j hj => (fr6 j hj).1, fun j hj hc => (fr6 j hc).2 hj, kH6⟩ (by dsimp only; omega)
  · by_cases hlt1 : i < ls.length
    · simp (maxDischargeDepth := 8) only [go_sem, hw, sv, so.l, lenv0, show decide ((i : Int) < (ls.length : Int)) = true from decide_eq_true (by omega), show decide ((i : Int) < 300) = false from decide_eq_false (by omega), hS]
      generalize hz : RF tb f_digest_Of _ _ = z
      obtain ⟨H5, u5, rfl, k5, e5⟩ := hz ▸ r_digest_Of (X := (X.hp Hc).fr [] e) (oa.lies (kF_even .u8)) (by omega) (fr_wf (hp_wf hw) _ _) (by show X.hb ≤ Hc.length; omega)
      have k5' : Keep [] Hc H5 := k5
      have hk5 := k5'.get hk (by simp)
      have hl5 := k5'.1
      have hS5 := fun f e => r_Hash_Sum (X := (X.hp H5).fr f e) hk5 h8 (orr.keep k5' (by simp)) (by omega) (fr_wf (hp_wf hw) f e) (show X.hb ≤ H5.length by omega)
      simp (maxDischargeDepth := 8) only [go_sem, hw, seqs_bv _ _ hsum, kds_32 sl1, kds_32 sl2, hS5]
      generalize hz : RF tb f_digest_Of _ _ = z
      obtain ⟨H6, u6, rfl, k6, e6⟩ := hz ▸ r_digest_Of (X := (X.hp H5).fr [] (escMin e u5)) ((oa.keep k5' (by simp)).lies (kF_even .u8)) (by omega) (fr_wf (hp_wf hw) _ _) (by show X.hb ≤ H5.length; omega)
      have k6' : Keep [] H5 H6 := k6
      have hl6 := k6'.1
      simp (maxDischargeDepth := 8) only [go_sem, hw, seqs_bv _ _ hsum, kds_32 sl1, kds_32 sl2]
      generalize hz : RF tb f_law27_awake _ _ = z
      obtain ⟨m', rfl⟩ := hz ▸ r_law27_awake (X := (X.hp H6).fr [] (escMin (escMin e u5) u6)) (fr_wf (hp_wf hw) _ _) (by show X.hb ≤ H6.length; omega)
      simp (maxDischargeDepth := 8) only [go_sem, hw]
      exact ⟨_, rfl⟩
    · simp (maxDischargeDepth := 8) only [go_sem, hw, sv, so.l, lenv0, show decide ((i : Int) < (ls.length : Int)) = false from decide_eq_false (by omega), hS]
      generalize hz : RF tb f_digest_Of _ _ = z
      obtain ⟨H5, u5, rfl, k5, e5⟩ := hz ▸ r_digest_Of (X := (X.hp Hc).fr [] e) (oa.lies (kF_even .u8)) (by omega) (fr_wf (hp_wf hw) _ _) (by show X.hb ≤ Hc.length; omega)
      have k5' : Keep [] Hc H5 := k5
      have hk5 := k5'.get hk (by simp)
      have hl5 := k5'.1
      have hS5 := fun f e => r_Hash_Sum (X := (X.hp H5).fr f e) hk5 h8 (orr.keep k5' (by simp)) (by omega) (fr_wf (hp_wf hw) f e) (show X.hb ≤ H5.length by omega)
      simp (maxDischargeDepth := 8) only [go_sem, hw, seqs_bv _ _ hsum, kds_32 sl1, kds_32 sl2, hS5]
      generalize hz : RF tb f_digest_Of _ _ = z
      obtain ⟨H6, u6, rfl, k6, e6⟩ := hz ▸ r_digest_Of (X := (X.hp H5).fr [] (escMin e u5)) ((oa.keep k5' (by simp)).lies (kF_even .u8)) (by omega) (fr_wf (hp_wf hw) _ _) (by show X.hb ≤ H5.length; omega)
      have k6' : Keep [] H5 H6 := k6
      have hl6 := k6'.1
      simp (maxDischargeDepth := 8) only [go_sem, hw, seqs_bv _ _ hsum, kds_32 sl1, kds_32 sl2]
      generalize hz : RF tb f_law27_awake _ _ = z
      obtain ⟨m', rfl⟩ := hz ▸ r_law27_awake (X := (X.hp H6).fr [] (escMin (escMin e u5) u6)) (fr_wf (hp_wf hw) _ _) (by show X.hb ≤ H6.length; omega)
      simp (maxDischargeDepth := 8) only [go_sem, hw]
      exact ⟨_, rfl⟩
section
open Go Go.ChangeShapes Go.WideShapes Go.ChangeAt Go.RowKit
theorem row_at : ∀ (l : List (Sl Int)) (n j : Nat) (s : Sl Int), l[j]? = some s → ∃ A B, rowB (Rd.slice bF) l n = A ++ slB bF s ++ B ∧ (rowC (Rd.slice bF) l n)[j]? = some (slV bF s (n + A.length)) := by
  intro l
  induction l with
  | nil => intro n j s h; simp at h
  | cons x l ih =>
    intro n j s h
    cases j with
    | zero =>
      simp only [List.getElem?_cons_zero, Option.some.injEq] at h
      subst h
      exact ⟨[], rowB (Rd.slice bF) l (n + (slB bF x).length), by simp [rowB, Rd.slice], rfl⟩
    | succ j =>
      simp only [List.getElem?_cons_succ] at h
      obtain ⟨A, B, h1, h2⟩ := ih (n + (slB bF x).length) j s h
      refine ⟨slB bF x ++ A, B, ?_, ?_⟩
      · show slB bF x ++ rowB (Rd.slice bF) l (n + (slB bF x).length) = _
        rw [h1]; simp only [List.append_assoc]
      · show (rowC (Rd.slice bF) l (n + (slB bF x).length))[j]? = _
        rw [h2, List.length_append, Nat.add_assoc]
theorem rowC_len1 (l : List (Sl Int)) : ∀ n, (rowC (Rd.slice bF) l n).length = l.length := by
  induction l with
  | nil => intro n; rfl
  | cons x l ih => intro n; show (slV bF x n :: rowC (Rd.slice bF) l _).length = _; rw [List.length_cons, ih, List.length_cons]
theorem law27_DigestPieces {P : Program} {e e' : TypeId} (s : Sl (Sl Int)) (hok : slOk P e (slOk P e' (inR .u8)) s) (h24 : P.bytesOf e = 24) (h1 : P.bytesOf e' = 1) {n0 : In} (e0 : n0.map (·.2) = rsB (Rd.slice bF) s ([] : In).length) : ∃ m', RF tb f_law27_DigestPieces [rsV (Rd.slice bF) s ([] : In).length] (In.mem ([] ++ n0)) = some (.bool true, m') := by
  have hb := sl_bdD hok h24
  have hb2 : 2 * s.l.length * 24 ≤ 281474976710656 := hb
  refine r_law27_DigestPieces (X := In.mem ([] ++ n0)) (ls := s.l.map (·.l)) ?_ (by rw [List.length_map]; omega) ?_ (In.wf _) (Nat.zero_le _)
  · show PL (In.mem ([] ++ n0)) _ _
    obtain ⟨l, cap⟩ := s
    cases cap with
    | none =>
      have : l = [] := hok.2.2.2.2 rfl
      subst this
      exact ⟨[], ⟨rfl, .inl ⟨rfl, rfl⟩⟩, fun j l h => by simp at h⟩
    | some c =>
      cases c with
      | zero =>
        have : l = [] := List.length_eq_zero_iff.1 (Nat.le_zero.1 (hok.2.2.2.1 0 rfl))
        subst this
        exact ⟨[], ⟨rfl, .inr (.inl ⟨rfl, rfl⟩)⟩, fun j l h => by simp at h⟩
      | succ c =>
        have e1 : n0.map (·.2) = rowB (Rd.slice bF) l 0 ++ [rowC (Rd.slice bF) l 0] := e0
        obtain ⟨t, ht⟩ := blk_atD e1 (j := (rowB (Rd.slice bF) l 0).length) (c := rowC (Rd.slice bF) l 0) (by simp) [] []
        have hg := In.get (x := (t, rowC (Rd.slice bF) l 0)) ht
        rw [List.append_nil] at hg
        refine ⟨rowC (Rd.slice bF) l 0, ⟨by rw [rowC_len1, List.length_map, Nat.mul_one], .inr (.inr ⟨_, 0, 0, some (c + 1), _, _, ?_, hg, ?_, ?_⟩)⟩, fun j b hj => ?_⟩
        · show SV.sl (.hp (0 + (rowB (Rd.slice bF) l 0).length) 0) 0 l.length (some (c + 1)) 1 = _
          rw [List.length_map]; rfl
        · show 0 + (List.map (fun x : Sl Int => x.l) l).length * 1 ≤ (rowC (Rd.slice bF) l 0).length
          rw [rowC_len1, List.length_map]; omega
        · show ((rowC (Rd.slice bF) l 0).drop 0).take ((List.map (fun x : Sl Int => x.l) l).length * 1) = _
          rw [List.drop_zero, List.take_of_length_le (by rw [rowC_len1, List.length_map]; omega)]
        · rw [List.getElem?_map, Option.map_eq_some_iff] at hj
          obtain ⟨x, hx, rfl⟩ := hj
          obtain ⟨A, B, h2, h3⟩ := row_at l 0 j x hx
          refine ⟨_, h3, ?_⟩
          have hx2 := hok.2.2.1 x (List.mem_of_getElem? hx)
          have := sl_inGD (kF_even .u8) hx2 (pre := []) (n0 := n0) (post := []) (A := A) (B := B ++ [rowC (Rd.slice bF) l 0]) (by rw [e1, h2]; simp only [List.append_assoc])
          rw [List.append_nil] at this
          exact this
  · intro b hb3
    obtain ⟨x, hx, rfl⟩ := List.mem_map.1 hb3
    have := sl_bdD (hok.2.2.1 x hx) h1
    have h5 : 2 * x.l.length * 1 ≤ 281474976710656 := this
    omega
end
end Go.Sh.T

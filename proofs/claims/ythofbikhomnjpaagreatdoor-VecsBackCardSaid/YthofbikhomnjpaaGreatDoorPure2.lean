import Derived.Test.YthofbikhomnjpaaGreatDoorPure1
/-! Sums and differences of numbers in parts: what a round of a loop does. -/
namespace Go.Proofs.YthofbikhomnjpaaGreatDoor
set_option linter.unusedVariables false
set_option linter.unusedSimpArgs false

/-- The weight of a place (not opened by simp). -/
def pw (k : Nat) : Nat := 4294967296 ^ k
theorem pw_zero : pw 0 = 1 := rfl
theorem pw_succ (k : Nat) : pw (k + 1) = 4294967296 * pw k := by unfold pw; rw [Nat.pow_succ, Nat.mul_comm]
theorem pw_pos (k : Nat) : 0 < pw k := Nat.pow_pos (by omega)
theorem pw_add (a b : Nat) : pw (a + b) = pw a * pw b := Nat.pow_add ..
theorem pw_mono {a b : Nat} (h : a ≤ b) : pw a ≤ pw b := Nat.pow_le_pow_right (by omega) h
theorem val_lt' {l : List Nat} (h : Small l) : val l < pw l.length := val_lt h
theorem val_append' (l m : List Nat) : val (l ++ m) = val l + pw l.length * val m := val_append l m

theorem val_take_succ (l : List Nat) (k : Nat) : val (l.take (k + 1)) = val (l.take k) + el l k * pw k := by
  by_cases h : k < l.length
  · rw [List.take_succ_eq_append_getElem h, val_append', List.length_take, Nat.min_eq_left (by omega)]
    simp only [val, Nat.mul_zero, Nat.add_zero]
    rw [Nat.mul_comm]
    have : el l k = l[k] := by unfold el; rw [List.getElem?_eq_getElem h]; rfl
    rw [this]
  · rw [List.take_of_length_le (by omega), List.take_of_length_le (by omega), el_ge (by omega)]; simp
theorem val_take_set (l : List Nat) (k d : Nat) (h : k < l.length) : val ((l.set k d).take (k + 1)) = val (l.take k) + d * pw k := by
  rw [val_take_succ, el_set _ _ _ _ h, if_pos rfl, List.take_set_of_le (Nat.le_refl k)]
theorem val_take_all (l : List Nat) {k : Nat} (h : l.length ≤ k) : val (l.take k) = val l := by rw [List.take_of_length_le h]

/-- One round of a sum. -/
theorem add_round {v a b k x y c : Nat} (h : v + c * pw k = a + b) :
    (v + (x + y + c) % 4294967296 * pw k) + (x + y + c) / 4294967296 * pw (k + 1) = (a + x * pw k) + (b + y * pw k) := by
  rw [pw_succ]
  have h1 : (x + y + c) % 4294967296 * pw k + (x + y + c) / 4294967296 * (4294967296 * pw k) = (x + y + c) * pw k := by
    rw [← Nat.mul_assoc, ← Nat.add_mul]; congr 1; omega
  have h2 : (x + y + c) * pw k = x * pw k + y * pw k + c * pw k := by rw [Nat.add_mul, Nat.add_mul]
  omega

/-- The borrow of x less y less c. -/
def owes (x y c : Nat) : Nat := if x < y + c then 1 else 0
theorem owes_le (x y c : Nat) : owes x y c ≤ 1 := by unfold owes; split <;> omega
def diff (x y c : Nat) : Nat := (x + 4294967296 - y - c) % 4294967296
theorem diff_lt (x y c : Nat) : diff x y c < 4294967296 := by unfold diff; omega
theorem diff_owes (x y c : Nat) (hx : x < 4294967296) (hy : y < 4294967296) (hc : c ≤ 1) : diff x y c + y + c = x + 4294967296 * owes x y c := by unfold diff owes; split <;> omega

/-- One round of a difference. -/
theorem sub_round {v a b k x y c : Nat} (hx : x < 4294967296) (hy : y < 4294967296) (hc : c ≤ 1) (h : v + b = a + c * pw k) :
    (v + diff x y c * pw k) + (b + y * pw k) = (a + x * pw k) + owes x y c * pw (k + 1) := by
  rw [pw_succ]
  have h1 := diff_owes x y c hx hy hc
  have h2 : (diff x y c + y + c) * pw k = (x + 4294967296 * owes x y c) * pw k := by rw [h1]
  rw [Nat.add_mul, Nat.add_mul, Nat.add_mul] at h2
  have h3 : 4294967296 * owes x y c * pw k = owes x y c * (4294967296 * pw k) := by rw [Nat.mul_comm 4294967296, Nat.mul_assoc]
  omega

/-- One round of the inner loop of a product: out at i + k. -/
theorem mul_round {v b x y k i o h : Nat} (hh : v + h * pw (i + k) = b) :
    ∀ s, s = h + (x * y + o) → (v + (s % 4294967296) * pw (i + k)) + s / 4294967296 * pw (i + k + 1) = b + (x * y + o) * pw (i + k) := by
  intro s hs
  rw [pw_succ]
  have h1 : s % 4294967296 * pw (i + k) + s / 4294967296 * (4294967296 * pw (i + k)) = s * pw (i + k) := by
    rw [← Nat.mul_assoc, ← Nat.add_mul]; congr 1; omega
  rw [hs, Nat.add_mul] at h1
  rw [← hs] at h1
  omega
theorem or_add (x y k : Nat) (hy : y < 2 ^ k) : (x * 2 ^ k) ||| y = x * 2 ^ k + y := by
  rw [← Nat.shiftLeft_eq, ← Nat.shiftLeft_add_eq_or_of_lt hy]
theorem small_mul {x y : Nat} (hx : x < 4294967296) (hy : y < 4294967296) : x * y ≤ 18446744065119617025 := by
  have : x * y ≤ 4294967295 * 4294967295 := Nat.mul_le_mul (by omega) (by omega)
  omega
/-- What stands in a list from a place on counts no more. -/
theorem val_set (l : List Nat) (i x : Nat) (h : i < l.length) : val (l.set i x) + el l i * pw i = val l + x * pw i := by
  induction l generalizing i with
  | nil => simp at h
  | cons a l ih =>
    cases i with
    | zero => simp [val, el, pw_zero]; omega
    | succ i =>
      have := ih i (by simpa using h)
      rw [List.set_cons_succ, val, val, el_succ, pw_succ]
      have e1 : el l i * (4294967296 * pw i) = 4294967296 * (el l i * pw i) := by rw [Nat.mul_left_comm]
      have e2 : x * (4294967296 * pw i) = 4294967296 * (x * pw i) := by rw [Nat.mul_left_comm]
      omega

theorem pw_two (j : Nat) : pw j = 2 ^ (32 * j) := by
  unfold pw
  rw [Nat.pow_mul]
theorem pow_split (k : Nat) : 2 ^ k = 2 ^ (k % 32) * pw (k / 32) := by
  rw [pw_two, ← Nat.pow_add]; congr 1; omega
theorem pow_lt (k : Nat) : 2 ^ (k % 32) ≤ 2147483648 := by
  have : 2 ^ (k % 32) ≤ 2 ^ 31 := Nat.pow_le_pow_right (by omega) (by omega)
  omega
/-- A product's low part and what stands there already: they don't meet. -/
theorem or_low (x e r : Nat) (hr : r < 32) (he : e < 2 ^ r) : e ||| (x * 2 ^ r % 4294967296) = e + x * 2 ^ r % 4294967296 := by
  have h32 : 4294967296 = 2 ^ (32 - r) * 2 ^ r := by rw [← Nat.pow_add, show 32 - r + r = 32 by omega]
  rw [h32, Nat.mul_mod_mul_right, Nat.or_comm, or_add _ _ _ he, Nat.add_comm]
theorem low_lt (x e r : Nat) (hr : r < 32) (he : e < 2 ^ r) : e + x * 2 ^ r % 4294967296 < 4294967296 := by
  have h32 : 4294967296 = 2 ^ (32 - r) * 2 ^ r := by rw [← Nat.pow_add, show 32 - r + r = 32 by omega]
  rw [h32, Nat.mul_mod_mul_right]
  have h1 : x % 2 ^ (32 - r) < 2 ^ (32 - r) := Nat.mod_lt _ (Nat.pow_pos (by omega))
  have h2 := Nat.mul_le_mul_right (2 ^ r) (show x % 2 ^ (32 - r) + 1 ≤ 2 ^ (32 - r) from h1)
  rw [Nat.add_mul] at h2
  omega
theorem high_lt (x r : Nat) (hx : x < 4294967296) : x * 2 ^ r / 4294967296 < 2 ^ r := by
  rw [Nat.div_lt_iff_lt_mul (by omega), Nat.mul_comm (2 ^ r)]
  exact Nat.mul_lt_mul_of_pos_right hx (Nat.pow_pos (by omega))
/-- One round of a shift. -/
theorem shift_round {out : List Nat} {x k m : Nat} (hp : m + k / 32 + 1 < out.length) (hz : el out (m + k / 32 + 1) = 0) (hx : x < 4294967296) (he : el out (m + k / 32) < 2 ^ (k % 32)) :
    val ((out.set (m + k / 32) (el out (m + k / 32) + x * 2 ^ (k % 32) % 4294967296)).set (m + k / 32 + 1) (x * 2 ^ (k % 32) / 4294967296)) = val out + x * pw m * 2 ^ k := by
  have h1 := val_set out (m + k / 32) (el out (m + k / 32) + x * 2 ^ (k % 32) % 4294967296) (by omega)
  have h2 := val_set (out.set (m + k / 32) (el out (m + k / 32) + x * 2 ^ (k % 32) % 4294967296)) (m + k / 32 + 1) (x * 2 ^ (k % 32) / 4294967296) (by rw [List.length_set]; exact hp)
  rw [el_set _ _ _ _ (by omega), if_neg (by omega), hz, Nat.zero_mul, Nat.add_zero, pw_succ] at h2
  rw [Nat.add_mul] at h1
  have h3 : x * 2 ^ (k % 32) % 4294967296 * pw (m + k / 32) + x * 2 ^ (k % 32) / 4294967296 * (4294967296 * pw (m + k / 32)) = x * 2 ^ (k % 32) * pw (m + k / 32) := by
    rw [← Nat.mul_assoc, ← Nat.add_mul]; congr 1; omega
  have h4 : x * pw m * 2 ^ k = x * 2 ^ (k % 32) * pw (m + k / 32) := by
    rw [pow_split k, pw_add, Nat.mul_assoc, Nat.mul_assoc, Nat.mul_left_comm (pw m)]
  omega

theorem back_part (x y r : Nat) (hr : r < 32) (hx : x < 4294967296) : (y * 4294967296 + x) / 2 ^ r % 4294967296 = (y % 2 ^ r) * 2 ^ (32 - r) + x / 2 ^ r := by
  have h32 : 4294967296 = 2 ^ (32 - r) * 2 ^ r := by rw [← Nat.pow_add, show 32 - r + r = 32 by omega]
  have hp : 0 < 2 ^ r := Nat.pow_pos (by omega)
  have h1 : (y * 4294967296 + x) / 2 ^ r = y * 2 ^ (32 - r) + x / 2 ^ r := by
    rw [h32, ← Nat.mul_assoc, Nat.add_comm, Nat.add_mul_div_right _ _ hp, Nat.add_comm]
  have h2 : x / 2 ^ r < 2 ^ (32 - r) := by
    rw [Nat.div_lt_iff_lt_mul hp, ← h32]; exact hx
  have h3 : y * 2 ^ (32 - r) + x / 2 ^ r = ((y % 2 ^ r) * 2 ^ (32 - r) + x / 2 ^ r) + 4294967296 * (y / 2 ^ r) := by
    have h4 := Nat.div_add_mod y (2 ^ r)
    have h5 : 4294967296 * (y / 2 ^ r) = 2 ^ r * (y / 2 ^ r) * 2 ^ (32 - r) := by
      rw [Nat.mul_assoc, Nat.mul_comm (y / 2 ^ r), ← Nat.mul_assoc, Nat.mul_comm (2 ^ r) (2 ^ (32 - r)), ← h32]
    rw [h5]
    conv => lhs; rw [← h4]
    rw [Nat.add_mul]; omega
  have h6 : (y % 2 ^ r) * 2 ^ (32 - r) + x / 2 ^ r < 4294967296 := by
    have h7 := Nat.mul_le_mul_right (2 ^ (32 - r)) (show y % 2 ^ r + 1 ≤ 2 ^ r from Nat.mod_lt _ hp)
    rw [Nat.add_mul, Nat.mul_comm (2 ^ r), ← h32] at h7
    omega
  rw [h1, h3, Nat.add_mul_mod_self_left, Nat.mod_eq_of_lt h6]
theorem back_round {vo e0 vd x y r m : Nat} (hr : r < 32) (hx : x < 4294967296) (h : 2 ^ r * vo + e0 = vd + (x % 2 ^ r) * pw m) :
    2 ^ r * (vo + (y * 4294967296 + x) / 2 ^ r % 4294967296 * pw m) + e0 = (vd + x * pw m) + (y % 2 ^ r) * pw (m + 1) := by
  have h32 : 2 ^ r * 2 ^ (32 - r) = 4294967296 := by rw [← Nat.pow_add, show r + (32 - r) = 32 by omega]
  rw [back_part x y r hr hx, pw_succ, Nat.mul_add, ← Nat.mul_assoc (2 ^ r)]
  have h1 : 2 ^ r * ((y % 2 ^ r) * 2 ^ (32 - r) + x / 2 ^ r) = (y % 2 ^ r) * 4294967296 + 2 ^ r * (x / 2 ^ r) := by
    rw [Nat.mul_add, Nat.mul_left_comm, h32]
  rw [h1, Nat.add_mul, Nat.mul_assoc (y % 2 ^ r)]
  have h2 := Nat.div_add_mod x (2 ^ r)
  have h3 : 2 ^ r * (x / 2 ^ r) * pw m + (x % 2 ^ r) * pw m = x * pw m := by rw [← Nat.add_mul, h2]
  omega
theorem val_drop (l : List Nat) (hs : Small l) (s : Nat) : val l / pw s = val (l.drop s) := by
  have h1 := val_append' (l.take s) (l.drop s)
  rw [List.take_append_drop] at h1
  have h2 := val_lt' (hs.take s)
  by_cases h : s ≤ l.length
  · rw [List.length_take, Nat.min_eq_left h] at h1 h2
    rw [h1, Nat.add_comm, Nat.mul_add_div (pw_pos s), Nat.div_eq_of_lt h2, Nat.add_zero]
  · rw [List.drop_of_length_le (by omega)]
    have h3 := pw_mono (show l.length ≤ s by omega)
    have h4 := val_lt' hs
    rw [Nat.div_eq_of_lt (by omega)]; rfl
theorem back_end {xs out : List Nat} {k : Nat} (hs : Small xs) (h : 2 ^ (k % 32) * val out + el xs (k / 32) % 2 ^ (k % 32) = val (xs.drop (k / 32))) : val out = val xs / 2 ^ k := by
  rw [pow_split k, Nat.mul_comm, ← Nat.div_div_eq_div_mul, val_drop xs hs, ← h, Nat.mul_add_div (Nat.pow_pos (by omega)), Nat.div_eq_of_lt (Nat.mod_lt _ (Nat.pow_pos (by omega))), Nat.add_zero]

theorem val_drop_eq (l : List Nat) (p : Nat) (h : p < l.length) : val (l.drop p) = el l p + 4294967296 * val (l.drop (p + 1)) := by
  rw [List.drop_eq_getElem_cons h, val]
  have : el l p = l[p] := by unfold el; rw [List.getElem?_eq_getElem h]; rfl
  rw [this]
theorem val_drop_set (l : List Nat) (p q : Nat) (h : p < l.length) : val ((l.set p q).drop p) = q + 4294967296 * val (l.drop (p + 1)) := by
  rw [val_drop_eq _ _ (by rw [List.length_set]; exact h), el_set _ _ _ _ h, if_pos rfl, List.drop_set_of_lt (by omega)]
theorem short_round {vx vo d r x : Nat} (h : vx = d * vo + r) : x + 4294967296 * vx = d * ((r * 4294967296 + x) / d + 4294967296 * vo) + (r * 4294967296 + x) % d := by
  have h1 := Nat.div_add_mod (r * 4294967296 + x) d
  have h2 : d * (4294967296 * vo) = 4294967296 * (d * vo) := Nat.mul_left_comm ..
  rw [Nat.mul_add, h]; omega
theorem div_mod_of {n d q r : Nat} (h : n = d * q + r) (hr : r < d) : n / d = q ∧ n % d = r := by
  subst h
  refine ⟨?_, ?_⟩
  · rw [Nat.mul_add_div (by omega), Nat.div_eq_of_lt hr, Nat.add_zero]
  · rw [Nat.mul_add_mod, Nat.mod_eq_of_lt hr]

theorem val_same {us vs : List Nat} {k m : Nat} (hu : us.length ≤ m) (hv : vs.length ≤ m) (h : ∀ i, k ≤ i → i < m → el us i = el vs i) : val (us.drop k) = val (vs.drop k) := by
  by_cases hk : m ≤ k
  · rw [List.drop_of_length_le (by omega), List.drop_of_length_le (by omega)]
  · have key : ∀ d k, m - k = d → (∀ i, k ≤ i → i < m → el us i = el vs i) → val (us.drop k) = val (vs.drop k) := by
      intro d
      induction d with
      | zero => intro k h1 _; rw [List.drop_of_length_le (by omega), List.drop_of_length_le (by omega)]
      | succ d ih =>
        intro k h1 h2
        have e1 : val (us.drop k) = el us k + 4294967296 * val (us.drop (k + 1)) := by
          by_cases h : k < us.length
          · exact val_drop_eq us k h
          · rw [List.drop_of_length_le (by omega), List.drop_of_length_le (by omega), el_ge (by omega)]; rfl
        have e2 : val (vs.drop k) = el vs k + 4294967296 * val (vs.drop (k + 1)) := by
          by_cases h : k < vs.length
          · exact val_drop_eq vs k h
          · rw [List.drop_of_length_le (by omega), List.drop_of_length_le (by omega), el_ge (by omega)]; rfl
        rw [e1, e2, h2 k (Nat.le_refl _) (by omega), ih (k + 1) (by omega) (fun i hi => h2 i (by omega))]
    exact key _ k rfl h

end Go.Proofs.YthofbikhomnjpaaGreatDoor

import Derived.Test.YthofbikhomnjpaaGreatDoorL2
namespace Go.Proofs.YthofbikhomnjpaaGreatDoor
set_option linter.unusedVariables false
set_option linter.unusedSimpArgs false

/-- The sum of what is at the first so many places. -/
def sumF (f : Nat → Rat) (n : Nat) : Rat := (List.range n).foldl (fun s i => s + f i) 0
theorem sumF_zero (f : Nat → Rat) : sumF f 0 = 0 := rfl
theorem sumF_succ (f : Nat → Rat) (n : Nat) : sumF f (n + 1) = sumF f n + f n := by
  unfold sumF; rw [List.range_succ, List.foldl_append]; rfl
theorem sumF_congr {f g : Nat → Rat} {n : Nat} (h : ∀ i, i < n → f i = g i) : sumF f n = sumF g n := by
  induction n with
  | zero => rfl
  | succ n ih => rw [sumF_succ, sumF_succ, ih (fun i hi => h i (by omega)), h n (by omega)]
theorem sumF_none {f : Nat → Rat} {n : Nat} (h : ∀ i, i < n → f i = 0) : sumF f n = 0 := by
  induction n with
  | zero => rfl
  | succ n ih => rw [sumF_succ, ih (fun i hi => h i (by omega)), h n (by omega), Rat.add_zero]
theorem sumF_add (f g : Nat → Rat) (n : Nat) : sumF (fun i => f i + g i) n = sumF f n + sumF g n := by
  induction n with
  | zero => rw [sumF_zero, sumF_zero, sumF_zero, Rat.add_zero]
  | succ n ih => rw [sumF_succ, sumF_succ, sumF_succ, ih]; grind
theorem sumF_mul (f : Nat → Rat) (q : Rat) (n : Nat) : sumF (fun i => q * f i) n = q * sumF f n := by
  induction n with
  | zero => rw [sumF_zero, sumF_zero, Rat.mul_zero]
  | succ n ih => rw [sumF_succ, sumF_succ, ih, Rat.mul_add]
theorem sumF_split (f : Nat → Rat) (k n : Nat) : sumF f (k + n) = sumF f k + sumF (fun i => f (k + i)) n := by
  induction n with
  | zero => rw [sumF_zero, Nat.add_zero, Rat.add_zero]
  | succ n ih => rw [← Nat.add_assoc, sumF_succ, sumF_succ, ih, Rat.add_assoc]
theorem sumF_nonneg {f : Nat → Rat} {n : Nat} (h : ∀ i, i < n → 0 ≤ f i) : 0 ≤ sumF f n := by
  induction n with
  | zero => exact Rat.le_refl
  | succ n ih => rw [sumF_succ]; exact Rat.add_nonneg (ih fun i hi => h i (by omega)) (h n (by omega))
theorem sumF_eq_zero {f : Nat → Rat} {n : Nat} (h : ∀ i, i < n → 0 ≤ f i) (h0 : sumF f n = 0) : ∀ i, i < n → f i = 0 := by
  induction n with
  | zero => intro i hi; omega
  | succ n ih =>
    rw [sumF_succ] at h0
    have h1 := sumF_nonneg (f := f) (n := n) fun i hi => h i (by omega)
    have h2 := h n (by omega)
    have e1 : sumF f n = 0 := by grind
    have e2 : f n = 0 := by grind
    intro i hi
    by_cases hin : i = n
    · rw [hin]; exact e2
    · exact ih (fun i hi => h i (by omega)) e1 i (by omega)
theorem dotR_sum (ps qs : List Rat) : dotR ps qs = sumF (fun i => ps.getD i 0 * qs.getD i 0) ps.length := rfl
theorem dotR_comm {ps qs : List Rat} (h : ps.length = qs.length) : dotR ps qs = dotR qs ps := by
  rw [dotR_sum, dotR_sum, h]
  exact sumF_congr fun i _ => Rat.mul_comm _ _
theorem getD_zeros (n i : Nat) : (List.replicate n (0 : Rat)).getD i 0 = 0 := by
  rw [List.getD_eq_getElem?_getD, List.getElem?_replicate]
  split <;> rfl
theorem dotR_zeros (ps : List Rat) (n : Nat) : dotR ps (List.replicate n 0) = 0 := by
  rw [dotR_sum]
  exact sumF_none fun i _ => by rw [getD_zeros, Rat.mul_zero]
theorem sq_nonneg (q : Rat) : 0 ≤ q * q := by
  rcases Rat.le_total (a := 0) (b := q) with h | h
  · exact Rat.mul_nonneg h h
  · have h1 : 0 ≤ -q := by grind
    have := Rat.mul_nonneg h1 h1
    grind
theorem dotR_self_nonneg (ps : List Rat) : 0 ≤ dotR ps ps := by
  rw [dotR_sum]
  exact sumF_nonneg fun i _ => sq_nonneg _
theorem dotR_self_zero (ps : List Rat) : dotR ps ps = 0 ↔ ps = List.replicate ps.length 0 := by
  constructor
  · intro h
    rw [dotR_sum] at h
    have h1 := sumF_eq_zero (fun i _ => sq_nonneg _) h
    refine List.ext_getElem (by simp) fun i h2 h3 => ?_
    have h4 := h1 i h2
    rw [List.getD_eq_getElem?_getD, List.getElem?_eq_getElem h2] at h4
    rw [List.getElem_replicate]
    rcases Rat.mul_eq_zero.1 h4 with h5 | h5
    · exact h5
    · exact h5
  · intro h
    rw [h]
    exact dotR_zeros _ _
theorem getD_addR {ps qs : List Rat} {q : Rat} {i : Nat} (h : i < ps.length) : (addR ps qs q).getD i 0 = ps.getD i 0 + qs.getD i 0 * q := by
  unfold addR
  rw [List.getD_eq_getElem?_getD, List.getElem?_map, List.getElem?_range h]
  rfl
theorem getD_map {ps : List Rat} {q : Rat} {i : Nat} : (ps.map (· * q)).getD i 0 = ps.getD i 0 * q := by
  rw [List.getD_eq_getElem?_getD, List.getElem?_map, List.getD_eq_getElem?_getD]
  cases ps[i]? with
  | none => exact (Rat.zero_mul q).symm
  | some x => rfl
/-- Of a list and another one so many times it is the sum of what it is of both. -/
theorem dotR_addR {ps qs rs : List Rat} {q : Rat} (h : ps.length = qs.length) : dotR (addR ps qs q) rs = dotR ps rs + q * dotR qs rs := by
  rw [dotR_sum, dotR_sum, dotR_sum, addR_length, ← h, ← sumF_mul, ← sumF_add]
  exact sumF_congr fun i hi => by rw [getD_addR hi]; grind
theorem dotR_scale {qs rs : List Rat} {q : Rat} : dotR (qs.map (· * q)) rs = q * dotR qs rs := by
  rw [dotR_sum, dotR_sum, List.length_map, ← sumF_mul]
  exact sumF_congr fun i hi => by rw [getD_map]; grind
/-- What is added is taken off again. -/
theorem addR_back {ps qs : List Rat} {q : Rat} (h : ps.length = qs.length) : addR (addR ps qs q) qs (0 - q) = ps := by
  refine List.ext_getElem (by rw [addR_length, addR_length]) fun i h1 h2 => ?_
  have h3 : (addR (addR ps qs q) qs (0 - q)).getD i 0 = ps.getD i 0 := by
    rw [getD_addR (by rw [addR_length]; exact h2), getD_addR h2]
    grind
  rw [List.getD_eq_getElem?_getD, List.getElem?_eq_getElem h1, List.getD_eq_getElem?_getD, List.getElem?_eq_getElem h2] at h3
  exact h3
theorem addR_none {ps qs : List Rat} : addR ps qs 0 = ps := by
  refine List.ext_getElem (by rw [addR_length]) fun i h1 h2 => ?_
  have h3 : (addR ps qs 0).getD i 0 = ps.getD i 0 := by
    rw [getD_addR h2]
    grind
  rw [List.getD_eq_getElem?_getD, List.getElem?_eq_getElem h1, List.getD_eq_getElem?_getD, List.getElem?_eq_getElem h2] at h3
  exact h3
theorem addR_zeros {qs : List Rat} {q : Rat} : addR (List.replicate qs.length 0) qs q = qs.map (· * q) := by
  refine List.ext_getElem (by rw [addR_length]; simp) fun i h1 h2 => ?_
  have hi : i < qs.length := by simpa using h2
  have h3 : (addR (List.replicate qs.length 0) qs q).getD i 0 = (qs.map (· * q)).getD i 0 := by
    rw [getD_addR (by simpa using hi), getD_zeros, getD_map]
    grind
  rw [List.getD_eq_getElem?_getD, List.getElem?_eq_getElem h1, List.getD_eq_getElem?_getD, List.getElem?_eq_getElem h2] at h3
  exact h3
theorem fits_dotR {K : Nat} {ps qs : List Rat} (hp : FitsAll K ps) (hq : FitsAll K qs) (h : ps.length = qs.length) : Fits (1 + ps.length * (2 * K + 1)) (dotR ps qs) := by
  rw [dotR_sum]
  have key : ∀ n, n ≤ ps.length → Fits (1 + n * (2 * K + 1)) (sumF (fun i => ps.getD i 0 * qs.getD i 0) n) := by
    intro n
    induction n with
    | zero => intro _; rw [sumF_zero]; exact (fits_int (n := 0) (by decide)).mono (by omega)
    | succ n ih =>
      intro hn
      rw [sumF_succ]
      have h1 : Fits K (ps.getD n 0) := by
        rw [List.getD_eq_getElem?_getD, List.getElem?_eq_getElem (by omega)]; exact hp _ (List.getElem_mem (by omega))
      have h2 : Fits K (qs.getD n 0) := by
        rw [List.getD_eq_getElem?_getD, List.getElem?_eq_getElem (by omega)]; exact hq _ (List.getElem_mem (by omega))
      refine ((ih (by omega)).add (h1.mul h2)).mono ?_
      rw [Nat.add_mul]
      omega
  exact key _ (Nat.le_refl _)
theorem fits_addR {K L : Nat} {ps qs : List Rat} {q : Rat} (hp : FitsAll K ps) (hq : FitsAll K qs) (hl : Fits L q) (h : ps.length = qs.length) : FitsAll (2 * K + L + 1) (addR ps qs q) := by
  intro z hz
  unfold addR at hz
  obtain ⟨i, hi, rfl⟩ := List.mem_map.1 hz
  have hi' := List.mem_range.1 hi
  have h1 : Fits K (ps.getD i 0) := by
    rw [List.getD_eq_getElem?_getD, List.getElem?_eq_getElem hi']; exact hp _ (List.getElem_mem hi')
  have h2 : Fits K (qs.getD i 0) := by
    rw [List.getD_eq_getElem?_getD, List.getElem?_eq_getElem (by omega)]; exact hq _ (List.getElem_mem (by omega))
  exact (h1.add (h2.mul hl)).mono (by omega)

end Go.Proofs.YthofbikhomnjpaaGreatDoor

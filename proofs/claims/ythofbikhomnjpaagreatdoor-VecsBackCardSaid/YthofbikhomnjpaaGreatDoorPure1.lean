/-! Numbers in parts of 32 bits: plain lemmas, no program. -/
namespace Go.Proofs.YthofbikhomnjpaaGreatDoor
set_option linter.unusedVariables false
set_option linter.unusedSimpArgs false

def val : List Nat → Nat
  | [] => 0
  | x :: l => x + 4294967296 * val l

def Small (l : List Nat) : Prop := ∀ x ∈ l, x < 4294967296

def digs (n : Nat) : List Nat := if h : n = 0 then [] else n % 4294967296 :: digs (n / 4294967296)
termination_by n
decreasing_by omega

theorem digs_zero : digs 0 = [] := by rw [digs]; rfl
theorem digs_pos {n : Nat} (h : n ≠ 0) : digs n = n % 4294967296 :: digs (n / 4294967296) := by rw [digs, dif_neg h]
theorem digs_eq_nil {n : Nat} : digs n = [] ↔ n = 0 := by
  constructor
  · intro h
    by_cases h0 : n = 0
    · exact h0
    · rw [digs_pos h0] at h; cases h
  · rintro rfl; exact digs_zero

theorem val_digs (n : Nat) : val (digs n) = n := by
  induction n using Nat.strongRecOn with
  | _ n ih =>
    by_cases h : n = 0
    · subst h; rw [digs_zero]; rfl
    · rw [digs_pos h, val, ih _ (by omega)]; omega

theorem small_digs (n : Nat) : Small (digs n) := by
  induction n using Nat.strongRecOn with
  | _ n ih =>
    by_cases h : n = 0
    · subst h; rw [digs_zero]; intro x hx; cases hx
    · rw [digs_pos h]
      intro x hx
      rcases List.mem_cons.1 hx with rfl | hx
      · omega
      · exact ih _ (by omega) x hx

def okL (l : List Nat) : Bool := decide (l.getLast? ≠ some 0)

theorem okL_nil : okL [] = true := rfl
theorem okL_cons {x : Nat} {l : List Nat} : okL (x :: l) = if l = [] then decide (x ≠ 0) else okL l := by
  unfold okL
  cases l with
  | nil => simp
  | cons y l => simp [List.getLast?_cons_cons]

theorem okL_digs (n : Nat) : okL (digs n) = true := by
  induction n using Nat.strongRecOn with
  | _ n ih =>
    by_cases h : n = 0
    · subst h; rw [digs_zero]; rfl
    · rw [digs_pos h, okL_cons]
      split
      · rename_i h2
        rw [digs_eq_nil] at h2
        simp; omega
      · exact ih _ (by omega)

theorem Small.tail {x : Nat} {l : List Nat} (h : Small (x :: l)) : Small l := fun y hy => h y (List.mem_cons_of_mem _ hy)
theorem Small.head {x : Nat} {l : List Nat} (h : Small (x :: l)) : x < 4294967296 := h x (List.mem_cons_self ..)
theorem Small.cons {x : Nat} {l : List Nat} (hx : x < 4294967296) (h : Small l) : Small (x :: l) := fun y hy => by
  rcases List.mem_cons.1 hy with rfl | hy
  · exact hx
  · exact h y hy
theorem Small.nil : Small [] := fun _ h => by cases h
theorem Small.append {l m : List Nat} (h : Small l) (h' : Small m) : Small (l ++ m) := fun y hy => by
  rcases List.mem_append.1 hy with hy | hy
  · exact h y hy
  · exact h' y hy
theorem Small.of_append {l m : List Nat} (h : Small (l ++ m)) : Small l ∧ Small m := ⟨fun y hy => h y (List.mem_append_left _ hy), fun y hy => h y (List.mem_append_right _ hy)⟩
theorem Small.take {l : List Nat} (h : Small l) (n : Nat) : Small (l.take n) := fun y hy => h y (List.mem_of_mem_take hy)
theorem Small.drop {l : List Nat} (h : Small l) (n : Nat) : Small (l.drop n) := fun y hy => h y (List.mem_of_mem_drop hy)
theorem Small.replicate (n : Nat) : Small (List.replicate n 0) := fun y hy => by rw [List.eq_of_mem_replicate hy]; omega
theorem Small.set {l : List Nat} (h : Small l) (i : Nat) {x : Nat} (hx : x < 4294967296) : Small (l.set i x) := fun y hy => by
  rcases List.mem_or_eq_of_mem_set hy with hy | rfl
  · exact h y hy
  · exact hx
theorem Small.at {l : List Nat} (h : Small l) (i : Nat) : l[i]?.getD 0 < 4294967296 := by
  cases hi : l[i]? with
  | none => simp
  | some x => exact h x (List.mem_of_getElem? hi)

theorem digs_val {l : List Nat} (hs : Small l) (hk : okL l = true) : digs (val l) = l := by
  induction l with
  | nil => rw [val, digs_zero]
  | cons x l ih =>
    have hx := hs.head
    rw [okL_cons] at hk
    by_cases hl : l = []
    · subst hl
      simp only [if_true, decide_eq_true_eq] at hk
      rw [val, val, digs_pos (by omega)]
      have : digs ((x + 4294967296 * 0) / 4294967296) = [] := by rw [digs_eq_nil]; omega
      rw [this]; congr 1; omega
    · rw [if_neg hl] at hk
      have h2 := ih hs.tail hk
      have h3 : val l ≠ 0 := fun h => hl (by rw [← h2, h, digs_zero])
      rw [val, digs_pos (by omega), show (x + 4294967296 * val l) / 4294967296 = val l from by omega, h2]
      congr 1; omega

theorem val_append (l m : List Nat) : val (l ++ m) = val l + 4294967296 ^ l.length * val m := by
  induction l with
  | nil => simp [val]
  | cons x l ih =>
    rw [List.cons_append, val, val, ih, List.length_cons, Nat.pow_succ, Nat.mul_add, ← Nat.mul_assoc, Nat.mul_comm (4294967296 ^ l.length) 4294967296]
    omega
theorem val_replicate (n : Nat) : val (List.replicate n 0) = 0 := by
  induction n with
  | zero => rfl
  | succ n ih => rw [List.replicate_succ, val, ih]
theorem val_lt {l : List Nat} (h : Small l) : val l < 4294967296 ^ l.length := by
  induction l with
  | nil => simp [val]
  | cons x l ih =>
    have := ih h.tail; have := h.head
    rw [val, List.length_cons, Nat.pow_succ]
    generalize 4294967296 ^ l.length = p at *
    omega
theorem val_zeros {l : List Nat} (h : ∀ x ∈ l, x = 0) : val l = 0 := by
  induction l with
  | nil => rfl
  | cons x l ih => rw [val, ih (fun y hy => h y (List.mem_cons_of_mem _ hy)), h x (List.mem_cons_self ..)]

/-- A part of a list, 0 beyond it (not opened by simp). -/
def el (l : List Nat) (i : Nat) : Nat := l[i]?.getD 0
theorem el_lt {l : List Nat} (h : Small l) (i : Nat) : el l i < 4294967296 := h.at i
theorem el_ge {l : List Nat} {i : Nat} (h : l.length ≤ i) : el l i = 0 := by unfold el; rw [List.getElem?_eq_none h]; rfl
theorem el_take (l : List Nat) (n i : Nat) (h : i < n) : el (l.take n) i = el l i := by unfold el; rw [List.getElem?_take, if_pos h]
theorem el_zero (x : Nat) (l : List Nat) : el (x :: l) 0 = x := rfl
theorem el_succ (x : Nat) (l : List Nat) (i : Nat) : el (x :: l) (i + 1) = el l i := by simp [el]
theorem el_set (l : List Nat) (i j x : Nat) (h : i < l.length) : el (l.set i x) j = if i = j then x else el l j := by
  unfold el
  rw [List.getElem?_set]
  split
  · rename_i e; subst e; simp [h]
  · rfl
theorem el_replicate (n i : Nat) : el (List.replicate n 0) i = 0 := by
  unfold el
  rw [List.getElem?_replicate]; split <;> rfl
theorem okL_last (xs : List Nat) (h : 0 < xs.length) : okL xs = decide (el xs (xs.length - 1) ≠ 0) := by
  unfold okL el
  rw [List.getLast?_eq_getElem?]
  have : xs[xs.length-1]? = some (xs[xs.length-1]) := List.getElem?_eq_getElem (by omega)
  rw [this]
  simp

theorem okL_take {l : List Nat} {n : Nat} (hn : n ≤ l.length) (h : n = 0 ∨ el l (n-1) ≠ 0) : okL (l.take n) = true := by
  unfold okL
  rcases Nat.eq_zero_or_pos n with rfl | hp
  · simp
  · have h2 : (l.take n).getLast? = l[n-1]? := by
      rw [List.getLast?_eq_getElem?, List.length_take, Nat.min_eq_left hn, List.getElem?_take, if_pos (by omega)]
    rw [h2]
    rcases h with h | h
    · omega
    · simp only [decide_eq_true_eq]
      intro he; unfold el at h; rw [he] at h; simp at h

/-- What cut leaves. -/
theorem take_digs {l : List Nat} {n : Nat} (hs : Small l) (hn : n ≤ l.length) (hz : ∀ i, n ≤ i → el l i = 0) (h : n = 0 ∨ el l (n-1) ≠ 0) : digs (val l) = l.take n := by
  have h1 : val l = val (l.take n) := by
    conv => lhs; rw [← List.take_append_drop n l]
    rw [val_append, val_zeros (l := l.drop n), Nat.mul_zero, Nat.add_zero]
    intro x hx
    obtain ⟨i, hi⟩ := List.mem_iff_getElem?.1 hx
    rw [List.getElem?_drop] at hi
    have := hz (n + i) (by omega)
    unfold el at this; rw [hi] at this; simpa using this
  rw [h1, digs_val (hs.take n) (okL_take hn h)]

theorem digs_length_le {l : List Nat} (hs : Small l) : (digs (val l)).length ≤ l.length := by
  induction l with
  | nil => rw [val, digs_zero]; exact Nat.le_refl _
  | cons x l ih =>
    have := ih hs.tail
    have hx := hs.head
    rw [val]
    by_cases h : x + 4294967296 * val l = 0
    · rw [h, digs_zero]; simp
    · rw [digs_pos h, show (x + 4294967296 * val l) / 4294967296 = val l from by omega]
      simp; exact this
theorem digs_length_mono {a b : Nat} (h : a ≤ b) : (digs a).length ≤ (digs b).length := by
  induction b using Nat.strongRecOn generalizing a with
  | _ b ih =>
    by_cases h0 : a = 0
    · subst h0; rw [digs_zero]; simp
    · rw [digs_pos h0, digs_pos (by omega : b ≠ 0)]
      have := ih (b / 4294967296) (by omega) (a := a / 4294967296) (by omega)
      simp; exact this

/-- A number of any list: 0 if it may not be. -/
def fval (l : List Nat) : Nat := if okL l = true then val l else 0
theorem fval_ok {l : List Nat} (h : okL l = true) : fval l = val l := if_pos h
theorem fval_digs (n : Nat) : fval (digs n) = n := by rw [fval_ok (okL_digs n), val_digs]
/-- What fine leaves. -/
def fineL (l : List Nat) : List Nat := if okL l = true then l else []
theorem fineL_eq {l : List Nat} (h : Small l) : fineL l = digs (fval l) := by
  unfold fineL fval
  split
  · rename_i hk; rw [digs_val h hk]
  · rw [digs_zero]
theorem fineL_small {l : List Nat} (h : Small l) : Small (fineL l) := by unfold fineL; split; exact h; exact Small.nil
theorem fineL_length (l : List Nat) : (fineL l).length ≤ l.length := by unfold fineL; split <;> simp
theorem val_fineL (l : List Nat) : val (fineL l) = fval l := by unfold fineL fval; split <;> rfl

end Go.Proofs.YthofbikhomnjpaaGreatDoor

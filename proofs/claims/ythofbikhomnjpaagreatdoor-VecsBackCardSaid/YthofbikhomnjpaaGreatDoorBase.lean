import Derived.Test.YthofbikhomnjpaaGreatDoorProg
import Derived.Test.YthofbikhomnjpaaGreatDoorPure2
import Derived.WalkKit
import Derived.Lib.Hide
import Derived.Deep.QuietTactic
import Derived.BigQuiet
import Derived.KernelRfl
import Derived.IntWalk
/-! Words for the walks: what a slice of parts reads as; blocks of one's own. -/
namespace Go.Proofs.YthofbikhomnjpaaGreatDoor
open Go.RowKit
set_option linter.unusedVariables false
set_option linter.unusedSimpArgs false

/-- A slice of 32-bit parts (address A) reads as a list. -/
def Parts (w : World) (A : Option Addr) (xs : List Nat) : Prop :=
  Small xs ∧ xs.length ≤ 35184372088064 ∧ (0 < xs.length → ∃ b o, A = some ⟨b, o, none⟩ ∧ ∀ i, i < xs.length → w.cell? ⟨b, o + i, none⟩ = some (.int .u32 ((el xs i : Nat) : Int)))

theorem Parts.below {w w' : World} {A : Option Addr} {xs : List Nat} (h : Parts w A xs) (hb : Below w.heap.size w w') : Parts w' A xs := by
  refine ⟨h.1, h.2.1, fun hp => ?_⟩
  obtain ⟨b, o, rfl, hc⟩ := h.2.2 hp
  refine ⟨b, o, rfl, fun i hi => ?_⟩
  have := hc i hi
  exact (hb.cell (p := ⟨b, o + i, none⟩) (World.block_lt_of_cell? w _ this)).trans this

theorem Parts.take {w : World} {A : Option Addr} {xs : List Nat} (h : Parts w A xs) (n : Nat) : Parts w A (xs.take n) := by
  refine ⟨h.1.take n, by rw [List.length_take]; have := h.2.1; omega, fun hp => ?_⟩
  rw [List.length_take] at hp
  obtain ⟨b, o, rfl, hc⟩ := h.2.2 (by omega)
  refine ⟨b, o, rfl, fun i hi => ?_⟩
  rw [List.length_take] at hi
  rw [hc i (by omega), el_take _ _ _ (by omega)]

theorem Parts.nil (w : World) (A : Option Addr) : Parts w A [] := ⟨Small.nil, by simp, fun h => absurd h (by simp)⟩

@[simp] theorem sliced_from_zero (a : Option Addr) (h m s : Nat) : sliced a 0 h m s = .slice a h m := by
  unfold sliced
  cases a with
  | none => simp
  | some a => simp [Addr.add]

/-! Blocks of one's own that hold parts. -/
def u32s (xs : List Nat) : Array Value := (xs.map fun x => Value.int .u32 ((x : Nat) : Int)).toArray
def Blk (w : World) (g : Nat) (xs : List Nat) : Prop := w.heap[g]? = some (.cells (u32s xs) 62 (0, 0))
theorem u32s_get (xs : List Nat) (i : Nat) : (u32s xs)[i]? = (xs[i]?).map fun x => Value.int .u32 ((x : Nat) : Int) := by simp [u32s]
theorem u32s_set (xs : List Nat) (i x : Nat) : (u32s xs).setIfInBounds i (.int .u32 ((x : Nat) : Int)) = u32s (xs.set i x) := by
  unfold u32s
  simp [List.map_set]
theorem Blk.lt {w : World} {g : Nat} {xs : List Nat} (h : Blk w g xs) : g < w.heap.size := (Array.getElem?_eq_some_iff.1 h).1
theorem Blk.cell {w : World} {g : Nat} {xs : List Nat} (h : Blk w g xs) (i : Nat) (hi : i < xs.length) : w.cell? ⟨g, i, none⟩ = some (.int .u32 ((el xs i : Nat) : Int)) := by
  rw [cell_of_row w g i _ _ _ h, u32s_get, List.getElem?_eq_getElem hi, el, List.getElem?_eq_getElem hi]; rfl
theorem Blk.free {w : World} {g : Nat} {xs : List Nat} (h : Blk w g xs) (i : Nat) : w.frozen? ⟨g, i, none⟩ = false := by
  have h' : w.heap[g]? = some (.cells (u32s xs) 62 (0, 0)) := h
  simp [World.frozen?, h']
theorem Blk.set {w : World} {g : Nat} {xs : List Nat} (h : Blk w g xs) (i x : Nat) : Blk (w.setCell ⟨g, i, none⟩ (.int .u32 ((x : Nat) : Int))) g (xs.set i x) := by
  have h' : w.heap[g]? = some (.cells (u32s xs) 62 (0, 0)) := h
  unfold Blk
  rw [← u32s_set]
  simp [World.setCell, Array.getElem?_modify, h']
theorem Blk.setI {w : World} {g : Nat} {xs : List Nat} (h : Blk w g xs) (i x : Nat) {v : Int} (hv : v = (x : Int)) : Blk (w.setCell ⟨g, i, none⟩ (.int .u32 v)) g (xs.set i x) := by subst hv; exact h.set i x
theorem Blk.alloc {w : World} {g : Nat} {xs : List Nat} (h : Blk w g xs) (o : Obj) : Blk (w.alloc o) g xs := (Below.heap_alloc w o g h.lt).trans h
theorem Blk.below {w w' : World} {g : Nat} {xs : List Nat} (h : Blk w g xs) (hb : Below w.heap.size w w') : Blk w' g xs := (hb.block g h.lt).trans h
theorem Blk.new (w : World) (xs : List Nat) : Blk (w.alloc (.cells (u32s xs) 62)) w.heap.size xs := heap_alloc_new w _
theorem Blk.far {w : World} {g : Nat} {xs : List Nat} (h : Blk w g xs) {p : Addr} (hp : g ≠ p.block) (u : Value) : Blk (w.setCell p u) g xs := (Below.heap_setCell w p u g hp).trans h
theorem Blk.parts {w : World} {g : Nat} {xs : List Nat} (h : Blk w g xs) (hs : Small xs) (hl : xs.length ≤ 35184372088064) : Parts w (some ⟨g, 0, none⟩) xs :=
  ⟨hs, hl, fun _ => ⟨g, 0, rfl, fun i hi => by rw [Nat.zero_add]; exact h.cell i hi⟩⟩

/-- A slice of one's own that holds a number's digits: where it lies, and that nobody else has its memory. -/
def Own (w : World) (v : Value) (n : Nat) (bs : List Nat) : Prop :=
  (∃ g c cur, v = .slice (some ⟨g, 0, none⟩) (digs n).length c ∧ bs = [g] ∧ w.heap[g]? = some (.cells cur 62 (0, 0)) ∧ (digs n).length ≤ 35184372088064 ∧ (digs n).length ≤ c ∧ c ≤ cur.size ∧ c ≤ maxLen ∧ ∀ i, i < (digs n).length → cur[i]? = some (.int .u32 ((el (digs n) i : Nat) : Int))) ∨
  (v = .slice none 0 0 ∧ n = 0 ∧ bs = [])

/-- The blocks of what was made since: of one's own, and no two the same. -/
def Fresh (B : Nat) (w : World) (bs : List Nat) : Prop := bs.Nodup ∧ ∀ b, b ∈ bs → B ≤ b ∧ b < w.heap.size

theorem Own.reads {w : World} {v : Value} {n : Nat} {bs : List Nat} (h : Own w v n bs) : ∃ A c, v = .slice A (digs n).length c ∧ (digs n).length ≤ c ∧ Parts w A (digs n) := by
  rcases h with ⟨g, c, cur, rfl, _, hh, hl, hc, _, _, hi⟩ | ⟨rfl, rfl, _⟩
  · refine ⟨_, c, rfl, hc, small_digs n, hl, fun _ => ⟨g, 0, rfl, fun i hlt => ?_⟩⟩
    rw [Nat.zero_add, cell_of_row w g i _ _ _ hh, hi i hlt]
  · exact ⟨none, 0, by rw [digs_zero]; rfl, by rw [digs_zero]; exact Nat.le_refl _, by rw [digs_zero]; exact Parts.nil _ _⟩

theorem Own.move {w w' : World} {v : Value} {n : Nat} {bs : List Nat} (h : Own w v n bs) (hm : ∀ b, b ∈ bs → w'.heap[b]? = w.heap[b]?) : Own w' v n bs := by
  rcases h with ⟨g, c, cur, h1, rfl, hh, r⟩ | h
  · exact .inl ⟨g, c, cur, h1, rfl, (hm g (by simp)).trans hh, r⟩
  · exact .inr h
theorem Own.below {w w' : World} {v : Value} {n : Nat} {bs : List Nat} (h : Own w v n bs) (hb : Below w.heap.size w w') : Own w' v n bs := by
  refine h.move fun b hbs => hb.block b ?_
  rcases h with ⟨g, c, cur, h1, rfl, hh, r⟩ | ⟨_, _, rfl⟩
  · rw [List.mem_singleton] at hbs; subst hbs; exact (Array.getElem?_eq_some_iff.1 hh).1
  · cases hbs

/-- What cut leaves of a slice: so many parts, of the same memory, without room behind. -/
def cutN (xs : List Nat) : Nat := (digs (val xs)).length
theorem cutN_le {xs : List Nat} (hs : Small xs) : cutN xs ≤ xs.length := digs_length_le hs

theorem digs_take {xs : List Nat} (hs : Small xs) : ∀ i, i < cutN xs → (digs (val xs))[i]? = xs[i]? := by
  induction xs with
  | nil => intro i hi; rw [cutN, val, digs_zero] at hi; simp at hi
  | cons x l ih =>
    intro i hi
    have hx := hs.head
    have hl := ih hs.tail
    unfold cutN at hi hl
    rw [val] at hi ⊢
    by_cases h : x + 4294967296 * val l = 0
    · rw [h, digs_zero] at hi; simp at hi
    · rw [digs_pos h, show (x + 4294967296 * val l) / 4294967296 = val l from by omega] at hi ⊢
      cases i with
      | zero => simp; omega
      | succ i => simp at hi ⊢; exact hl i hi

theorem Own.of_blk {w : World} {g : Nat} {xs : List Nat} (h : Blk w g xs) (hs : Small xs) (hl : xs.length ≤ 35184372088064) : Own w (.slice (some ⟨g, 0, none⟩) (cutN xs) (cutN xs)) (val xs) [g] := by
  have h2 := cutN_le hs
  refine .inl ⟨g, _, _, rfl, rfl, h, by unfold cutN at h2; omega, Nat.le_refl _, by unfold cutN at h2 ⊢; simp [u32s]; omega, by unfold maxLen; omega, fun i hi => ?_⟩
  rw [u32s_get, ← digs_take hs i hi, el, List.getElem?_eq_getElem hi]; rfl

theorem ownsRow_own {w : World} {base : Nat} {v : Value} {n : Nat} (h : w.ownsRow base 62 1 v (digs n).length (u32s (digs n)).toList) (hl : (digs n).length ≤ 35184372088064) : ∃ bs, Own w v n bs ∧ ∀ b, b ∈ bs → base ≤ b ∧ b < w.heap.size ∧ bs.Nodup := by
  rcases h.2 with ⟨rfl, h0⟩ | ⟨g, cap, cur, rfl, hg, hh, hc, hm, hs, ht⟩
  · refine ⟨[], .inr ⟨rfl, ?_, rfl⟩, fun b hb => by cases hb⟩
    rw [← digs_eq_nil]; exact List.eq_nil_of_length_eq_zero h0
  · refine ⟨[g], .inl ⟨g, cap, cur, rfl, rfl, hh, hl, hc, by omega, hm, fun i hi => ?_⟩, fun b hb => ?_⟩
    · have h1 : (cur.toList.take ((digs n).length * 1))[i]? = (u32s (digs n)).toList[i]? := by rw [ht]
      rw [List.getElem?_take, if_pos (by omega), Array.getElem?_toList, Array.getElem?_toList, u32s_get, List.getElem?_eq_getElem hi] at h1
      rw [h1, el, List.getElem?_eq_getElem hi]; rfl
    · rw [List.mem_singleton] at hb; subst hb
      exact ⟨hg, (Array.getElem?_eq_some_iff.1 hh).1, by simp⟩

theorem make_parts (n : Int) (h0 : 0 ≤ n) (h1 : n ≤ 70368744177664) (W : World) :
    (Instr.makeSlice 32 (.int .i64 n) (.int .i64 n)).run Tryz.prog W = .ok (.slice (some ⟨W.heap.size, 0, none⟩) n.toNat n.toNat) (W.alloc (.cells (u32s (List.replicate n.toNat 0)) 62)) := by
  have hi : (Tryz.prog.info? 62).map (fun i => (i.zero, i.size, i.bytes)) = some (some (.int .u32 0), 1, 4) := by kernel_rfl
  obtain ⟨i0, hi0, hz⟩ := Option.map_eq_some_iff.1 hi
  simp only [Prod.mk.injEq] at hz
  obtain ⟨hz0, hz1, hz2⟩ := hz
  have hmade : madeCells (Value.int .u32 0).cells (n.toNat * i0.size) = u32s (List.replicate n.toNat 0) := by
    rw [hz1]
    apply Array.ext_getElem?
    intro i
    rw [u32s_get]
    simp only [madeCells, Value.cells, Nat.mul_one, Array.getElem?_map, List.getElem?_replicate]
    by_cases h : i < n.toNat
    · rw [if_pos h, Array.getElem?_range]; simp [h, Nat.mod_one]
    · rw [if_neg h, Array.getElem?_range]; simp [h]
  have hr := run_make (P := Tryz.prog) W 32 62 i0 _ Tryz.underlying32 hi0 hz0 .i64 .i64 n n h0 (Int.le_refl _) (by rw [hz2]; omega) (by omega)
  rw [hr, hmade]

theorem max2_is (k k' : IntKind) (x y : Int) : Builtin.max2 (.int k x) (.int k' y) = pure (.int k (max x y)) := by
  simp only [Builtin.max2, gt_iff_lt]
  by_cases h : x < y
  · rw [if_pos h, Int.max_eq_right (by omega)]
  · rw [if_neg h, Int.max_eq_left (by omega)]
theorem min2_is (k k' : IntKind) (x y : Int) : Builtin.min2 (.int k x) (.int k' y) = pure (.int k (min x y)) := by
  simp only [Builtin.min2]
  by_cases h : y < x
  · rw [if_pos h, Int.min_eq_right (by omega)]
  · rw [if_neg h, Int.min_eq_left (by omega)]
theorem max_is (ats : Array TypeId) (ty : TypeId) (a b : Value) : Builtin.max_ ats ty #[a, b] = (Builtin.max2 a b >>= fun s => pure s) := by simp only [Builtin.max_, List.foldlM_cons, List.foldlM_nil]
theorem min_is (ats : Array TypeId) (ty : TypeId) (a b : Value) : Builtin.min_ ats ty #[a, b] = (Builtin.min2 a b >>= fun s => pure s) := by simp only [Builtin.min_, List.foldlM_cons, List.foldlM_nil]

theorem below_drewN {B : Nat} {a w : World} (h : Below B a w) (n : Nat) : Below B a (w.drewN n) := ⟨h.os, h.tape, h.output, h.size, h.block⟩
theorem tup2 {a b a' b' : Value} (h : a = a') (h' : b = b') : Value.tuple #[a, b] = Value.tuple #[a', b'] := by rw [h, h']
theorem tup3 {a b c a' b' c' : Value} (h : a = a') (h' : b = b') (h'' : c = c') : Value.tuple #[a, b, c] = Value.tuple #[a', b', c'] := by rw [h, h', h'']
theorem fresh_one {B : Nat} {w : World} {g : Nat} (h : B ≤ g) (h' : g < w.heap.size) : Fresh B w [g] := ⟨by simp, fun b hb => by rw [List.mem_singleton] at hb; subst hb; exact ⟨h, h'⟩⟩
theorem fresh_nil (B : Nat) (w : World) : Fresh B w [] := ⟨by simp, fun b hb => by cases hb⟩
theorem own_none (w : World) : Own w (.slice none 0 0) 0 [] := .inr ⟨rfl, rfl, rfl⟩

theorem ret_eq {v v' : Value} (h : v = v') : Ending.returned v = .returned v' := by rw [h]
theorem int_eq {k : IntKind} {a b : Int} (h : a = b) : Value.int k a = .int k b := by rw [h]

end Go.Proofs.YthofbikhomnjpaaGreatDoor

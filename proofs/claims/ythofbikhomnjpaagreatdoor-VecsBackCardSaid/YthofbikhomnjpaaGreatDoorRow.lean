import Derived.Test.YthofbikhomnjpaaGreatDoorN7
/-! A block of one's own whose first cells hold parts. -/
namespace Go.Proofs.YthofbikhomnjpaaGreatDoor
open Go.RowKit
set_option linter.unusedVariables false
set_option linter.unusedSimpArgs false

def Row (w : World) (g : Nat) (xs : List Nat) : Prop := ∃ cur, w.heap[g]? = some (.cells cur 62 (0, 0)) ∧ xs.length ≤ cur.size ∧ ∀ i, i < xs.length → cur[i]? = some (.int .u32 ((el xs i : Nat) : Int))
theorem Blk.row {w : World} {g : Nat} {xs : List Nat} (h : Blk w g xs) : Row w g xs := ⟨_, h, by simp [u32s], fun i hi => by rw [u32s_get, List.getElem?_eq_getElem hi, el, List.getElem?_eq_getElem hi]; rfl⟩
theorem Row.lt {w : World} {g : Nat} {xs : List Nat} (h : Row w g xs) : g < w.heap.size := by
  obtain ⟨cur, h, _⟩ := h
  exact (Array.getElem?_eq_some_iff.1 h).1
theorem Row.cell {w : World} {g : Nat} {xs : List Nat} (h : Row w g xs) (i : Nat) (hi : i < xs.length) : w.cell? ⟨g, i, none⟩ = some (.int .u32 ((el xs i : Nat) : Int)) := by
  obtain ⟨cur, h, _, hc⟩ := h
  rw [cell_of_row w g i _ _ _ h, hc i hi]
theorem Row.free {w : World} {g : Nat} {xs : List Nat} (h : Row w g xs) (i : Nat) : w.frozen? ⟨g, i, none⟩ = false := by
  obtain ⟨cur, h, _⟩ := h
  simp [World.frozen?, h]
theorem Row.setI {w : World} {g : Nat} {xs : List Nat} (h : Row w g xs) (i x : Nat) (hi : i < xs.length) {v : Int} (hv : v = (x : Int)) : Row (w.setCell ⟨g, i, none⟩ (.int .u32 v)) g (xs.set i x) := by
  subst hv
  obtain ⟨cur, h, hl, hc⟩ := h
  refine ⟨cur.setIfInBounds i (.int .u32 (x : Int)), by simp [World.setCell, Array.getElem?_modify, h], by simpa using hl, fun j hj => ?_⟩
  rw [List.length_set] at hj
  rw [Array.getElem?_setIfInBounds, el_set _ _ _ _ hi]
  by_cases hij : i = j
  · subst hij; rw [if_pos rfl, if_pos (by omega), if_pos rfl]
  · rw [if_neg hij, if_neg hij, hc j hj]
theorem Row.heap {w w' : World} {g : Nat} {xs : List Nat} (h : Row w g xs) (he : w'.heap[g]? = w.heap[g]?) : Row w' g xs := by
  obtain ⟨cur, h, r⟩ := h
  exact ⟨cur, he.trans h, r⟩
theorem Row.far {w : World} {g : Nat} {xs : List Nat} (h : Row w g xs) {p : Addr} (hp : g ≠ p.block) (u : Value) : Row (w.setCell p u) g xs := h.heap (Below.heap_setCell w p u g hp)
theorem Row.alloc {w : World} {g : Nat} {xs : List Nat} (h : Row w g xs) (o : Obj) : Row (w.alloc o) g xs := h.heap (Below.heap_alloc w o g h.lt)
theorem Row.below {w w' : World} {g : Nat} {xs : List Nat} (h : Row w g xs) (hb : Below w.heap.size w w') : Row w' g xs := h.heap (hb.block g h.lt)
theorem Row.parts {w : World} {g : Nat} {xs : List Nat} (h : Row w g xs) (hs : Small xs) (hl : xs.length ≤ 35184372088064) : Parts w (some ⟨g, 0, none⟩) xs :=
  ⟨hs, hl, fun _ => ⟨g, 0, rfl, fun i hi => by rw [Nat.zero_add]; exact h.cell i hi⟩⟩
theorem Own.of_row {w : World} {g : Nat} {xs : List Nat} (h : Row w g xs) (hs : Small xs) (hl : xs.length ≤ 35184372088064) : Own w (.slice (some ⟨g, 0, none⟩) (cutN xs) (cutN xs)) (val xs) [g] := by
  have h2 := cutN_le hs
  obtain ⟨cur, h, hle, hc⟩ := h
  have h3 : (digs (val xs)).length ≤ xs.length := h2
  refine .inl ⟨g, _, _, rfl, rfl, h, by omega, Nat.le_refl _, by omega, by unfold maxLen; omega, fun i hi => ?_⟩
  have hi' : i < cutN xs := hi
  rw [hc i (by omega), el, el, digs_take hs i hi]
theorem Row.of_owns {w : World} {base : Nat} {v : Value} {xs : List Nat} (h : w.ownsRow base 62 1 v xs.length (u32s xs).toList) (hp : 0 < xs.length) : ∃ g cap, v = .slice (some ⟨g, 0, none⟩) xs.length cap ∧ Row w g xs ∧ base ≤ g ∧ xs.length ≤ cap ∧ cap ≤ maxLen := by
  rcases h.2 with ⟨rfl, h0⟩ | ⟨g, cap, cur, rfl, hg, hh, hc, hm, hs, ht⟩
  · omega
  · refine ⟨g, cap, rfl, ⟨cur, hh, by omega, fun i hi => ?_⟩, hg, hc, hm⟩
    have h1 : (cur.toList.take (xs.length * 1))[i]? = (u32s xs).toList[i]? := by rw [ht]
    rw [List.getElem?_take, if_pos (by omega), Array.getElem?_toList, Array.getElem?_toList, u32s_get, List.getElem?_eq_getElem hi] at h1
    rw [h1, el, List.getElem?_eq_getElem hi]; rfl

theorem slice_mid (g len cap l h : Nat) (h1 : l ≤ h) (h2 : h ≤ cap) (h3 : l < cap) (li hi : Int) (hl : li = l) (hh : hi = h) (W : World) :
    (Instr.slice 32 (.slice (some ⟨g, 0, none⟩) len cap) (some (.int .i64 li)) (some (.int .i64 hi)) none).run Tryz.prog W = .ok (.slice (some ⟨g, l, none⟩) (h - l) (cap - l)) W := by
  subst hl hh
  obtain ⟨i0, hi0, _, hz1, _⟩ := info_parts info_u32
  have hel : Tryz.prog.elem 32 = 62 := by simp [Program.elem, Tryz.underlying32]
  rw [run_slice_lh W 32 _ len cap (by rw [hel]; exact Tryz.underlying32) .i64 .i64 _ _ (by omega) (by omega) (by omega), hel]
  have hsz : (sizeOf 62).run Tryz.prog W = .ok 1 W := by simp [sizeOf, typeInfo, hi0, hz1]
  have hadd : (⟨g, 0, none⟩ : Addr).add l = ⟨g, l, none⟩ := by
    unfold Addr.add
    by_cases h0 : l = 0
    · subst h0; rfl
    · simp [h0]
  rw [hsz]
  simp only [Result.andThen, sliced, Int.toNat_natCast, Nat.mul_one]
  rw [if_neg (show ¬ cap = l by omega)]
  simp only [Option.map_some, hadd]

end Go.Proofs.YthofbikhomnjpaaGreatDoor

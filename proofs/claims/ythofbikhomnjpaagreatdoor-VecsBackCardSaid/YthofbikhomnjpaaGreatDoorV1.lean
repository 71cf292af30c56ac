import Derived.Test.YthofbikhomnjpaaGreatDoorR5
import Derived.Shelf.Abstract
namespace Go.Proofs.YthofbikhomnjpaaGreatDoor
open Go.RowKit
set_option linter.unusedVariables false
set_option linter.unusedSimpArgs false

/-- A block of fractions, by its type. -/
def RTyped (w : World) (b : Nat) (t : TypeId) : Prop := ∃ cur, w.heap[b]? = some (.cells cur t (0, 0))
theorem RTyped.lt {w : World} {b : Nat} {t : TypeId} (h : RTyped w b t) : b < w.heap.size := by obtain ⟨cur, h⟩ := h; exact (Array.getElem?_eq_some_iff.1 h).1
theorem RTyped.below {w w' : World} {b : Nat} {t : TypeId} (h : RTyped w b t) (hb : Below w.heap.size w w') : RTyped w' b t := by
  have hl := h.lt
  obtain ⟨cur, h⟩ := h
  exact ⟨cur, (hb.block b hl).trans h⟩
/-- The three cells of a fraction. -/
def Three (w : World) (b o : Nat) (v : Value) : Prop := ∃ x y z, v = .agg #[x, y, z] ∧ w.cell? ⟨b, o, none⟩ = some x ∧ w.cell? ⟨b, o + 1, none⟩ = some y ∧ w.cell? ⟨b, o + 2, none⟩ = some z
theorem Three.below {w w' : World} {b o : Nat} {v : Value} (h : Three w b o v) (hb : Below w.heap.size w w') : Three w' b o v := by
  obtain ⟨x, y, z, h1, h2, h3, h4⟩ := h
  have hl := World.block_lt_of_cell? w _ h2
  exact ⟨x, y, z, h1, (hb.cell (p := ⟨b, o, none⟩) hl).trans h2, (hb.cell (p := ⟨b, o + 1, none⟩) hl).trans h3, (hb.cell (p := ⟨b, o + 2, none⟩) hl).trans h4⟩
theorem Three.lt {w : World} {b o : Nat} {v : Value} (h : Three w b o v) : b < w.heap.size := by
  obtain ⟨x, y, z, h1, h2, h3, h4⟩ := h
  exact World.block_lt_of_cell? w _ h2
theorem Three.far {w : World} {b o : Nat} {v : Value} (h : Three w b o v) {p : Addr} (hne : b ≠ p.block) (u : Value) : Three (w.setCell p u) b o v := by
  obtain ⟨x, y, z, h1, h2, h3, h4⟩ := h
  exact ⟨x, y, z, h1, cell_far h2 hne, cell_far h3 hne, cell_far h4 hne⟩
def raw (rs : List Raw) (i : Nat) : Raw := rs.getD i ⟨false, [], []⟩
/-- A list of fractions that lies somewhere. -/
def RatsAt (B : Nat) (w : World) (A : Option Addr) (rs : List Raw) : Prop := rs.length ≤ 2513169434900 ∧ (0 < rs.length → ∃ b o, A = some ⟨b, o, none⟩ ∧ (b < B ∨ RTyped w b 36) ∧ ∀ i, i < rs.length → ∃ v, Three w b (o + i * 3) v ∧ RawAt B w v (raw rs i))
theorem RatsAt.below {B : Nat} {w w' : World} {A : Option Addr} {rs : List Raw} (h : RatsAt B w A rs) (hb : Below w.heap.size w w') : RatsAt B w' A rs := ⟨h.1, fun hp => by
  obtain ⟨b, o, h1, h2, h3⟩ := h.2 hp
  refine ⟨b, o, h1, ?_, fun i hi => ?_⟩
  · rcases h2 with h2 | h2
    · exact .inl h2
    · exact .inr (h2.below hb)
  · obtain ⟨v, k1, k2⟩ := h3 i hi
    exact ⟨v, k1.below hb, k2.below hb⟩⟩
theorem RatsAt.nil (B : Nat) (w : World) (A : Option Addr) : RatsAt B w A [] := ⟨by simp, fun h => absurd h (by simp)⟩
theorem RatsAt.get {B : Nat} {w : World} {A : Option Addr} {rs : List Raw} (h : RatsAt B w A rs) {i : Nat} (hi : i < rs.length) : ∃ b o x y z, A = some ⟨b, o, none⟩ ∧ w.cell? ⟨b, o + i * 3, none⟩ = some x ∧ w.cell? ⟨b, o + i * 3 + 1, none⟩ = some y ∧ w.cell? ⟨b, o + i * 3 + 2, none⟩ = some z ∧ RawAt B w (.agg #[x, y, z]) (raw rs i) := by
  obtain ⟨b, o, h1, h2, h3⟩ := h.2 (by omega)
  obtain ⟨v, ⟨x, y, z, rfl, k2, k3, k4⟩, k5⟩ := h3 i hi
  exact ⟨b, o, x, y, z, h1, k2, k3, k4, k5⟩
theorem RatsAt.small {B : Nat} {w : World} {A : Option Addr} {rs : List Raw} (h : RatsAt B w A rs) {i : Nat} (hi : i < rs.length) : (raw rs i).small := by
  obtain ⟨b, o, x, y, z, h1, k2, k3, k4, k5⟩ := h.get hi
  exact k5.small

/-- The first place at which something is so, or -1. -/
def FirstAt (p : Nat → Bool) (n : Nat) (z : Int) : Prop := (z = -1 ∧ ∀ i, i < n → p i = false) ∨ ∃ j, j < n ∧ z = (j : Int) ∧ p j = true ∧ ∀ i, i < j → p i = false

set_option maxRecDepth 100000 in
set_option maxHeartbeats 4000000 in
theorem index_rat_calls (w : World) (A : Option Addr) (c : Nat) (rs : List Raw) (k : Nat) (caps : Array Value) (p : Nat → Bool) {B : Nat} (h : RatsAt B w A rs) (hc : rs.length ≤ c) (hen : Enters Tryz.prog k)
    (ht : ∀ (w' : World) (v : Value) (i : Nat), Below w.heap.size w w' → i < rs.length → RawAt B w' v (raw rs i) → Calls Tryz.prog k (#[v] ++ caps) w' fun e w'' => e = .returned (.bool (p i)) ∧ Below w'.heap.size w' w'') :
    Calls Tryz.prog 87 #[.slice A rs.length c, .func (.func k) #[] caps] w fun e w' => ∃ z, e = .returned (.int .i64 z) ∧ FirstAt p rs.length z ∧ Below w.heap.size w w' := by
  have hl := h.1
  have H := Lib.hid h
  have HT := Lib.hid ht
  clear h ht
  go_enter Tryz.func87, Tryz.ntmps87
  go_wp2_with fail
  go_loopw [8] (fun n wr => ∃ j : Nat, j ≤ rs.length ∧ n = .int .i64 j ∧ Below w.heap.size w wr ∧ Hid (∀ i, i < j → p i = false)) (fun n _ => rs.length - (intOf n).toNat)
  case atStart => exact ⟨0, by omega, rfl, by ((repeat (first | assumption | exact Below.refl _ _ | refine Below.drew ?_ | refine below_drewN ?_ _ | refine Below.alloc' ?_ _ | refine Below.setCell ?_ (by first | omega | (dsimp only; omega) | (simp; done) | (simp; omega)) _ | refine Below.alloc ?_ (by first | assumption | exact Nat.le_refl _ | omega | (simp; done) | (simp; omega)) _))), fun i hi => absurd hi (by omega)⟩
  case round =>
    obtain ⟨j, hj, rfl, hb, HN⟩ := hrel
    by_cases hlt : j < rs.length
    · obtain ⟨b, o, x, y, z, rfl, k1, k2, k3, k4⟩ := (H.out.below hb).get hlt
      have K4 := Lib.hid k4
      clear k4
      go_wp2_with fail
      rw [hen, Oper.upon_enter]
      refine (HT.out wr _ j hb hlt K4.out).mono ?_
      rintro e w1 ⟨rfl, hB1⟩
      ((replace hb := Below.on (Below.on hb (by ((repeat (first | assumption | exact Below.refl _ _ | refine Below.drew ?_ | refine below_drewN ?_ _ | refine Below.alloc' ?_ _ | refine Below.setCell ?_ (by first | omega | (dsimp only; omega) | (simp; done) | (simp; omega)) _ | refine Below.alloc ?_ (by first | assumption | exact Nat.le_refl _ | omega | (simp; done) | (simp; omega)) _))))) hB1; have := Below.size hb))
      cases hpj : p j
      · have HN' : Hid (∀ i, i < j + 1 → p i = false) := fun i hi => by
          by_cases h : i = j
          · rw [h]; exact hpj
          · exact HN.out i (by omega)
        clear hpj
        go_wp2_with fail
        go_roundw
        case rel => exact ⟨j + 1, by omega, rfl, hb, HN'⟩
        case measure => simp [intOf]; omega
      · have HPJ := Lib.hid hpj
        clear hpj
        go_wp2_with fail
        go_ret
        exact ⟨(j : Int), rfl, .inr ⟨j, hlt, rfl, HPJ.out, HN.out⟩, hb⟩
    · have hjn : j = rs.length := by omega
      subst hjn
      go_wp2_with fail
      go_ret
      exact ⟨-1, rfl, .inl ⟨rfl, HN.out⟩, hb⟩

theorem contains_rat_calls (w : World) (A : Option Addr) (c : Nat) (rs : List Raw) (k : Nat) (caps : Array Value) (p : Nat → Bool) {B : Nat} (h : RatsAt B w A rs) (hc : rs.length ≤ c) (hen : Enters Tryz.prog k)
    (ht : ∀ (w' : World) (v : Value) (i : Nat), Below w.heap.size w w' → i < rs.length → RawAt B w' v (raw rs i) → Calls Tryz.prog k (#[v] ++ caps) w' fun e w'' => e = .returned (.bool (p i)) ∧ Below w'.heap.size w' w'') :
    Calls Tryz.prog 49 #[.slice A rs.length c, .func (.func k) #[] caps] w fun e w' => ∃ t : Bool, e = .returned (.bool t) ∧ (t = true ↔ ∃ i, i < rs.length ∧ p i = true) ∧ Below w.heap.size w w' := by
  have HI := Lib.hid (index_rat_calls w A c rs k caps p h hc hen ht)
  clear h ht hen
  go_enter Tryz.func49, Tryz.ntmps49
  go_wp2_with fail
  refine HI.out.mono ?_
  rintro e w1 ⟨z, rfl, hz, hB⟩
  have HZ := Lib.hid hz
  clear hz
  go_wp2_with fail
  go_ret
  refine ⟨decide (0 ≤ z), rfl, ?_, hB⟩
  rcases HZ.out with ⟨rfl, h⟩ | ⟨j, hj, rfl, h, _⟩
  · constructor
    · intro h1; simp at h1
    · rintro ⟨i, hi, h1⟩; rw [h i hi] at h1; cases h1
  · exact ⟨fun _ => ⟨j, hj, h⟩, fun _ => decide_eq_true (by omega)⟩

/-- May all be? -/
def allOk (rs : List Raw) : Bool := rs.all Raw.ok
theorem allOk_iff (rs : List Raw) : allOk rs = true ↔ ∀ i, i < rs.length → (raw rs i).ok = true := by
  unfold allOk raw
  rw [List.all_eq_true]
  constructor
  · intro h i hi
    rw [List.getD_eq_getElem?_getD, List.getElem?_eq_getElem hi]
    exact h _ (List.getElem_mem hi)
  · intro h x hx
    obtain ⟨i, hi, rfl⟩ := List.getElem_of_mem hx
    have := h i hi
    rwa [List.getD_eq_getElem?_getD, List.getElem?_eq_getElem hi] at this
/-- None is longer than so many parts. -/
def allLe (K : Nat) (rs : List Raw) : Prop := ∀ i, i < rs.length → (raw rs i).le K

set_option maxRecDepth 100000 in
theorem vcheck1_calls (w : World) (v : Value) (r : Raw) {B : Nat} (h : RawAt B w v r) (hT : Tab w) (hsz : r.xs.length + r.ys.length ≤ 8796093022000) :
    Calls Tryz.prog 50 #[v] w fun e w' => e = .returned (.bool (!r.ok)) ∧ Below w.heap.size w w' := by
  obtain ⟨A, c, A', c', rfl, -, -, -, -⟩ := id h
  have H := Lib.hid h
  have HT := Lib.hid hT
  clear h hT
  obtain ⟨w3, h3, hB, b0⟩ := boxes1 w 36 #[.bool r.neg, .slice A r.xs.length c, .slice A' r.ys.length c']
  have H3 := Lib.hid h3
  clear h3 b0
  go_enter Tryz.func50, Tryz.ntmps50
  go_wp2_with fail
  rw [← H3.out]
  refine (rcheck_calls _ _ r (H.out.below hB) (HT.out.below hB) hsz).mono ?_
  rintro e w4 ⟨rfl, hB4⟩
  ((replace hB := Below.on (Below.on hB (by ((repeat (first | assumption | exact Below.refl _ _ | refine Below.drew ?_ | refine below_drewN ?_ _ | refine Below.alloc' ?_ _ | refine Below.setCell ?_ (by first | omega | (dsimp only; omega) | (simp; done) | (simp; omega)) _ | refine Below.alloc ?_ (by first | assumption | exact Nat.le_refl _ | omega | (simp; done) | (simp; omega)) _))))) hB4; have := Below.size hB))
  go_wp2_with fail
  go_ret
  exact ⟨rfl, hB⟩

theorem vcheck_calls (w : World) (A : Option Addr) (c : Nat) (rs : List Raw) {B : Nat} (h : RatsAt B w A rs) (hc : rs.length ≤ c) (hT : Tab w) (hK : allLe 4398046511000 rs) :
    Calls Tryz.prog 20 #[.slice A rs.length c] w fun e w' => e = .returned (.bool (allOk rs)) ∧ Below w.heap.size w w' := by
  have HI := Lib.hid (contains_rat_calls w A c rs 50 #[] (fun i => !(raw rs i).ok) h hc (enters_of Tryz.func50 (by kernel_rfl) rfl) (fun w' v i hb hi hr => vcheck1_calls w' v _ hr (hT.below hb) (by have := hK i hi; have h1 := this.1; have h2 := this.2; omega)))
  clear h hT
  go_enter Tryz.func20, Tryz.ntmps20
  go_wp2_with fail
  refine HI.out.mono ?_
  rintro e w1 ⟨t, rfl, ht, hB⟩
  have HZ := Lib.hid ht
  clear ht
  go_wp2_with fail
  go_ret
  refine ⟨?_, hB⟩
  refine ret_eq ?_
  show Value.bool (!t) = _
  congr 1
  rw [Bool.eq_iff_iff, allOk_iff]
  have h1 := HZ.out
  constructor
  · intro h i hi
    cases ho : (raw rs i).ok
    · have := h1.2 ⟨i, hi, by simp [ho]⟩; rw [this] at h; cases h
    · rfl
  · intro h
    cases ht : t
    · rfl
    · obtain ⟨i, hi, h2⟩ := h1.1 ht
      rw [h i hi] at h2; cases h2

set_option maxRecDepth 100000 in
theorem fit_calls (w : World) (A A' : Option Addr) (c c' : Nat) (rs ss : List Raw) {B : Nat} (h : RatsAt B w A rs) (h' : RatsAt B w A' ss) (hc : rs.length ≤ c) (hc' : ss.length ≤ c') (hT : Tab w) (hK : allLe 4398046511000 rs) (hK' : allLe 4398046511000 ss) :
    Calls Tryz.prog 55 #[.slice A rs.length c, .slice A' ss.length c'] w fun e w' => e = .returned (.bool (decide (rs.length = ss.length) && allOk rs && allOk ss)) ∧ Below w.heap.size w w' := by
  have H := Lib.hid h
  have H' := Lib.hid h'
  have HT := Lib.hid hT
  have HK := Lib.hid hK
  have HK' := Lib.hid hK'
  clear h h' hT hK hK'
  by_cases hl : rs.length = ss.length
  · have hlb : ((rs.length : Int) == (ss.length : Int)) = true := by simp [hl]
    have HL := Lib.hid (decide_eq_true hl)
    clear hl
    go_enter Tryz.func55, Tryz.ntmps55
    go_wp2_with fail
    refine (vcheck_calls _ _ _ rs H.out hc HT.out HK.out).mono ?_
    rintro e w1 ⟨rfl, hB⟩
    cases ho : allOk rs
    · go_wp2_with fail
      go_ret
      exact ⟨by rw [HL.out, ho]; rfl, hB⟩
    · go_wp2_with fail
      refine (vcheck_calls _ _ _ ss (H'.out.below hB) hc' (HT.out.below hB) HK'.out).mono ?_
      rintro e w2 ⟨rfl, hB2⟩
      ((replace hB := Below.on (Below.on hB (by ((repeat (first | assumption | exact Below.refl _ _ | refine Below.drew ?_ | refine below_drewN ?_ _ | refine Below.alloc' ?_ _ | refine Below.setCell ?_ (by first | omega | (dsimp only; omega) | (simp; done) | (simp; omega)) _ | refine Below.alloc ?_ (by first | assumption | exact Nat.le_refl _ | omega | (simp; done) | (simp; omega)) _))))) hB2; have := Below.size hB))
      go_wp2_with fail
      go_ret
      exact ⟨by rw [HL.out, ho]; rfl, hB⟩
  · have hlb : ((rs.length : Int) == (ss.length : Int)) = false := beq_eq_false_iff_ne.2 (by omega)
    have HL := Lib.hid (decide_eq_false hl)
    clear hl
    go_enter Tryz.func55, Tryz.ntmps55
    go_wp2_with fail
    go_ret
    exact ⟨by rw [HL.out]; rfl, Below.refl _ _⟩

end Go.Proofs.YthofbikhomnjpaaGreatDoor

import Derived.Test.YthofbikhomnjpaaGreatDoorL3
namespace Go.Proofs.YthofbikhomnjpaaGreatDoor
open Go.RowKit
set_option linter.unusedVariables false
set_option linter.unusedSimpArgs false

/-- A list of fractions, whatever they are. -/
def ListAt (B : Nat) (w : World) (v : Value) (rs : List Raw) : Prop := ∃ A c, v = .slice A rs.length c ∧ rs.length ≤ c ∧ RatsAt B w A rs
theorem ListAt.below {B : Nat} {w w' : World} {v : Value} {rs : List Raw} (h : ListAt B w v rs) (hb : Below w.heap.size w w') : ListAt B w' v rs := by
  obtain ⟨A, c, h1, h2, h3⟩ := h; exact ⟨A, c, h1, h2, h3.below hb⟩
/-- Lists of fractions, one behind the other. -/
def ListsAt (B : Nat) (w : World) (g : Nat) (ls : List (List Raw)) : Prop := ∀ i (h : i < ls.length), ∃ v, w.cell? ⟨g, i, none⟩ = some v ∧ ListAt B w v ls[i]
theorem ListsAt.below {B : Nat} {w w' : World} {g : Nat} {ls : List (List Raw)} (h : ListsAt B w g ls) (hb : Below w.heap.size w w') : ListsAt B w' g ls := fun i hi => by
  obtain ⟨v, h1, h2⟩ := h i hi
  exact ⟨v, (hb.cell (p := ⟨g, i, none⟩) (World.block_lt_of_cell? w _ h1)).trans h1, h2.below hb⟩
/-- Not more than is gone through. -/
def smallList (rs : List Raw) : Prop := rs.length ≤ 30 ∧ allLe 300 rs
theorem rats_two {B : Nat} {w : World} {r1 r2 : Raw} {a b c d e f : Value} (h1 : RawAt B w (.agg #[a, b, c]) r1) (h2 : RawAt B w (.agg #[d, e, f]) r2) : RatsAt B (w.alloc (.cells #[a, b, c, d, e, f] 36)) (some ⟨w.heap.size, 0, none⟩) [r1, r2] := by
  have hb := Box.new w 36 #[a, b, c, d, e, f]
  have hg : Below w.heap.size w (w.alloc (.cells #[a, b, c, d, e, f] 36)) := by ((repeat (first | assumption | exact Below.refl _ _ | refine Below.drew ?_ | refine below_drewN ?_ _ | refine Below.alloc' ?_ _ | refine Below.setCell ?_ (by first | omega | (dsimp only; omega) | (simp; done) | (simp; omega)) _ | refine Below.alloc ?_ (by first | assumption | exact Nat.le_refl _ | omega | (simp; done) | (simp; omega)) _)))
  refine ⟨by simp, fun _ => ⟨w.heap.size, 0, rfl, .inr ⟨_, hb⟩, fun i hi => ?_⟩⟩
  match i, hi with
  | 0, _ => exact ⟨_, ⟨_, _, _, rfl, hb.cell 0, hb.cell 1, hb.cell 2⟩, h1.below hg⟩
  | 1, _ => exact ⟨_, ⟨_, _, _, rfl, hb.cell 3, hb.cell 4, hb.cell 5⟩, h2.below hg⟩
theorem lists_two {B : Nat} {w : World} {v1 v2 : Value} {rs ss : List Raw} (h1 : ListAt B w v1 rs) (h2 : ListAt B w v2 ss) : ListsAt B (w.alloc (.cells #[v1, v2] 23)) w.heap.size [rs, ss] := fun i hi => by
  have hb := Box.new w 23 #[v1, v2]
  have hg : Below w.heap.size w (w.alloc (.cells #[v1, v2] 23)) := by ((repeat (first | assumption | exact Below.refl _ _ | refine Below.drew ?_ | refine below_drewN ?_ _ | refine Below.alloc' ?_ _ | refine Below.setCell ?_ (by first | omega | (dsimp only; omega) | (simp; done) | (simp; omega)) _ | refine Below.alloc ?_ (by first | assumption | exact Nat.le_refl _ | omega | (simp; done) | (simp; omega)) _)))
  match i, hi with
  | 0, _ => exact ⟨v1, hb.cell 0, h1.below hg⟩
  | 1, _ => exact ⟨v2, hb.cell 1, h2.below hg⟩

set_option maxRecDepth 100000 in
set_option maxHeartbeats 4000000 in
theorem great04_calls (w : World) (g c : Nat) (ls : List (List Raw)) {B : Nat} (h : ListsAt B w g ls) (hl : ls.length ≤ 1000) :
    Calls Tryz.prog 19 #[.slice (some ⟨g, 0, none⟩) ls.length c] w fun e w' => ∃ t : Bool, e = .returned (.bool t) ∧ (t = false → ∀ i (h : i < ls.length), smallList ls[i]) ∧ Below w.heap.size w w' := by
  have H := Lib.hid h
  clear h
  go_enter Tryz.func19, Tryz.ntmps19
  go_wp2_with fail
  go_loopw [3] (fun i wr => ∃ (j : Nat), j ≤ ls.length ∧ i = .int .i64 j ∧ Below w.heap.size w wr ∧ Hid (∀ k (h : k < ls.length), k < j → smallList ls[k])) (fun i _ => ls.length - (intOf i).toNat)
  case atStart => exact ⟨0, by omega, rfl, Below.refl _ _, fun k _ hk => absurd hk (by omega)⟩
  case round =>
    obtain ⟨j, hj, rfl, hb, HN⟩ := hrel
    by_cases hlt : j < ls.length
    · obtain ⟨v, hc, hv⟩ := (H.out.below hb) j hlt
      obtain ⟨rs, hrs⟩ : ∃ rs, rs = ls[j] := ⟨_, rfl⟩
      rw [← hrs] at hv
      obtain ⟨A, n, rfl, hn, hr⟩ := hv
      have HRS := Lib.hid hrs
      have HR := Lib.hid hr
      clear hrs hr
      have hrl := HR.out.1
      by_cases h30 : (30 : Int) < rs.length
      · go_wp2_with fail
        go_ret
        exact ⟨true, rfl, fun h => (by cases h), hb⟩
      · go_wp2_with fail
        refine (ratssize_calls _ _ _ rs HR.out hn).mono ?_
        rintro e w1 ⟨z, rfl, hz, hB1⟩
        ((replace hb := Below.on (Below.on hb (by ((repeat (first | assumption | exact Below.refl _ _ | refine Below.drew ?_ | refine below_drewN ?_ _ | refine Below.alloc' ?_ _ | refine Below.setCell ?_ (by first | omega | (dsimp only; omega) | (simp; done) | (simp; omega)) _ | refine Below.alloc ?_ (by first | assumption | exact Nat.le_refl _ | omega | (simp; done) | (simp; omega)) _))))) hB1; have := Below.size hb))
        by_cases h300 : (300 : Int) < z
        · go_wp2_with fail
          go_ret
          exact ⟨true, rfl, fun h => (by cases h), hb⟩
        · have HN' : Hid (∀ k (h : k < ls.length), k < j + 1 → smallList ls[k]) := fun k hk hkj => by
            by_cases h : k = j
            · subst h
              obtain ⟨h1, h2, h3⟩ := hz (by omega)
              rw [← HRS.out]
              exact ⟨by omega, fun i hi => ⟨Nat.le_trans (h3 i hi).1 (by omega), Nat.le_trans (h3 i hi).2 (by omega)⟩⟩
            · exact HN.out k hk (by omega)
          clear hz
          go_wp2_with fail
          go_roundw
          case rel => exact ⟨j + 1, by omega, rfl, hb, HN'⟩
          case measure => simp [intOf]; omega
    · go_wp2_with fail
      go_ret
      exact ⟨false, rfl, fun _ i hi => HN.out i hi (by omega), hb⟩

end Go.Proofs.YthofbikhomnjpaaGreatDoor

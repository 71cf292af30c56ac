import Derived.Test.YthofbikhomnjpaaGreatDoorN7
import Derived.RangeFuncNested
import Derived.RangeFuncBound
import Derived.RangeFuncCalls
import Derived.RangeFuncLeaves
import Derived.RangeFuncFrom
import Derived.RangeFuncBox
import Derived.Shelf.Abstract
import Derived.Shelf.RegionOpen
import Derived.OwnWalkIn
import Derived.TacticsInMore
import Derived.LoopNIn
import Derived.LoopIn
import Derived.Stop.RegionWithIn
namespace Go.Proofs.YthofbikhomnjpaaGreatDoor
open Go.RowKit Go.Shelf
set_option linter.unusedVariables false
set_option linter.unusedSimpArgs false
attribute [local go_sem] Oper.semAt_some
attribute [local go_sem] max2_is max_is min2_is min_is

/-- The pairs of parts of two numbers, the highest first: so many of them. -/
def prs (us vs : List Nat) (m : Nat) (j : Nat) : List (Nat × Nat) := (List.range j).map fun i => (el us (m - 1 - i), el vs (m - 1 - i))
theorem prs_zero (us vs : List Nat) (m : Nat) : prs us vs m 0 = [] := rfl
theorem prs_succ (us vs : List Nat) (m j : Nat) : prs us vs m (j + 1) = prs us vs m j ++ [(el us (m - 1 - j), el vs (m - 1 - j))] := by
  unfold prs; rw [List.range_succ, List.map_append]; rfl
theorem prs_length (us vs : List Nat) (m j : Nat) : (prs us vs m j).length = j := by simp [prs]
theorem prs_prefix (us vs : List Nat) (m : Nat) {j k : Nat} (h : j ≤ k) : prs us vs m j <+: prs us vs m k := by
  induction k with
  | zero => rw [show j = 0 from by omega]; exact List.prefix_refl _
  | succ k ih =>
    by_cases hj : j = k + 1
    · rw [hj]; exact List.prefix_refl _
    · exact (ih (by omega)).trans (by rw [prs_succ]; exact List.prefix_append _ _)

theorem yield_one {F : Fence} {m : Nat} {P : Program} {l : Nat} {args : Array Value} {W : World} {p q : World → Prop}
    (h : YieldAt F m P l args W fun e W' => (e = .returned (.bool true) ∧ p W') ∨ (e = .returned (.bool false) ∧ q W')) :
    YieldAt F m P l args W fun e W' => ∃ b : Bool, e = .returned (.bool b) ∧ Hid (if b = true then p W' else q W') :=
  h.mono fun e W' h => by
    rcases h with ⟨rfl, h⟩ | ⟨rfl, h⟩
    · exact ⟨true, rfl, h⟩
    · exact ⟨false, rfl, h⟩

set_option maxRecDepth 100000 in
theorem pairs1_calls (n : Nat) (hn : 2 ≤ n) (l B1 B2 : Nat) (A A' : Option Addr) (c c' : Nat) (us vs : List Nat) (m : Nat) (hm : (max (us.length : Int) (vs.length : Int)) = (m : Int)) (w0 : World)
    (J Jx : List (Nat × Nat) → World → Prop)
    (hY : ∀ pre x W, J pre W → pre.length < m → YieldAt Fence.wide (n - 1) Tryz.prog l #[.int .u64 ((x.1 : Nat) : Int), .int .u64 ((x.2 : Nat) : Int)] W fun e W' =>
      (e = .returned (.bool true) ∧ J (pre ++ [x]) W' ∧ Below w0.heap.size W W') ∨ (e = .returned (.bool false) ∧ Jx (pre ++ [x]) W'))
    (hdrew : ∀ pre W, J pre W → J pre W.drew)
    (hB1 : w0.cell? ⟨B1, 0, none⟩ = some (.slice A us.length c)) (hB2 : w0.cell? ⟨B2, 0, none⟩ = some (.slice A' vs.length c'))
    (hP1 : Parts w0 A us) (hP2 : Parts w0 A' vs)
    (W : World) (hW : Below w0.heap.size w0 W) (h0 : J [] W) :
    CallsIn Fence.wide n Tryz.prog 119 #[.func (.yield l) #[] #[], .pointer (some ⟨B1, 0, none⟩), .pointer (some ⟨B2, 0, none⟩)] W fun e W' => (∃ v, e = .returned v) ∧
      ((∃ xs, xs = prs us vs m m ∧ J xs W') ∨ (∃ pre, pre <+: prs us vs m m ∧ Jx pre W')) := by
  have hml : m ≤ 35184372088064 := by have := hP1.2.1; have := hP2.2.1; omega
  have HB1 := Lib.hid hB1
  have HB2 := Lib.hid hB2
  have HP1 := Lib.hid hP1
  have HP2 := Lib.hid hP2
  have HM := Lib.hid hm
  have HY := Lib.hid hY
  have HD := Lib.hid hdrew
  clear hB1 hB2 hP1 hP2 hm hY hdrew
  have c1 := (hW.cell (p := ⟨B1, 0, none⟩) (World.block_lt_of_cell? w0 _ HB1.out)).trans HB1.out
  have c2 := (hW.cell (p := ⟨B2, 0, none⟩) (World.block_lt_of_cell? w0 _ HB2.out)).trans HB2.out
  refine callsIn_of_wp Tryz.func119 rfl trivial ?_ rfl
  simp only [Tryz.ntmps119, List.size_toArray, List.length_cons, List.length_nil, Nat.reduceAdd, Nat.reduceSub, Array.replicate_succ, Array.replicate_zero, List.push_toArray, List.append_toArray, List.nil_append, List.cons_append]
  have hml0 : us.length ≤ m := by have := HM.out; omega
  have hml1 : vs.length ≤ m := by have := HM.out; omega
  gi_wp2
  rw [HM.out]
  gi_loopw [4] (fun i wr => ∃ (z : Int) (j : Nat), j ≤ m ∧ i = .int .i64 z ∧ Hid (z = (m : Int) - 1 - j) ∧ -1 ≤ z ∧ z < m ∧ J (prs us vs m j) wr ∧ Below w0.heap.size w0 wr) (fun i _ => (intOf i + 1).toNat)
  case atStart => exact ⟨(m : Int) - 1, 0, by omega, rfl, by show _ = _; omega, by omega, by omega, h0, hW⟩
  case round =>
    clear c1 c2 hW h0
    obtain ⟨z, j, hj, rfl, HZ, hz1, hz2, hJ, hB⟩ := hrel
    have c1 := (hB.cell (p := ⟨B1, 0, none⟩) (World.block_lt_of_cell? w0 _ HB1.out)).trans HB1.out
    have c2 := (hB.cell (p := ⟨B2, 0, none⟩) (World.block_lt_of_cell? w0 _ HB2.out)).trans HB2.out
    by_cases hlt : 0 ≤ z
    · have hzj : j < m := by have := HZ.out; omega
      have HP3 : Hid (Parts wr.drew A us) := (HP1.out.below hB).below (Below.refl _ _).drew
      have HP4 : Hid (Parts wr.drew A' vs) := (HP2.out.below hB).below (Below.refl _ _).drew
      have hat1 : atV us z = el us (m - 1 - j) := by have := HZ.out; rw [show z = ((m - 1 - j : Nat) : Int) from by omega, atV_nat]
      have hat2 : atV vs z = el vs (m - 1 - j) := by have := HZ.out; rw [show z = ((m - 1 - j : Nat) : Int) from by omega, atV_nat]
      obtain ⟨fn, tmps, assign, body, hy, hR⟩ := yield_one (HY.out (prs us vs m j) (el us (m - 1 - j), el vs (m - 1 - j)) wr.drew (HD.out _ _ hJ) (by rw [prs_length]; exact hzj))
      dsimp only at hy
      rw [← hat1, ← hat2] at hy
      have HR := Lib.hid hR
      clear hR hat1 hat2
      gi_wp2
      have hn1 : 1 ≤ n - 1 := by omega
      have hn2 : 1 ≤ n := by omega
      gi_region_with (first
        | (refine ⟨trivial, ?_⟩; gi_at_call 113; ((with_reducible refine (callsIn_wide.2 (at_calls _ A _ _ _ HP3.out)).mono ?_); rintro e w1 ⟨rfl, rfl⟩))
        | (refine ⟨trivial, ?_⟩; gi_at_call 113; ((with_reducible refine (callsIn_wide.2 (at_calls _ A' _ _ _ HP4.out)).mono ?_); rintro e w1 ⟨rfl, rfl⟩))
        | (refine HR.out.mono ?_; rintro e W' ⟨b, rfl, hb⟩))
      all_goals
        cases b
        · have hb' : Jx (prs us vs m j ++ [(el us (m - 1 - j), el vs (m - 1 - j))]) W' := hb
          have HJ := Lib.hid hb'
          clear hb hb'
          gi_wp2
          refine bodyPost_ret (results_none rfl _ _ _) rfl ?_
          exact ⟨⟨_, rfl⟩, .inr ⟨prs us vs m (j + 1), prs_prefix us vs m (by omega), by rw [prs_succ]; exact HJ.out⟩⟩
        · have hb' : J (prs us vs m j ++ [(el us (m - 1 - j), el vs (m - 1 - j))]) W' ∧ Below w0.heap.size wr.drew W' := hb
          rw [← prs_succ] at hb'
          have HJ := Lib.hid hb'
          clear hb hb'
          gi_wp2
          go_roundw
          case rel => exact ⟨z - 1, j + 1, by omega, rfl, by have := HZ.out; show _ = _; omega, by omega, by omega, HJ.out.1, hB.drew.trans HJ.out.2⟩
          case measure => simp [intOf]; omega
    · have hz : z = -1 := by omega
      have hjm : j = m := by have := HZ.out; omega
      subst hz hjm
      gi_wp2
      go_end0
      exact ⟨⟨_, rfl⟩, .inl hJ⟩

theorem pairs_stops (n : Nat) (hn : 2 ≤ n) (B1 B2 : Nat) (A A' : Option Addr) (c c' : Nat) (us vs : List Nat) (m : Nat) (hm : (max (us.length : Int) (vs.length : Int)) = (m : Int)) (w0 : World)
    (hB1 : w0.cell? ⟨B1, 0, none⟩ = some (.slice A us.length c)) (hB2 : w0.cell? ⟨B2, 0, none⟩ = some (.slice A' vs.length c'))
    (hP1 : Parts w0 A us) (hP2 : Parts w0 A' vs) :
    SeqStopsK Fence.wide n Tryz.prog 119 #[.pointer (some ⟨B1, 0, none⟩), .pointer (some ⟨B2, 0, none⟩)] (fun x : Nat × Nat => #[.int .u64 ((x.1 : Nat) : Int), .int .u64 ((x.2 : Nat) : Int)]) (Below w0.heap.size) (fun xs => xs = prs us vs m m) (fun pre => pre <+: prs us vs m m) m w0 :=
  fun l J Jx W hW hJ hJx hY h0 => pairs1_calls n hn l B1 B2 A A' c c' us vs m hm w0 J Jx hY
    (fun pre W h => hJ pre W _ none h ⟨rfl, rfl, rfl, Nat.le_refl _, fun _ _ _ => rfl⟩ (fun r e => by cases e)) hB1 hB2 hP1 hP2 W hW h0

theorem pairs_calls (w : World) (A A' : Option Addr) (c c' n n' : Nat) :
    Calls Tryz.prog 101 #[.slice A n c, .slice A' n' c'] w fun e w' => e = .returned (.func (.func 119) #[] #[.pointer (some ⟨w.heap.size, 0, none⟩), .pointer (some ⟨w.heap.size + 1, 0, none⟩)]) ∧ w' = (w.alloc (.cells #[.slice A n c] 32)).alloc (.cells #[.slice A' n' c'] 32) := by
  go_enter Tryz.func101, Tryz.ntmps101
  go_wp2
  go_ret
  exact ⟨by simp, rfl⟩

/-- What Cmp tells of two numbers. -/
def cmpN (a b : Nat) : Int := if a < b then -1 else if a = b then 0 else 1

theorem prs_same {us vs : List Nat} {m : Nat} : ∀ j, j ≤ m → (∀ p, p ∈ prs us vs m j → p.1 = p.2) → ∀ i, m - j ≤ i → i < m → el us i = el vs i := by
  intro j
  induction j with
  | zero => intro _ _ i h1 h2; omega
  | succ j ih =>
    intro hj h i h1 h2
    rw [prs_succ] at h
    by_cases hi : i = m - 1 - j
    · rw [hi]; exact h _ (List.mem_append_right _ (List.mem_singleton.2 rfl))
    · exact ih (by omega) (fun p hp => h p (List.mem_append_left _ hp)) i (by omega) h2

/-- The first place from above at which two numbers part decides. -/
theorem cmp_at {us vs : List Nat} {m j : Nat} (hsu : Small us) (hsv : Small vs) (hu : us.length ≤ m) (hv : vs.length ≤ m) (hj : j < m) (h : ∀ p, p ∈ prs us vs m j → p.1 = p.2) (hlt : el us (m - 1 - j) < el vs (m - 1 - j)) : val us < val vs := by
  have h1 := val_same hu hv (k := m - 1 - j + 1) (fun i h1 h2 => prs_same j (by omega) h i (by omega) h2)
  have e1 := val_append' (us.take (m - 1 - j + 1)) (us.drop (m - 1 - j + 1))
  have e2 := val_append' (vs.take (m - 1 - j + 1)) (vs.drop (m - 1 - j + 1))
  rw [List.take_append_drop] at e1 e2
  have t1 := val_take_succ us (m - 1 - j)
  have t2 := val_take_succ vs (m - 1 - j)
  have b1 := val_lt' (hsu.take (m - 1 - j))
  have b2 := pw_mono (show (us.take (m - 1 - j)).length ≤ m - 1 - j by rw [List.length_take]; omega)
  have hm := Nat.mul_le_mul_right (pw (m - 1 - j)) (show el us (m - 1 - j) + 1 ≤ el vs (m - 1 - j) from hlt)
  rw [Nat.add_mul, Nat.one_mul] at hm
  have hz : m - 1 - j + 1 ≤ vs.length := by
    rcases Nat.lt_or_ge (m - 1 - j) vs.length with h | h
    · exact h
    · rw [el_ge h] at hlt; omega
  have l2 : (vs.take (m - 1 - j + 1)).length = m - 1 - j + 1 := by rw [List.length_take]; omega
  by_cases hz1 : m - 1 - j + 1 ≤ us.length
  · have l1 : (us.take (m - 1 - j + 1)).length = m - 1 - j + 1 := by rw [List.length_take]; omega
    rw [l1] at e1; rw [l2] at e2
    rw [h1] at e1
    omega
  · have hd : us.drop (m - 1 - j + 1) = [] := List.drop_of_length_le (by omega)
    rw [hd] at h1 e1
    have hv0 : val ([] : List Nat) = 0 := rfl
    rw [hv0] at h1 e1
    rw [← h1] at e2
    omega
theorem prs_swap {us vs : List Nat} {m j : Nat} (h : ∀ p, p ∈ prs us vs m j → p.1 = p.2) : ∀ p, p ∈ prs vs us m j → p.1 = p.2 := by
  intro p hp
  unfold prs at *
  obtain ⟨i, hi, rfl⟩ := List.mem_map.1 hp
  exact (h (el us (m - 1 - i), el vs (m - 1 - i)) (List.mem_map.2 ⟨i, hi, rfl⟩)).symm

end Go.Proofs.YthofbikhomnjpaaGreatDoor

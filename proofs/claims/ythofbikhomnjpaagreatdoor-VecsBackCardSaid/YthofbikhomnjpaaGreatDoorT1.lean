import Derived.Test.YthofbikhomnjpaaGreatDoorR5
import Derived.Test.YthofbikhomnjpaaGreatDoorN7
import Derived.Test.YthofbikhomnjpaaGreatDoorV4
import Derived.Maps.AppendAt
import Derived.RangeFuncBox
import Derived.LoopN
import Derived.Laws.BytesString
import Derived.Laws.IdiomStrings
namespace Go.Proofs.YthofbikhomnjpaaGreatDoor
open Go.RowKit
set_option linter.unusedVariables false
set_option linter.unusedSimpArgs false

theorem make_nine (W : World) : (Instr.makeSlice 127 (.int .i64 9) (.int .i64 9)).run Tryz.prog W = .ok (.slice (some ⟨W.heap.size, 0, none⟩) 9 9) (W.alloc (.cells #[.int .u8 0, .int .u8 0, .int .u8 0, .int .u8 0, .int .u8 0, .int .u8 0, .int .u8 0, .int .u8 0, .int .u8 0] 5)) := by
  have hi : (Tryz.prog.info? 5).map (fun i => (i.zero, i.size, i.bytes)) = some (some (.int .u8 0), 1, 1) := by kernel_rfl
  obtain ⟨i0, hi0, hz⟩ := Option.map_eq_some_iff.1 hi
  simp only [Prod.mk.injEq] at hz
  obtain ⟨hz0, hz1, hz2⟩ := hz
  have hr := run_make (P := Tryz.prog) W 127 5 i0 _ Tryz.underlying127 hi0 hz0 .i64 .i64 9 9 (by decide) (Int.le_refl _) (by rw [hz2]; decide) (by decide)
  have hm : madeCells (Value.int .u8 0).cells (Int.toNat 9 * 1) = #[.int .u8 0, .int .u8 0, .int .u8 0, .int .u8 0, .int .u8 0, .int .u8 0, .int .u8 0, .int .u8 0, .int .u8 0] := by
    kernel_rfl
  rw [hr, hz1, hm]
  rfl

theorem bytes_nine (w : World) : (convert 127 9 (.slice (some ⟨w.heap.size, 0, none⟩) 9 9)).run Tryz.prog (w.alloc (.cells #[.int .u8 48, .int .u8 48, .int .u8 48, .int .u8 48, .int .u8 48, .int .u8 48, .int .u8 48, .int .u8 49, .int .u8 49] 5)) = .ok (.string ⟨#[48, 48, 48, 48, 48, 48, 48, 49, 49]⟩) (w.alloc (.cells #[.int .u8 48, .int .u8 48, .int .u8 48, .int .u8 48, .int .u8 48, .int .u8 48, .int .u8 48, .int .u8 49, .int .u8 49] 5)) := by
  refine run_convert_bytes_back _ 127 9 5 ⟨w.heap.size, 0, none⟩ 9 [48, 48, 48, 48, 48, 48, 48, 49, 49] Tryz.underlying127 Tryz.underlying5 Tryz.underlying9 ?_
  intro j hj
  have hb := Box.new w 5 #[.int .u8 48, .int .u8 48, .int .u8 48, .int .u8 48, .int .u8 48, .int .u8 48, .int .u8 48, .int .u8 49, .int .u8 49]
  rw [show (Addr.add ⟨w.heap.size, 0, none⟩ j) = ⟨w.heap.size, j, none⟩ by rw [Addr.add_lit, Nat.zero_add], hb.cell j]
  match j, hj with
  | 0, _ | 1, _ | 2, _ | 3, _ | 4, _ | 5, _ | 6, _ | 7, _ | 8, _ => rfl

set_option maxRecDepth 100000 in
set_option maxHeartbeats 4000000 in
theorem text1_calls (w : World) :
    Calls Tryz.prog 105 #[.int .u32 11] w fun e w' => e = .returned (.string ⟨#[48, 48, 48, 48, 48, 48, 48, 49, 49]⟩) ∧ Below w.heap.size w w' := by
  have hmk := make_nine
  have hcv := bytes_nine w
  go_enter Tryz.func105, Tryz.ntmps105
  go_wp2_with fail
  refine wp_loop_rounds 10 ?_
  rw [rounds_succ]
  go_wp2_with fail
  rw [rounds_succ]
  go_wp2_with fail
  rw [rounds_succ]
  go_wp2_with fail
  rw [rounds_succ]
  go_wp2_with fail
  rw [rounds_succ]
  go_wp2_with fail
  rw [rounds_succ]
  go_wp2_with fail
  rw [rounds_succ]
  go_wp2_with fail
  rw [rounds_succ]
  go_wp2_with fail
  rw [rounds_succ]
  go_wp2_with fail
  rw [rounds_succ]
  go_wp2_with fail
  go_ret
  exact ⟨rfl, by ((repeat (first | assumption | exact Below.refl _ _ | refine Below.drew ?_ | refine below_drewN ?_ _ | refine Below.alloc' ?_ _ | refine Below.setCell ?_ (by first | omega | (dsimp only; omega) | (simp; done) | (simp; omega)) _ | refine Below.alloc ?_ (by first | assumption | exact Nat.le_refl _ | omega | (simp; done) | (simp; omega)) _)))⟩

set_option maxRecDepth 100000 in
set_option maxHeartbeats 4000000 in
theorem trimb_calls (w : World) :
    Calls Tryz.prog 121 #[.string ⟨#[48, 48, 48, 48, 48, 48, 48, 49, 49]⟩, .int .u8 48] w fun e w' => e = .returned (.string ⟨#[49, 49]⟩) ∧ Below w.heap.size w w' := by
  go_enter Tryz.func121, Tryz.ntmps121
  go_wp2_with fail
  refine wp_loop_rounds 8 ?_
  rw [rounds_succ]
  go_wp2_with fail
  rw [rounds_succ]
  go_wp2_with fail
  rw [rounds_succ]
  go_wp2_with fail
  rw [rounds_succ]
  go_wp2_with fail
  rw [rounds_succ]
  go_wp2_with fail
  rw [rounds_succ]
  go_wp2_with fail
  rw [rounds_succ]
  go_wp2_with fail
  rw [rounds_succ]
  go_wp2_with fail
  go_ret
  refine ⟨?_, by ((repeat (first | assumption | exact Below.refl _ _ | refine Below.drew ?_ | refine below_drewN ?_ _ | refine Below.alloc' ?_ _ | refine Below.setCell ?_ (by first | omega | (dsimp only; omega) | (simp; done) | (simp; omega)) _ | refine Below.alloc ?_ (by first | assumption | exact Nat.le_refl _ | omega | (simp; done) | (simp; omega)) _)))⟩
  refine ret_eq ?_
  first | rfl | kernel_rfl | decide

set_option maxRecDepth 100000 in
set_option maxHeartbeats 4000000 in
theorem trim_calls (w : World) :
    Calls Tryz.prog 108 #[.string ⟨#[48, 48, 48, 48, 48, 48, 48, 49, 49]⟩, .string ⟨#[48]⟩] w fun e w' => e = .returned (.string ⟨#[49, 49]⟩) ∧ Below w.heap.size w w' := by
  go_enter Tryz.func108, Tryz.ntmps108
  go_wp2_with fail
  refine (trimb_calls _).mono ?_
  rintro e w1 ⟨rfl, hB⟩
  go_wp2_with fail
  go_ret
  exact ⟨rfl, by ((repeat (first | assumption | exact Below.refl _ _ | refine Below.drew ?_ | refine below_drewN ?_ _ | refine Below.alloc' ?_ _ | refine Below.setCell ?_ (by first | omega | (dsimp only; omega) | (simp; done) | (simp; omega)) _ | refine Below.alloc ?_ (by first | assumption | exact Nat.le_refl _ | omega | (simp; done) | (simp; omega)) _)))⟩

set_option maxRecDepth 100000 in
theorem join1_calls (w : World) (g c : Nat) (s : ByteArray) (hs : w.cell? ⟨g, 0, none⟩ = some (.string s)) :
    Calls Tryz.prog 109 #[.slice (some ⟨g, 0, none⟩) 1 c, .string ⟨#[]⟩] w fun e w' => e = .returned (.string s) ∧ w' = w := by
  go_enter Tryz.func109, Tryz.ntmps109
  go_wp2_with fail
  go_ret
  exact ⟨rfl, rfl⟩

set_option maxRecDepth 100000 in
theorem rev1_calls (w : World) (g c : Nat) :
    Calls Tryz.prog 107 #[.slice (some ⟨g, 0, none⟩) 1 c] w fun e w' => (∃ v, e = .returned v) ∧ w' = w := by
  go_enter Tryz.func107, Tryz.ntmps107
  go_wp2_with fail
  refine wp_loop_rounds 1 ?_
  rw [rounds_succ]
  go_wp2_with fail
  go_end0
  exact ⟨⟨_, rfl⟩, rfl⟩

theorem info_string : (Tryz.prog.info? 9).map (fun i => (i.zero, i.size, i.bytes)) = some (some (.string ⟨#[]⟩), 1, 16) := by kernel_rfl
theorem fine11 (w : World) (A : Option Addr) (c : Nat) (h : Parts w A [11]) (hc : 1 ≤ c) :
    Calls Tryz.prog 89 #[.slice A 1 c] w fun e w' => ∃ A' c', e = .returned (.slice A' 1 c') ∧ 1 ≤ c' ∧ Parts w' A' [11] ∧ w' = w := by
  have h1 := fine_calls w A c [11] h hc
  have hf : fineL [11] = [11] := by unfold fineL; rw [if_pos (by decide)]
  rw [hf] at h1
  exact h1.mono fun e w' ⟨A', c', h1, h2, h3, h4, h5⟩ => ⟨A', c', h1, h2, h4, h5⟩
theorem short11 (w : World) (A : Option Addr) (c : Nat) (h : Parts w A [11]) (hc : 1 ≤ c) :
    Calls Tryz.prog 106 #[.slice A 1 c, .int .u32 1000000000] w fun e w' => ∃ A' c', e = .returned (.tuple #[.slice A' 0 c', .int .u32 11]) ∧ Below w.heap.size w w' := by
  have h1 := short_calls w A c [11] 1000000000 h hc (by decide) (by decide)
  have hv : val [11] = 11 := rfl
  rw [hv] at h1
  refine Calls.mono h1 ?_
  rintro e w' ⟨v, bs, rfl, ho, -, hb⟩
  obtain ⟨A', c', rfl, -, -⟩ := ho.reads
  refine ⟨A', c', ?_, hb⟩
  rw [show 11 / 1000000000 = 0 from rfl, digs_zero]
  rfl

set_option maxRecDepth 100000 in
set_option maxHeartbeats 4000000 in
theorem text11_calls (w : World) (A : Option Addr) (c : Nat) (h : Parts w A [11]) (hc : 1 ≤ c) :
    Calls Tryz.prog 85 #[.slice A 1 c] w fun e w' => e = .returned (.string ⟨#[49, 49]⟩) ∧ Below w.heap.size w w' := by
  have H := Lib.hid h
  clear h
  obtain ⟨i0, hi, hz0, hz1, hz2⟩ := info_parts info_string
  go_enter Tryz.func85, Tryz.ntmps85
  go_wp2_with fail
  refine (fine11 _ _ _ H.out hc).mono ?_
  rintro e w1 ⟨A1, c1, rfl, hc1, hp1, rfl⟩
  have H1 := Lib.hid hp1
  clear hp1
  go_wp2_with fail
  refine wp_loop_rounds 2 ?_
  rw [rounds_succ]
  go_wp2_with fail
  refine (short11 _ _ _ H1.out hc1).mono ?_
  rintro e w2 ⟨A2, c2, rfl, hB2⟩
  go_wp2_with fail
  refine (text1_calls _).mono ?_
  rintro e w3 ⟨rfl, hB3⟩
  have hB := Below.on hB2 hB3
  have hs := hB.size
  go_wp2_with (at_builtin; refine wpList_append_own_at _ rfl _ _ 126 rfl w1.heap.size 9 i0 (.string ⟨#[]⟩) 1 16 Tryz.underlying126 hi hz0 hz1 hz2 rfl (by decide) (.slice none 0 0) 0 [] rfl (World.ownsRow_nil _ _ _ _) ⟨w3.heap.size, 0, none⟩ 1 1 [.string ⟨#[48, 48, 48, 48, 48, 48, 48, 49, 49]⟩] rfl rfl (cell_one_new _ _ _) (by simp [Value.oneCell']) (by decide) (by omega) (by simp; omega) ?_; intro v' w4 hown' hgrow hnil hat; obtain ⟨g', cap', rfl⟩ := ownsRow_succ hown')
  have hB4 : Below w1.heap.size w1 w4 := (Below.alloc' hB _).grown hgrow (by simp; omega) (fun k hk => by simp [Value.ownBlock] at hk)
  have hc4 : w4.cell? ⟨g', 0, none⟩ = some (.string ⟨#[48, 48, 48, 48, 48, 48, 48, 49, 49]⟩) := by
    rcases hown'.2 with ⟨e, _⟩ | ⟨g, cap, cur, e, _, hh, _, _, _, ht⟩
    · cases e
    · cases e
      rw [cell_of_row w4 g' 0 _ _ _ hh, ← Array.getElem?_toList]
      have := congrArg (fun l => l[0]?) ht
      simpa [List.getElem?_take] using this
  rw [rounds_succ]
  go_wp2_with fail
  refine (rev1_calls _ _ _).mono ?_
  rintro e w5 ⟨⟨v5, rfl⟩, rfl⟩
  go_wp2_with fail
  refine (join1_calls _ _ _ _ hc4).mono ?_
  rintro e w5 ⟨rfl, rfl⟩
  go_wp2_with fail
  refine (trim_calls _).mono ?_
  rintro e w6 ⟨rfl, hB6⟩
  have hB7 := Below.on hB4 hB6
  go_wp2_with fail
  go_ret
  exact ⟨rfl, hB7⟩

end Go.Proofs.YthofbikhomnjpaaGreatDoor

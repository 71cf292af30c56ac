import Derived.Test.YthofbikhomnjpaaGreatDoorBase
namespace Go.Proofs.YthofbikhomnjpaaGreatDoor
open Go.RowKit
set_option linter.unusedVariables false
set_option linter.unusedSimpArgs false

theorem okL_int (xs : List Nat) (h : 0 < xs.length) : okL xs = (((el xs (xs.length - 1) : Nat) : Int) != 0) := by
  rw [okL_last xs h, Bool.eq_iff_iff]
  simp

theorem check_calls (w : World) (A : Option Addr) (c : Nat) (xs : List Nat) (h : Parts w A xs) :
    Calls Tryz.prog 52 #[.slice A xs.length c] w fun e w' => e = .returned (.bool (okL xs)) ∧ w' = w := by
  obtain ⟨hs, hl, h⟩ := h
  by_cases h0 : xs.length = 0
  · have : xs = [] := List.eq_nil_of_length_eq_zero h0
    subst this
    clear h hs hl h0
    go_enter Tryz.func52, Tryz.ntmps52
    go_wp2
    go_ret
    exact ⟨rfl, rfl⟩
  · have hb : ((xs.length : Int) == 0) = false := beq_eq_false_iff_ne.2 (by omega)
    obtain ⟨b, o, rfl, hc⟩ := h (by omega)
    have hg := hc (xs.length - 1) (by omega)
    have HE := Lib.hid (okL_int xs (by omega))
    clear hc h hs
    go_enter Tryz.func52, Tryz.ntmps52
    go_wp2
    go_ret
    exact ⟨by rw [HE.out]; rfl, rfl⟩

theorem clip_calls (w : World) (A : Option Addr) (n c : Nat) (hn : n ≤ c) (hc : n ≤ 35184372088064) :
    Calls Tryz.prog 118 #[.slice A n c] w fun e w' => e = .returned (.slice A n n) ∧ w' = w := by
  go_enter Tryz.func118, Tryz.ntmps118
  go_wp2
  go_ret
  exact ⟨by simp, rfl⟩


theorem cut_calls (w : World) (A : Option Addr) (c : Nat) (xs : List Nat) (h : Parts w A xs) (hle : xs.length ≤ c) :
    Calls Tryz.prog 100 #[.slice A xs.length c] w fun e w' => e = .returned (.slice A (cutN xs) (cutN xs)) ∧ w' = w := by
  obtain ⟨hs, hl, h⟩ := h
  have HS := Lib.hid hs
  clear hs
  have H := Lib.hid h
  clear h
  go_enter Tryz.func100, Tryz.ntmps100
  go_wp2
  go_loop [3] (fun n => ∃ k : Nat, k ≤ xs.length ∧ n = .int .i64 k ∧ Hid (∀ i, k ≤ i → el xs i = 0)) (fun n => (intOf n).toNat)
  case atStart => exact ⟨xs.length, Nat.le_refl _, rfl, fun i hi => el_ge hi⟩
  case round =>
    obtain ⟨k, hk, rfl, HZ⟩ := hrel
    by_cases h0 : k = 0
    · subst h0
      have HT := Lib.hid (take_digs HS.out hk HZ.out (.inl rfl))
      clear HZ
      go_wp2_with (first | (go_at_call 118; refine (clip_calls _ _ _ _ (by omega) (by omega)).mono ?_; rintro e w' ⟨rfl, rfl⟩))
      go_ret
      have : cutN xs = 0 := by unfold cutN; rw [HT.out]; simp
      rw [this]
      exact ⟨rfl, rfl⟩
    · have h1 : decide (0 < (k : Int)) = true := decide_eq_true (by omega)
      obtain ⟨b, o, rfl, hc⟩ := H.out (by omega)
      have hg := hc (k - 1) (by omega)
      clear hc
      by_cases hz : el xs (k-1) = 0
      · rw [hz] at hg
        have HN : Hid (∀ i, k - 1 ≤ i → el xs i = 0) := fun i hi => by
          by_cases he : i = k - 1
          · rw [he, hz]
          · exact HZ.out i (by omega)
        clear HZ hz
        go_wp2_with fail
        go_round
        case rel => exact ⟨k - 1, by omega, by congr 1; omega, HN⟩
        case measure => simp [intOf]; omega
      · have HT := Lib.hid (take_digs HS.out hk HZ.out (.inr hz))
        have hb : (((el xs (k-1) : Nat) : Int) == 0) = false := beq_eq_false_iff_ne.2 (by omega)
        clear HZ hz
        go_wp2_with (first | (go_at_call 118; refine (clip_calls _ _ _ _ (by omega) (by omega)).mono ?_; rintro e w' ⟨rfl, rfl⟩))
        go_ret
        have : cutN xs = k := by unfold cutN; rw [HT.out]; simp; omega
        rw [this]
        exact ⟨by first | rfl | simp, rfl⟩
end Go.Proofs.YthofbikhomnjpaaGreatDoor

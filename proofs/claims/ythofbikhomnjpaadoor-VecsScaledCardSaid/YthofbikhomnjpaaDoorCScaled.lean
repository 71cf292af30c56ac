/- Whatever list may be, and whatever two fractions: so many times, and so many times again, is the product of both as many times; one time is as it was, and no time nothing: the law VecsScaled answers true, and its arguments read behind the call as before. Conditions: those of the given row alone (the laid variables hold what the program's text lays). -/
import Derived.Test.YthofbikhomnjpaaDoorRows
import Derived.Test.YthofbikhomnjpaaDoorTie
import Derived.Test.YthofbikhomnjpaaDoorCards
import Derived.Test.YthofbikhomnjpaaDoorL5
import Derived.Test.YthofbikhomnjpaaDoorO1
import Derived.ProofKit
import Derived.LaidMore
import Derived.Lay
import Derived.Lib.LaidTab
import Derived.Carry
import Derived.SevenTiedAt
import Derived.LaidOnce
namespace Go.Proofs.YthofbikhomnjpaaDoor
open Go.RowKit Go.ChangeShapes Go.WideShapes Go.ChangeAt
set_option linter.unusedVariables false
set_option linter.unusedSimpArgs false

theorem own_knob : ownKnob Tryd.prog.godebug = none := by kernel_rfl
theorem laid_out : laidOutB Tryd.prog = true := by kernel_rfl
theorem tab_global : Tryd.prog.globalNamed "math/bits.deBruijn32tab" = some 0 := by kernel_rfl
theorem tab_type : (Tryd.prog.globals[0]?).map (·.type) = some 141 := by kernel_rfl
theorem tab_cells : Tryd.prog.cellsOf 141 = 32 := by kernel_rfl
theorem u8_cells : Tryd.prog.cellsOf 5 = 1 := by kernel_rfl
theorem tab_data {H : Type} : (Rows.laid_math_bits_deBruijn32tab : DataW H) = Lib.tabData .u8 (Lib.deBruijn32tab.map fun n : Nat => (n : Int)) := rfl
theorem tab_of_laid {rest : List (String × DataW Unit)} {W : World} (h : laidMet Tryd.prog (("math/bits.deBruijn32tab", Rows.laid_math_bits_deBruijn32tab) :: rest) W) : Tab W := by
  rw [tab_data] at h
  have ht := Lib.tabIs_of_head tab_global tab_type Tryd.underlying141 Tryd.underlying5 u8_cells tab_cells h
  intro j hj
  have := Lib.TabIs.cell ht tab_global j (by rw [List.length_map]; exact hj)
  rw [this]
  have hg : ∀ k, k < 32 → (Lib.deBruijn32tab.map fun n : Nat => (n : Int)).getD k 0 = ((Lib.deBruijn32tab.getD k 0 : Nat) : Int) := by decide
  rw [hg j hj]

theorem weights_at {H : Type} {ts : List TypeId} {ds : List (DataW H)} (h : (DataW.weightsEach Tryd.prog ts ds).all (· ≤ reachBytes) = true) {j : Nat} {t : TypeId} {d : DataW H} (ht : ts[j]? = some t) (hd : ds[j]? = some d) : ∀ n ∈ d.weights Tryd.prog t, n ≤ reachBytes := fun n hn => by
  have := List.all_eq_true.1 h n (DataW.weights_mem_each ht hd n hn)
  simpa using this

set_option maxRecDepth 100000 in
theorem scaled_lifted (os : Os) (started : os.Started) (H : Type) (enc : TypeId × Value → H) :
    ReturnsInHanded {} Tryd.checked os 4 .any (fun w args => (Rows.vecsScaledSpec.pre enc Tryd.prog Tryd.f4 [] false w args ∧ laidMetH Tryd.prog Rows.vecsScaledRow.laid w) ∧ sizedMet enc Tryd.prog Tryd.f4 (OpenSpec.ofChange Rows.vecsScaledSpec) false w args)
      (Rows.vecsScaledSpec.post enc Tryd.prog Tryd.f4 false true false false) := by
  refine returnsInHanded_of_change_and (C := Tryd.checked) (X := fun w _ => laidMetH Tryd.prog Rows.vecsScaledRow.laid w) (fun _ _ _ hh h => h.of_heap hh) own_knob started (by kernel_rfl) Tryd.func4
    (ChangeSpec.witness_shaped (enc := enc) (C := Tryd.checked) (os := os) (X := fun w _ => laidMetH Tryd.prog Rows.vecsScaledRow.laid w) false (World.laidAll Tryd.prog os Rows.vecsScaledRow.laid) #[.slice none 0 0, .agg #[.bool false, .slice none 0 0, .slice none 0 0], .agg #[.bool false, .slice none 0 0, .slice none 0 0]] 8 (World.laidAll_os _ _ _)
      (World.shaped_of_ZipB (by kernel_rfl) (by kernel_rfl)) (by kernel_rfl) (by kernel_rfl) (by kernel_rfl)
      (by rw [MakeChecks.laidMetH_plain _ _ _ (by kernel_rfl)]; exact laidMet_laidAll _ (by kernel_rfl) (by kernel_rfl))) ?_
  intro W base args ds gs before hval0 hW _ hsz0 hL _
  have hval : ∀ (j : Nat) t v, Tryd.f4.params[j]? = some t → args[j]? = some v → Value.okWide Tryd.prog W .any base t v := hval0
  have hsz : (DataW.weightsEach Tryd.prog (Tryd.f4.params.toList ++ Rows.vecsScaledSpec.plain.varTypes Tryd.prog) (ds ++ gs)).all (· ≤ reachBytes) = true := hsz0
  have hW' := hW
  obtain ⟨p, q, hA0, hV, rfl, _, _⟩ := hW
  have hA : DataW.TrodAll enc Tryd.prog W 0 (fun _ => true) true Tryd.f4.params.toList args.toList ds p := hA0
  rw [Tryd.params4] at hA hval hsz
  obtain ⟨v0, v1, v2, d0, d1, d2, p0, p1, p2, rfl, rfl, rfl, t0, t1, t2⟩ := trodAll_three hA
  obtain ⟨rfl, rfl⟩ := trodVars_none hV
  have w0 := weights_at hsz (j := 0) rfl rfl
  have w1 := weights_at hsz (j := 1) rfl rfl
  have w2 := weights_at hsz (j := 2) rfl rfl
  have hlt : ∀ x ∈ p0 ++ p1 ++ p2, x.block < W.heap.size := fun x hx => by simpa using hW'.lt x (by simpa using hx)
  have hlt0 : ∀ x ∈ p0, x.block < W.heap.size := fun x hx => hlt x (by simp [hx])
  have hlt1 : ∀ x ∈ p1, x.block < W.heap.size := fun x hx => hlt x (by simp [hx])
  have hlt2 : ∀ x ∈ p2, x.block < W.heap.size := fun x hx => hlt x (by simp [hx])
  obtain ⟨a0, len, cap, rfl⟩ := okWide_slice Tryd.underlying22 (hval 0 22 v0 rfl rfl)
  obtain ⟨f0, f1, hu, -, -, -, -⟩ := two_fields under_rat
  obtain ⟨cs1, rfl, -⟩ := okWide_struct hu (hval 1 33 v1 rfl rfl)
  obtain ⟨cs2, rfl, -⟩ := okWide_struct hu (hval 2 33 v2 rfl rfl)
  obtain ⟨n0, k0⟩ := id t0
  obtain ⟨n1, k1⟩ := id t1
  obtain ⟨n2, k2⟩ := id t2
  obtain ⟨A, rs, c, e0, hc, hR⟩ := open_rats k0 w0
  obtain ⟨x1, y1, z1, r1, e1, hr1⟩ := open_rat k1 w1
  obtain ⟨x2, y2, z2, r2, e2, hr2⟩ := open_rat k2 w2
  have e0' : Value.slice a0 len cap = .slice A rs.length c := by simpa [Value.cells] using e0
  have e1' : cs1 = #[x1, y1, z1] := by
    have : cs1.toList = [x1, y1, z1] := e1
    obtain ⟨l⟩ := cs1; simp at this; rw [this]
  have e2' : cs2 = #[x2, y2, z2] := by
    have : cs2.toList = [x2, y2, z2] := e2
    obtain ⟨l⟩ := cs2; simp at this; rw [this]
  rw [e0'] at t0 hW' ⊢
  subst e1' e2'
  rw [MakeChecks.laidMetH_plain _ _ _ (by kernel_rfl)] at hL
  have hT : Tab W := tab_of_laid hL
  refine Calls.mono (scaled_calls W A c rs _ _ r1 r2 hR hc hr1 hr2 hT (Nat.le_refl _)) fun e W' ⟨he, hb⟩ => ?_
  subst he
  exact ⟨_, rfl, _, _, _, [], _, [], hW', trodAll_mk1 (shut_bool Tryd.underlying4 _),
    trodAll_mk3 (Below.trod laid_out (by kernel_rfl) (of_decide_eq_true (by kernel_rfl)) t0 hb hlt0) (Below.trod laid_out (by kernel_rfl) (of_decide_eq_true (by kernel_rfl)) t1 hb hlt1) (Below.trod laid_out (by kernel_rfl) (of_decide_eq_true (by kernel_rfl)) t2 hb hlt2), rfl, hb.frame _, fun h => by cases h⟩

theorem scaled_said : Rows.VecsScaledSaid :=
  OpenClaim.holds_of_wide 4 Tryd.f4 rfl rfl rfl rfl rfl rfl rfl ⟨rfl, rfl, rfl, rfl, rfl⟩ rfl rfl rfl rfl rfl (by kernel_rfl) Tryd.func4 (by kernel_rfl)
    (of_decide_eq_true (by kernel_rfl)) (by unfold Func.isWrapper; first | (rw [if_pos (by decide +kernel)]; kernel_rfl) | (rw [if_neg (by decide +kernel)]; exact ⟨rfl, rfl⟩))
    (fun os started H enc _ => scaled_lifted os started H enc)

theorem scaled_holds : Rows.VecsScaledCardSaid :=
  Claim7.holds_tied_plain_at .later [] [.data, .data, .pinned] true (true, "c82436b825a02c040e31e49ebc3dbc85a45fe5c02466c60e986fc37f948e33b1") false
    scaled_said (fun _ h => by cases h) (by kernel_rfl) (fun _ h => by cases h) vecsScaled_row_tie rfl ⟨rfl, rfl⟩ (by kernel_rfl) rfl
    (fun f fn hf hfn => by
      obtain rfl : f = 4 := Option.some.inj ((show Tryd.prog.funcNamed "assayer/assayerlaw04.VecsScaled" = some 4 by kernel_rfl).symm.trans hf) |>.symm
      obtain rfl : fn = Tryd.f4 := (Option.some.inj (Tryd.func4.symm.trans hfn)).symm
      exact ⟨by kernel_rfl, fun j t ht => by
        rw [Tryd.params4] at ht
        have hm : t ∈ [22, 33, 33] := by simpa using Array.mem_of_getElem? ht
        have hall : ([22, 33, 33].all fun u => !Tryd.prog.wantsStandIn u) = true := by kernel_rfl
        exact (show Tryd.prog.wantsStandIn t = false by simpa using List.all_eq_true.1 hall t hm)⟩)
    (by kernel_rfl)
#print axioms scaled_holds

end Go.Proofs.YthofbikhomnjpaaDoor

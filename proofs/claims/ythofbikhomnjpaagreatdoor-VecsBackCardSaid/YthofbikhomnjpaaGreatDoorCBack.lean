/- Whatever two lists may be, as long, and whatever fraction: what is added is taken off again, nothing added leaves a list, and a list so many times is that added to nothing: the law VecsBack answers true, and its arguments read behind the call as before. Conditions: those of the given row alone (the laid variables hold what the text of the given code lays). -/
import Derived.Test.YthofbikhomnjpaaGreatDoorC0
import Derived.Test.YthofbikhomnjpaaGreatDoorL8
namespace Go.Proofs.YthofbikhomnjpaaGreatDoor
open Go.RowKit Go.ChangeShapes Go.WideShapes Go.ChangeAt
set_option linter.unusedVariables false
set_option linter.unusedSimpArgs false

set_option maxRecDepth 100000 in
theorem vecsBack_lifted (os : Os) (started : os.Started) (H : Type) (enc : TypeId × Value → H) :
    ReturnsInHanded {} Tryz.checked os 7 .any (fun w args => (Rows.vecsBackSpec.pre enc Tryz.prog Tryz.f7 [] false w args ∧ laidMetH Tryz.prog Rows.vecsBackRow.laid w) ∧ sizedMet enc Tryz.prog Tryz.f7 (OpenSpec.ofChange Rows.vecsBackSpec) false w args)
      (Rows.vecsBackSpec.post enc Tryz.prog Tryz.f7 false true false false) := by
  refine returnsInHanded_of_change_and (C := Tryz.checked) (X := fun w _ => laidMetH Tryz.prog Rows.vecsBackRow.laid w) (fun _ _ _ hh h => h.of_heap hh) own_knob started (by kernel_rfl) Tryz.func7
    (ChangeSpec.witness_shaped (enc := enc) (C := Tryz.checked) (os := os) (X := fun w _ => laidMetH Tryz.prog Rows.vecsBackRow.laid w) false (World.laidAll Tryz.prog os Rows.vecsBackRow.laid) #[.slice none 0 0, .slice none 0 0, .agg #[.bool false, .slice none 0 0, .slice none 0 0]] 8 (World.laidAll_os _ _ _)
      (World.shaped_of_ZipB (by kernel_rfl) (by kernel_rfl)) (by kernel_rfl) (by kernel_rfl) (by kernel_rfl)
      (by rw [MakeChecks.laidMetH_plain _ _ _ (by kernel_rfl)]; exact laidMet_laidAll _ (by kernel_rfl) (by kernel_rfl))) ?_
  intro W base args ds gs before hval0 hW _ hsz0 hL _
  have hval : ∀ (j : Nat) t v, Tryz.f7.params[j]? = some t → args[j]? = some v → Value.okWide Tryz.prog W .any base t v := hval0
  have hsz : (DataW.weightsEach Tryz.prog (Tryz.f7.params.toList ++ Rows.vecsBackSpec.plain.varTypes Tryz.prog) (ds ++ gs)).all (· ≤ reachBytes) = true := hsz0
  have hW' := hW
  obtain ⟨p, q, hA0, hV, rfl, _, _⟩ := hW
  have hA : DataW.TrodAll enc Tryz.prog W 0 (fun _ => true) true Tryz.f7.params.toList args.toList ds p := hA0
  rw [Tryz.params7] at hA hval hsz
  obtain ⟨v0, v1, v2, d0, d1, d2, p0, p1, p2, rfl, rfl, rfl, t0, t1, t2⟩ := trodAll_three hA
  obtain ⟨rfl, rfl⟩ := trodVars_none hV
  have w0 := weights_at hsz (j := 0) rfl rfl
  have w1 := weights_at hsz (j := 1) rfl rfl
  have w2 := weights_at hsz (j := 2) rfl rfl
  have hlt : ∀ x ∈ p0 ++ p1 ++ p2, x.block < W.heap.size := fun x hx => by simpa using hW'.lt x (by simpa using hx)
  have hlt0 : ∀ x ∈ p0, x.block < W.heap.size := fun x hx => hlt x (by simp [hx])
  have hlt1 : ∀ x ∈ p1, x.block < W.heap.size := fun x hx => hlt x (by simp [hx])
  have hlt2 : ∀ x ∈ p2, x.block < W.heap.size := fun x hx => hlt x (by simp [hx])
  obtain ⟨f0, f1, hu, -, -, -, -⟩ := two_fields under_rat
  obtain ⟨a0, len0, cap0, rfl⟩ := okWide_slice Tryz.underlying23 (hval 0 23 v0 rfl rfl)
  obtain ⟨a1, len1, cap1, rfl⟩ := okWide_slice Tryz.underlying23 (hval 1 23 v1 rfl rfl)
  obtain ⟨cs2, rfl, -⟩ := okWide_struct hu (hval 2 36 v2 rfl rfl)
  obtain ⟨n0, k0⟩ := id t0
  obtain ⟨A0, rs0, c0, e0, hc0, hR0⟩ := open_rats k0 w0
  have e0' : Value.slice a0 len0 cap0 = .slice A0 rs0.length c0 := by simpa [Value.cells] using e0
  obtain ⟨n1, k1⟩ := id t1
  obtain ⟨A1, rs1, c1, e1, hc1, hR1⟩ := open_rats k1 w1
  have e1' : Value.slice a1 len1 cap1 = .slice A1 rs1.length c1 := by simpa [Value.cells] using e1
  obtain ⟨n2, k2⟩ := id t2
  obtain ⟨x2, y2, z2, r2, e2, hR2⟩ := open_rat k2 w2
  have e2' : cs2 = #[x2, y2, z2] := by
    have : cs2.toList = [x2, y2, z2] := e2
    obtain ⟨l⟩ := cs2; simp at this; rw [this]
  rw [e0'] at t0 hW' ⊢
  rw [e1'] at t1 hW' ⊢
  subst e2'
  rw [MakeChecks.laidMetH_plain _ _ _ (by kernel_rfl)] at hL
  have hT : Tab W := tab_of_laid hL
  refine Calls.mono (backlaw_calls W A0 A1 c0 c1 rs0 rs1 _ r2 hR0 hR1 hc0 hc1 hR2 hT (Nat.le_refl _)) fun e W' ⟨he, hb⟩ => ?_
  subst he
  exact ⟨_, rfl, _, _, _, [], _, [], hW', trodAll_mk1 (shut_bool Tryz.underlying4 _),
    trodAll_mk3 (Below.trod laid_out (by kernel_rfl) (of_decide_eq_true (by kernel_rfl)) t0 hb hlt0) (Below.trod laid_out (by kernel_rfl) (of_decide_eq_true (by kernel_rfl)) t1 hb hlt1) (Below.trod laid_out (by kernel_rfl) (of_decide_eq_true (by kernel_rfl)) t2 hb hlt2), rfl, hb.frame _, fun h => by cases h⟩

theorem vecsBack_said : Rows.VecsBackSaid :=
  OpenClaim.holds_of_wide 7 Tryz.f7 rfl rfl rfl rfl rfl rfl rfl ⟨rfl, rfl, rfl, rfl, rfl⟩ rfl rfl rfl rfl rfl (by kernel_rfl) Tryz.func7 (by kernel_rfl)
    (of_decide_eq_true (by kernel_rfl)) (by unfold Func.isWrapper; first | (rw [if_pos (by decide +kernel)]; kernel_rfl) | (rw [if_neg (by decide +kernel)]; exact ⟨rfl, rfl⟩))
    (fun os started H enc _ => vecsBack_lifted os started H enc)

theorem vecsBack_holds : Rows.VecsBackCardSaid :=
  Claim7.holds_tied_plain_at .later [] [.data, .data, .pinned] true (true, "9c1496c2dff5c1ba7fa218225ecf03136108809d955def5611f7994313e4def3") false
    vecsBack_said (fun _ h => by cases h) (by kernel_rfl) (fun _ h => by cases h) vecsBack_row_tie rfl ⟨rfl, rfl⟩ (by kernel_rfl) rfl
    (fun f fn hf hfn => by
      obtain rfl : f = 7 := Option.some.inj ((show Tryz.prog.funcNamed "assayer/assayerlaw04.VecsBack" = some 7 by kernel_rfl).symm.trans hf) |>.symm
      obtain rfl : fn = Tryz.f7 := (Option.some.inj (Tryz.func7.symm.trans hfn)).symm
      exact ⟨by kernel_rfl, fun j t ht => by
        rw [Tryz.params7] at ht
        have hm : t ∈ ([23, 23, 36] : List TypeId) := by simpa using Array.mem_of_getElem? ht
        have hall : (([23, 23, 36] : List TypeId).all fun u => !Tryz.prog.wantsStandIn u) = true := by kernel_rfl
        exact (show Tryz.prog.wantsStandIn t = false by simpa using List.all_eq_true.1 hall t hm)⟩)
    (by kernel_rfl)
#print axioms vecsBack_holds

end Go.Proofs.YthofbikhomnjpaaGreatDoor

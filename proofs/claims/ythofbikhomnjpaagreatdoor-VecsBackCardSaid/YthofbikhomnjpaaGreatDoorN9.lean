import Derived.Test.YthofbikhomnjpaaGreatDoorN8
namespace Go.Proofs.YthofbikhomnjpaaGreatDoor
open Go.RowKit Go.Shelf
set_option linter.unusedVariables false
set_option linter.unusedSimpArgs false
attribute [local go_sem] Oper.semAt_some

def lastR (pre : List (Nat × Nat)) : Int := match pre.getLast? with | some p => if p.1 < p.2 then -1 else 1 | none => 0
theorem lastR_snoc (pre : List (Nat × Nat)) (x : Nat × Nat) : lastR (pre ++ [x]) = if x.1 < x.2 then -1 else 1 := by simp [lastR]
def allEq (pre : List (Nat × Nat)) : Prop := ∀ p, p ∈ pre → p.1 = p.2
def parts (pre : List (Nat × Nat)) : Prop := ∃ pre' x, pre = pre' ++ [x] ∧ allEq pre' ∧ x.1 ≠ x.2

theorem result_cell {fn : Func} {p : Tmp} {ty : TypeId} (h : fn.results = #[.cell p ty]) (tmps : Array Value) (w : World) (g : Nat) (t : TypeId) (v : Value)
    (hp : tmps.getD p undef = .pointer (some ⟨g, 0, none⟩)) (hg : Boxed w g t v) (hl : (loadVar ty ⟨g, 0, none⟩).run Tryz.prog w = .ok v w) : (results fn tmps).run Tryz.prog w = .ok v w := by
  have hp' : tmps[p]?.getD undef = .pointer (some ⟨g, 0, none⟩) := by simpa using hp
  simp [results, h, hp', asAddr, hl]

theorem load_int (w : World) (g : Nat) (v : Value) (hb : Boxed w g 3 v) : (loadVar 3 ⟨g, 0, none⟩).run Tryz.prog w = .ok v w := by
  have h := hb.cell
  simp [loadVar, isAgg, run_underlying Tryz.underlying3, go_sem, h]

theorem cmp_same {us vs : List Nat} {m : Nat} (hu : us.length ≤ m) (hv : vs.length ≤ m) (h : allEq (prs us vs m m)) : cmpN (val us) (val vs) = 0 := by
  have h1 := val_same (k := 0) hu hv (fun i _ hi => prs_same m (Nat.le_refl _) h i (by omega) hi)
  rw [List.drop_zero, List.drop_zero] at h1
  unfold cmpN
  rw [if_neg (by omega), if_pos h1]
theorem cmp_stop {us vs : List Nat} {m : Nat} (hsu : Small us) (hsv : Small vs) (hu : us.length ≤ m) (hv : vs.length ≤ m) {pre : List (Nat × Nat)} (hp : pre <+: prs us vs m m) (h : parts pre) : cmpN (val us) (val vs) = lastR pre := by
  obtain ⟨pre', x, rfl, he, hne⟩ := h
  have h1 := List.prefix_iff_eq_take.1 hp
  have hl : (pre' ++ [x]).length ≤ m := by have := hp.length_le; rwa [prs_length] at this
  rw [List.length_append, List.length_singleton] at h1 hl
  have h2 : (prs us vs m m).take (pre'.length + 1) = prs us vs m (pre'.length + 1) := by
    have h3 := List.prefix_iff_eq_take.1 (prs_prefix us vs m hl)
    rw [prs_length] at h3; exact h3.symm
  rw [h2, prs_succ] at h1
  have h4 := List.append_inj' h1 rfl
  have h5 : x = (el us (m - 1 - pre'.length), el vs (m - 1 - pre'.length)) := by simpa using h4.2
  rw [lastR_snoc]
  rw [h4.1] at he
  rw [h5] at hne ⊢
  simp only at hne ⊢
  rcases Nat.lt_or_ge (el us (m - 1 - pre'.length)) (el vs (m - 1 - pre'.length)) with h6 | h6
  · have := cmp_at hsu hsv hu hv (by omega) he h6
    rw [if_pos h6]; unfold cmpN; rw [if_pos this]
  · have := cmp_at hsv hsu hv hu (by omega) (prs_swap he) (by omega)
    rw [if_neg (by omega)]; unfold cmpN; rw [if_neg (by omega), if_neg (by omega)]

set_option maxRecDepth 100000 in
theorem cmp_calls (w : World) (A A' : Option Addr) (c c' : Nat) (xs ys : List Nat) (hx : Parts w A xs) (hy : Parts w A' ys) (hc : xs.length ≤ c) (hc' : ys.length ≤ c') :
    Calls Tryz.prog 80 #[.slice A xs.length c, .slice A' ys.length c'] w fun e w' => e = .returned (.int .i64 (cmpN (fval xs) (fval ys))) ∧ Below w.heap.size w w' := by
  have HFX := Lib.hid (val_fineL xs)
  have HFY := Lib.hid (val_fineL ys)
  have HX := Lib.hid hx
  have HY := Lib.hid hy
  clear hx hy
  refine (callsIn_wide (n := 9)).1 ?_
  refine callsIn_of_wp_marks Tryz.func80 rfl trivial ?_ rfl
  simp only [Tryz.ntmps80, List.size_toArray, List.length_cons, List.length_nil, Nat.reduceAdd, Nat.reduceSub, Array.replicate_succ, Array.replicate_zero, List.push_toArray, List.append_toArray, List.nil_append, List.cons_append]
  gi_wp2_with (fail)
  have hB0 : Below w.heap.size w (w.alloc (.cells #[.int .i64 0] 3)) := (Below.refl _ _).alloc (Nat.le_refl _) _
  refine ⟨trivial, ?_⟩
  refine (callsIn_wide.2 (fine_calls _ _ _ xs (HX.out.below hB0) hc)).mono ?_
  rintro e w1 ⟨A1, c1, rfl, hl1, hlc1, hp1, rfl⟩
  gi_wp2_with (fail)
  refine ⟨trivial, ?_⟩
  refine (callsIn_wide.2 (fine_calls _ _ _ ys (HY.out.below hB0) hc')).mono ?_
  rintro e w1 ⟨A2, c2, rfl, hl2, hlc2, hp2, rfl⟩
  gi_wp2_with (fail)
  refine ⟨trivial, ?_⟩
  refine (callsIn_wide.2 (pairs_calls _ _ _ _ _ _ _)).mono ?_
  rintro e w1 ⟨rfl, rfl⟩
  gi_wp2_with (fail)
  have hbx0 := Boxed.new w 3 (.int .i64 0)
  have hb1 : Boxed (((w.alloc (.cells #[.int .i64 0] 3)).alloc (.cells #[.slice A1 (fineL xs).length c1] 32)).alloc (.cells #[.slice A2 (fineL ys).length c2] 32)) w.heap.size 3 (.int .i64 0) := (hbx0.alloc _).alloc _
  have hb2 : (((w.alloc (.cells #[.int .i64 0] 3)).alloc (.cells #[.slice A1 (fineL xs).length c1] 32)).alloc (.cells #[.slice A2 (fineL ys).length c2] 32)).cell? ⟨w.heap.size + 1, 0, none⟩ = some (.slice A1 (fineL xs).length c1) := by
    have h := Boxed.new (w.alloc (.cells #[.int .i64 0] 3)) 32 (.slice A1 (fineL xs).length c1)
    rw [World.size_alloc] at h
    exact (h.alloc _).cell
  have hb3 : (((w.alloc (.cells #[.int .i64 0] 3)).alloc (.cells #[.slice A1 (fineL xs).length c1] 32)).alloc (.cells #[.slice A2 (fineL ys).length c2] 32)).cell? ⟨w.heap.size + 1 + 1, 0, none⟩ = some (.slice A2 (fineL ys).length c2) := by
    have h := Boxed.new ((w.alloc (.cells #[.int .i64 0] 3)).alloc (.cells #[.slice A1 (fineL xs).length c1] 32)) 32 (.slice A2 (fineL ys).length c2)
    rw [World.size_alloc, World.size_alloc] at h
    exact h.cell
  have hB1 : Below (w.alloc (.cells #[.int .i64 0] 3)).heap.size (w.alloc (.cells #[.int .i64 0] 3)) (((w.alloc (.cells #[.int .i64 0] 3)).alloc (.cells #[.slice A1 (fineL xs).length c1] 32)).alloc (.cells #[.slice A2 (fineL ys).length c2] 32)) := ((Below.refl _ _).alloc (Nat.le_refl _) _).alloc (by simp) _
  have hB2 : Below w.heap.size w (((w.alloc (.cells #[.int .i64 0] 3)).alloc (.cells #[.slice A1 (fineL xs).length c1] 32)).alloc (.cells #[.slice A2 (fineL ys).length c2] 32)) := (hB0.alloc (by simp) _).alloc (by simp; omega) _
  have hp3 := hp1.below hB1
  have hp4 := hp2.below hB1
  have hsz : w.heap.size < (((w.alloc (.cells #[.int .i64 0] 3)).alloc (.cells #[.slice A1 (fineL xs).length c1] 32)).alloc (.cells #[.slice A2 (fineL ys).length c2] 32)).heap.size := by simp; omega
  clear hp1 hp2 hB1 hbx0
  generalize ((w.alloc (.cells #[.int .i64 0] 3)).alloc (.cells #[.slice A1 (fineL xs).length c1] 32)).alloc (.cells #[.slice A2 (fineL ys).length c2] 32) = w3 at *
  generalize fineL xs = us at *
  generalize fineL ys = vs at *
  obtain ⟨m, hm⟩ : ∃ m : Nat, max (us.length : Int) (vs.length : Int) = (m : Int) := ⟨max us.length vs.length, by omega⟩
  refine wpIn_rangeFunc_ownF rfl (by omega) (gf := 119) (lb := #[.pointer (some ⟨w.heap.size + 1, 0, none⟩), .pointer (some ⟨w.heap.size + 1 + 1, 0, none⟩)]) rfl trivial (enters_of Tryz.func119 (by kernel_rfl) rfl)
    (pairs_stops 8 (by omega) (w.heap.size + 1) (w.heap.size + 1 + 1) A1 A2 c1 c2 us vs m hm w3 hb2 hb3 hp3 hp4) belowK_t (belowK_b (Nat.le_refl _)) (Below.refl _ _) (fun _ => rfl)
    (fun pre W => (Boxed W w.heap.size 3 (.int .i64 0) ∧ Below w.heap.size w W) ∧ allEq pre)
    (fun cd pre W => (Boxed W w.heap.size 3 (.int .i64 (lastR pre)) ∧ Below w.heap.size w W) ∧ (cd = .ret ∧ parts pre))
    ((((boxed_own w.heap.size 3 (fun _ => .int .i64 0)).from _).and (ownFrom_below (Nat.le_refl _) (by omega))).and (ownFrom_pure _ allEq))
    (fun cd => (((boxed_own w.heap.size 3 (fun pre => .int .i64 (lastR pre))).from _).and (ownFrom_below (Nat.le_refl _) (by omega))).and (ownFrom_pure _ (fun pre => cd = .ret ∧ parts pre)))
    ⟨⟨hb1, hB2⟩, fun p hp => by cases hp⟩
    (fun x => { tmps := #[.slice A xs.length c, .slice A' ys.length c', undef, undef, .pointer (some ⟨w.heap.size, 0, none⟩), .int .u64 ((x.1 : Nat) : Int), .int .u64 ((x.2 : Nat) : Int), .slice A xs.length c, .slice A1 us.length c1, .slice A' ys.length c', .slice A2 vs.length c2, .func (.func 119) #[] #[.pointer (some ⟨w.heap.size + 1, 0, none⟩), .pointer (some ⟨w.heap.size + 1 + 1, 0, none⟩)], .int .u64 ((x.1 : Nat) : Int), .int .u64 ((x.2 : Nat) : Int), undef, undef, undef, undef, undef, undef], defers := [] }) ?assign ?body ?done ?stop
  case assign =>
    intro l x W K hK
    gi_wp2
    exact hK
  case body =>
    rintro l pre x W ⟨⟨hbx, hbl⟩, heq⟩ hlen
    have hcell := hbx.cell
    have hfree := hbx.frozen
    have HBX := Lib.hid hbx
    have HEQ := Lib.hid heq
    clear hbx heq
    by_cases h1 : x.1 = x.2
    · have hb : (((x.1 : Nat) : Int) != ((x.2 : Nat) : Int)) = false := by rw [bne_eq_false_iff_eq]; omega
      have H1 := Lib.hid h1
      clear h1
      gi_wp2
      exact ⟨KeepsOthers.refl _, Below.refl _ _, ⟨HBX.out, hbl⟩, fun p hp => by
        rcases List.mem_append.1 hp with hp | hp
        · exact HEQ.out p hp
        · rw [List.mem_singleton] at hp; rw [hp]; exact H1.out⟩
    · have hb : (((x.1 : Nat) : Int) != ((x.2 : Nat) : Int)) = true := by rw [bne_iff_ne]; omega
      have H1 := Lib.hid h1
      clear h1
      by_cases h2 : x.1 < x.2
      · have hd : decide (x.1 < x.2) = true := decide_eq_true h2
        gi_wp2
        exact ⟨KeepsOthers.setCell _ _ _, ⟨by rw [lastR_snoc, if_pos h2]; exact HBX.out.set _, hbl.setCell (Nat.le_refl _) _⟩, rfl, pre, x, rfl, HEQ.out, H1.out⟩
      · have hd : decide (x.1 < x.2) = false := decide_eq_false h2
        have H2 := Lib.hid h2
        clear h2
        gi_wp2
        exact ⟨KeepsOthers.setCell _ _ _, ⟨by rw [lastR_snoc, if_neg H2.out]; exact HBX.out.set _, hbl.setCell (Nat.le_refl _) _⟩, rfl, pre, x, rfl, HEQ.out, H1.out⟩
  case done =>
    rintro D zs W hD hxs ⟨⟨hbx, hbl⟩, heq⟩ hK
    have hcell := hbx.cell
    have hfree := hbx.frozen
    have HBX := Lib.hid hbx
    have HEQ := Lib.hid heq
    have HZ := Lib.hid hxs
    clear hbx heq hxs
    gi_wp2
    have hK' : (W.setCell ⟨w.heap.size, 0, none⟩ (.int .i64 0)).heap[D]? = some (.deferred (some [])) := (KeepsOthers.setCell _ _ _).same D _ hK rfl
    refine ⟨by simp, .inl ⟨_, _, rfl, run_takeDeferred hK', ?_⟩⟩
    have hbx2 := (HBX.out.set (.int .i64 0)).kept (grownBy_putObj' (W.setCell ⟨w.heap.size, 0, none⟩ (.int .i64 0)) D (.deferred none)) (by simp; omega)
    refine ⟨_, result_cell rfl _ _ w.heap.size 3 _ rfl hbx2 (load_int _ _ _ hbx2), ?_, ?_⟩
    · have hz := HZ.out
      have h := HEQ.out
      rw [hz] at h
      rw [← HFX.out, ← HFY.out, cmp_same (by omega) (by omega) h]
    · exact (hbl.setCell (Nat.le_refl _) _).trans (belowK_b (w := w3) (by omega) _ D _ _ hD hK' rfl rfl)
  case stop =>
    rintro D cd pre W hD hpre ⟨⟨hbx, hbl⟩, rfl, hpt⟩ hK
    gi_wp2
    refine ⟨by simp, .inl ⟨_, _, rfl, run_takeDeferred hK, ?_⟩⟩
    have hbx2 := hbx.kept (grownBy_putObj' W D (.deferred none)) (by simp; omega)
    refine ⟨_, result_cell rfl _ _ w.heap.size 3 _ rfl hbx2 (load_int _ _ _ hbx2), ?_, ?_⟩
    · rw [← HFX.out, ← HFY.out, cmp_stop hp3.1 hp4.1 (by omega) (by omega) hpre hpt]
    · exact hbl.trans (belowK_b (w := w3) (by omega) _ D _ _ hD hK rfl rfl)

end Go.Proofs.YthofbikhomnjpaaGreatDoor

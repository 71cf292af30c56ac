import Derived.Test.YthofbikhomnjpaaGreatDoorV3
import Derived.Test.YthofbikhomnjpaaGreatDoorLong
namespace Go.Proofs.YthofbikhomnjpaaGreatDoor
open Go.RowKit
set_option linter.unusedVariables false
set_option linter.unusedSimpArgs false

theorem info_rat : (Tryz.prog.info? 36).map (fun i => (i.zero, i.size, i.bytes)) = some (some (.agg #[.bool false, .slice none 0 0, .slice none 0 0]), 3, 56) := by kernel_rfl

def agg3 (t : Value × Value × Value) : Value := .agg #[t.1, t.2.1, t.2.2]
def flat3 (ts : List (Value × Value × Value)) : List Value := ts.flatMap fun t => [t.1, t.2.1, t.2.2]
theorem flat3_snoc (ts : List (Value × Value × Value)) (t : Value × Value × Value) : flat3 (ts ++ [t]) = flat3 ts ++ [t.1, t.2.1, t.2.2] := by simp [flat3]
theorem flat3_length (ts : List (Value × Value × Value)) : (flat3 ts).length = 3 * ts.length := by
  induction ts with
  | nil => rfl
  | cons t ts ih => simp [flat3] at *; omega
theorem flat3_get (ts : List (Value × Value × Value)) (i : Nat) (h : i < ts.length) : (flat3 ts)[i * 3]? = some ts[i].1 ∧ (flat3 ts)[i * 3 + 1]? = some ts[i].2.1 ∧ (flat3 ts)[i * 3 + 2]? = some ts[i].2.2 := by
  induction ts generalizing i with
  | nil => exact absurd h (by simp)
  | cons t ts ih =>
    cases i with
    | zero => exact ⟨rfl, rfl, rfl⟩
    | succ i =>
      have h' : i < ts.length := by simpa using h
      obtain ⟨h1, h2, h3⟩ := ih i h'
      have e : flat3 (t :: ts) = t.1 :: t.2.1 :: t.2.2 :: flat3 ts := rfl
      rw [e, show (i + 1) * 3 = i * 3 + 3 by omega]
      exact ⟨h1, h2, h3⟩
/-- Each one in memory of its own. -/
def Owns (w : World) : List (Value × Value × Value) → List Rat → List Nat → Prop
  | [], [], bs => bs = []
  | t :: ts, q :: qs, bs => ∃ b1 b2, bs = b1 ++ b2 ∧ OwnQ w (agg3 t) q b1 ∧ Owns w ts qs b2
  | _, _, _ => False
theorem Owns.snoc {w : World} {ts : List (Value × Value × Value)} {qs : List Rat} {bs : List Nat} (h : Owns w ts qs bs) {t : Value × Value × Value} {q : Rat} {b : List Nat} (hq : OwnQ w (agg3 t) q b) : Owns w (ts ++ [t]) (qs ++ [q]) (bs ++ b) := by
  induction ts generalizing qs bs with
  | nil =>
    cases qs with
    | nil => obtain rfl := h; exact ⟨b, [], by simp, hq, rfl⟩
    | cons => exact h.elim
  | cons t' ts ih =>
    cases qs with
    | nil => exact h.elim
    | cons q' qs =>
      obtain ⟨b1, b2, rfl, h1, h2⟩ := h
      exact ⟨b1, b2 ++ b, by simp, h1, ih h2⟩
theorem Owns.map {w w' : World} (hm : ∀ v q b, OwnQ w v q b → OwnQ w' v q b) {ts : List (Value × Value × Value)} {qs : List Rat} {bs : List Nat} (h : Owns w ts qs bs) : Owns w' ts qs bs := by
  induction ts generalizing qs bs with
  | nil => cases qs with
    | nil => exact h
    | cons => exact h.elim
  | cons t' ts ih =>
    cases qs with
    | nil => exact h.elim
    | cons q' qs =>
      obtain ⟨b1, b2, rfl, h1, h2⟩ := h
      exact ⟨b1, b2, rfl, hm _ _ _ h1, ih h2⟩
theorem Owns.length {w : World} {ts : List (Value × Value × Value)} {qs : List Rat} {bs : List Nat} (h : Owns w ts qs bs) : ts.length = qs.length := by
  induction ts generalizing qs bs with
  | nil => cases qs with
    | nil => rfl
    | cons => exact h.elim
  | cons t' ts ih =>
    cases qs with
    | nil => exact h.elim
    | cons q' qs =>
      obtain ⟨b1, b2, rfl, h1, h2⟩ := h
      simp [ih h2]
theorem Owns.get {w : World} {ts : List (Value × Value × Value)} {qs : List Rat} {bs : List Nat} (h : Owns w ts qs bs) (i : Nat) (hi : i < ts.length) : ∃ b, OwnQ w (agg3 ts[i]) (qs.getD i 0) b := by
  induction ts generalizing qs bs i with
  | nil => exact absurd hi (by simp)
  | cons t' ts ih =>
    cases qs with
    | nil => exact h.elim
    | cons q' qs =>
      obtain ⟨b1, b2, rfl, h1, h2⟩ := h
      cases i with
      | zero => exact ⟨b1, h1⟩
      | succ i => exact ih h2 i (by simpa using hi)
/-- A list of fractions in memory of its own. -/
def OwnV (n₀ : Nat) (w : World) (v : Value) (qs : List Rat) (bs : List Nat) : Prop := ∃ ts, w.ownsRow n₀ 36 3 v qs.length (flat3 ts) ∧ Owns w ts qs bs ∧ Fresh n₀ w bs
theorem OwnV.low {n₀ n₁ : Nat} {w : World} {v : Value} {qs : List Rat} {bs : List Nat} (h : OwnV n₁ w v qs bs) (hn : n₀ ≤ n₁) : OwnV n₀ w v qs bs := by
  obtain ⟨ts, h1, h2, h3⟩ := h
  exact ⟨ts, own_lower h1 hn, h2, h3.low hn⟩
theorem OwnV.nil (n₀ : Nat) (w : World) : OwnV n₀ w (.slice none 0 0) [] [] := ⟨[], World.ownsRow_nil _ _ _ _, rfl, fresh_nil _ _⟩
theorem row_typed {w : World} {n₀ : Nat} {e : TypeId} {size n : Nat} {v : Value} {xs : List Value} (h : w.ownsRow n₀ e size v n xs) (g : Nat) (hg : v.ownBlock = some g) : n₀ ≤ g ∧ ∃ cur, w.heap[g]? = some (.cells cur e (0, 0)) := by
  rcases h.2 with ⟨rfl, _⟩ | ⟨g', cap, cur, rfl, hb, hh, _⟩
  · simp [Value.ownBlock] at hg
  · obtain rfl : g' = g := by simpa [Value.ownBlock] using hg
    exact ⟨hb, cur, hh⟩
theorem Own.typed {w : World} {v : Value} {n : Nat} {bs : List Nat} (h : Own w v n bs) (b : Nat) (hb : b ∈ bs) : ∃ cur, w.heap[b]? = some (.cells cur 62 (0, 0)) := by
  rcases h with ⟨g, c, cur, h1, rfl, hh, r⟩ | ⟨_, _, rfl⟩
  · rw [List.mem_singleton] at hb; subst hb; exact ⟨cur, hh⟩
  · cases hb
/-- What is made of another kind leaves a number where it lies. -/
theorem Own.grown {w w' : World} {row : Option Nat} {v : Value} {n : Nat} {bs : List Nat} (h : Own w v n bs) (hg : w.grownBy w' row) (hr : ∀ g, row = some g → ∃ cur t, w.heap[g]? = some (.cells cur t (0, 0)) ∧ t ≠ 62) : Own w' v n bs :=
  h.move fun b hb => by
    obtain ⟨cur, hc⟩ := h.typed b hb
    refine hg.block b (Array.getElem?_eq_some_iff.1 hc).1 fun e => ?_
    obtain ⟨cur', t, h1, h2⟩ := hr b e.symm
    rw [hc] at h1
    cases h1
    exact h2 rfl
theorem OwnQ.grown {w w' : World} {row : Option Nat} {v : Value} {q : Rat} {bs : List Nat} (h : OwnQ w v q bs) (hg : w.grownBy w' row) (hr : ∀ g, row = some g → ∃ cur t, w.heap[g]? = some (.cells cur t (0, 0)) ∧ t ≠ 62) : OwnQ w' v q bs := by
  obtain ⟨s, s', b1, b2, h1, h2, h3, h4⟩ := h
  exact ⟨s, s', b1, b2, h1, h2, h3.grown hg hr, h4.grown hg hr⟩
theorem OwnV.below {n₀ : Nat} {w w' : World} {v : Value} {qs : List Rat} {bs : List Nat} (h : OwnV n₀ w v qs bs) (hb : Below w.heap.size w w') : OwnV n₀ w' v qs bs := by
  obtain ⟨ts, h1, h2, h3⟩ := h
  refine ⟨ts, h1.kept (row := none) ⟨hb.os, hb.tape, hb.output, hb.size, fun k hk _ => hb.block k hk⟩ ?_, h2.map (fun v q b h => h.below hb), h3.up hb.size⟩
  cases v.ownBlock <;> simp
theorem OwnV.length {n₀ : Nat} {w : World} {v : Value} {qs : List Rat} {bs : List Nat} (h : OwnV n₀ w v qs bs) : ∃ ts, w.ownsRow n₀ 36 3 v qs.length (flat3 ts) := by
  obtain ⟨ts, h1, h2, h3⟩ := h; exact ⟨ts, h1⟩
/-- One more, by append. -/
theorem OwnV.app {n₀ : Nat} {W w1 : World} {v v' : Value} {qs : List Rat} {bs : List Nat} {ts : List (Value × Value × Value)} {t : Value × Value × Value} {q : Rat} {b : List Nat} {tmp : Obj}
    (ho : Owns W ts qs bs) (hrow : W.ownsRow n₀ 36 3 v qs.length (flat3 ts)) (hf : Fresh n₀ W bs) (hq : OwnQ W (agg3 t) q b) (hfb : Fresh n₀ W (bs ++ b))
    (hown : w1.ownsRow n₀ 36 3 v' (qs.length + 1) (flat3 ts ++ [t.1, t.2.1, t.2.2])) (hgrow : (W.alloc tmp).grownBy w1 v.ownBlock) : OwnV n₀ w1 v' (qs ++ [q]) (bs ++ b) := by
  have hr : ∀ g, v.ownBlock = some g → ∃ cur t, (W.alloc tmp).heap[g]? = some (.cells cur t (0, 0)) ∧ t ≠ 62 := fun g hg => by
    obtain ⟨_, cur, hc⟩ := row_typed (hrow.alloc tmp) g hg
    exact ⟨cur, _, hc, by decide⟩
  have hb : Below W.heap.size W (W.alloc tmp) := (Below.refl _ _).alloc (Nat.le_refl _) _
  refine ⟨ts ++ [t], by rw [flat3_snoc, List.length_append]; exact hown, (ho.map fun v q b h => (h.below hb).grown hgrow hr).snoc ((hq.below hb).grown hgrow hr), ?_⟩
  exact hfb.up (Nat.le_trans hb.size hgrow.size)
theorem OwnV.reads {n₀ : Nat} {w : World} {v : Value} {qs : List Rat} {bs : List Nat} (h : OwnV n₀ w v qs bs) (hl : qs.length ≤ 2513169434900) (B : Nat) : ∃ A c, v = .slice A qs.length c ∧ qs.length ≤ c ∧ RatsAt B w A (qs.map rawOf) := by
  obtain ⟨ts, h1, h2, h3⟩ := h
  have hln := h2.length
  rcases h1.2 with ⟨rfl, h0⟩ | ⟨g, cap, cur, rfl, hb, hh, hc, hm, hsz, htk⟩
  · have : qs = [] := List.eq_nil_of_length_eq_zero h0
    subst this
    exact ⟨none, 0, rfl, Nat.le_refl _, RatsAt.nil _ _ _⟩
  · refine ⟨_, cap, rfl, hc, by rw [List.length_map]; exact hl, fun hp => ⟨g, 0, rfl, .inr ⟨cur, hh⟩, fun i hi => ?_⟩⟩
    rw [List.length_map] at hi
    have hi' : i < ts.length := by omega
    obtain ⟨e1, e2, e3⟩ := flat3_get ts i hi'
    rw [← htk] at e1 e2 e3
    have cl : ∀ k u, (cur.toList.take (qs.length * 3))[k]? = some u → w.cell? ⟨g, k, none⟩ = some u := fun k u hk => by
      rw [List.getElem?_take] at hk
      split at hk
      · rw [cell_of_row w g k _ _ _ hh, ← Array.getElem?_toList, hk]
      · cases hk
    refine ⟨agg3 ts[i], ⟨_, _, _, rfl, by rw [Nat.zero_add]; exact cl _ _ e1, by rw [Nat.zero_add]; exact cl _ _ e2, by rw [Nat.zero_add]; exact cl _ _ e3⟩, ?_⟩
    obtain ⟨b, hq⟩ := h2.get i hi'
    have := hq.reads B
    unfold raw
    rw [List.getD_eq_getElem?_getD, List.getElem?_map]
    rw [List.getD_eq_getElem?_getD] at this
    rw [List.getElem?_eq_getElem hi] at this ⊢
    exact this
theorem OwnV.len63 {n₀ : Nat} {w : World} {v : Value} {qs : List Rat} {bs : List Nat} (h : OwnV n₀ w v qs bs) : v = .slice none 0 0 ∨ ∃ g c, v = .slice (some ⟨g, 0, none⟩) qs.length c := by
  obtain ⟨ts, h1, h2, h3⟩ := h
  rcases h1.2 with ⟨rfl, h0⟩ | ⟨g, cap, cur, rfl, hb, hh, hc, hm, hsz, htk⟩
  · exact .inl rfl
  · exact .inr ⟨g, cap, rfl⟩
theorem three_news {w : World} {g : Nat} {t : TypeId} {a b c : Value} (h : Box w g t #[a, b, c]) (j : Nat) (u : Value) (hu : ([a, b, c] : List Value)[j]? = some u) : w.cell? (Addr.add ⟨g, 0, none⟩ j) = some u := by
  have : (Addr.add ⟨g, 0, none⟩ j) = ⟨g, j, none⟩ := by rw [Addr.add_lit, Nat.zero_add]
  rw [this, h.cell j]
  match j, hu with
  | 0, hu => exact hu
  | 1, hu => exact hu
  | 2, hu => exact hu
  | (j + 3), hu => simp at hu
theorem three_one (x : Bool) (A A' : Option Addr) (n c n' c' : Nat) : ∀ u ∈ [Value.bool x, .slice A n c, .slice A' n' c'], u.oneCell' = true := by
  intro u hu
  simp at hu
  rcases hu with rfl | rfl | rfl <;> rfl

/-- Each one so many times. -/
def scaleQ (rs : List Raw) (q : Rat) (j : Nat) : List Rat := (List.range j).map fun i => (raw rs i).q * q
theorem scaleQ_succ (rs : List Raw) (q : Rat) (j : Nat) : scaleQ rs q (j + 1) = scaleQ rs q j ++ [(raw rs j).q * q] := by
  unfold scaleQ; rw [List.range_succ, List.map_append]; rfl
theorem scaleQ_length (rs : List Raw) (q : Rat) (j : Nat) : (scaleQ rs q j).length = j := by simp [scaleQ]

set_option maxRecDepth 100000 in
set_option maxHeartbeats 4000000 in
theorem scale_calls (w : World) (A : Option Addr) (c : Nat) (rs : List Raw) (vq : Value) (r : Raw) (K : Nat) {B : Nat} (h : RatsAt B w A rs) (hc : rs.length ≤ c) (hq : RawAt B w vq r) (hT : Tab w) (hK : allLe K rs) (hk : r.le K) (hK1 : 1 ≤ K) (hKs : K ≤ 1099511627776) (hBw : B ≤ w.heap.size) :
    Calls Tryz.prog 24 #[.slice A rs.length c, vq] w fun e w' => ∃ v bs, e = .returned v ∧ OwnV w.heap.size w' v (scaleQ rs r.q rs.length) bs ∧ Below w.heap.size w w' := by
  have hl := h.1
  obtain ⟨D, d, D', d', rfl, -, -, -, -⟩ := id hq
  have H := Lib.hid h
  have HQ := Lib.hid hq
  have HT := Lib.hid hT
  have HK := Lib.hid hK
  clear h hq hT hK
  obtain ⟨i0, hi, hz0, hz1, hz2⟩ := info_parts info_rat
  obtain ⟨w3, h3, hB, b0⟩ := boxes1 w 36 #[.bool r.neg, .slice D r.xs.length d, .slice D' r.ys.length d']
  have H3 := Lib.hid h3
  have B0 := Lib.hid b0
  have hs3 := hB.size
  have hlt0 := b0.lt
  clear h3 b0
  go_enter Tryz.func24, Tryz.ntmps24
  go_wp2_with fail
  rw [← H3.out]
  go_loopw [4, 9] (fun v n wr => ∃ (j : Nat) (bs : List Nat), j ≤ rs.length ∧ n = .int .i64 j ∧ Below w.heap.size w wr ∧ Hid (OwnV (w.heap.size + 1) wr v (scaleQ rs r.q j) bs) ∧ Hid (Box wr w.heap.size 36 #[.bool r.neg, .slice D r.xs.length d, .slice D' r.ys.length d'])) (fun v n _ => rs.length - (intOf n).toNat)
  case atStart => exact ⟨0, [], by omega, rfl, hB, OwnV.nil _ _, B0.out⟩
  case round =>
    clear B0 hB
    obtain ⟨j, bs, hj, rfl, hb, HO, B0⟩ := hrel
    by_cases hlt : j < rs.length
    · obtain ⟨b, o, A1, d1, A2, d2, rfl, k1, k2, k3, -, k4⟩ := H.out.val hlt hb
      have K4 := Lib.hid k4
      clear k4
      (((try clear B0c1 B0c2 B0c3 B0c4 B0c5 B0c6); obtain ⟨B0c1, B0c2, B0c3, B0c4, B0c5, B0c6⟩ := Box.three (Hid.out B0)))
      have hsb := hb.size
      have hbl := B0.out.lt
      go_wp2_with fail
      have hg1 : Below wr.heap.size wr (wr.alloc (.cells #[.bool (raw rs j).neg, .slice A1 (raw rs j).xs.length d1, .slice A2 (raw rs j).ys.length d2] 36)) := by ((repeat (first | assumption | exact Below.refl _ _ | refine Below.drew ?_ | refine below_drewN ?_ _ | refine Below.alloc' ?_ _ | refine Below.setCell ?_ (by first | omega | (dsimp only; omega) | (simp; done) | (simp; omega)) _ | refine Below.alloc ?_ (by first | assumption | exact Nat.le_refl _ | omega | (simp; done) | (simp; omega)) _)))
      refine (rmul_calls _ _ _ (raw rs j) r K (B := B) (K4.out.below hg1) ((HQ.out.below hb).below hg1) ((HT.out.below hb).below hg1) (HK.out j hlt) hk hKs hK1 (by simp; omega)).mono ?_
      rintro e w7 ⟨v7, b7, rfl, hO7, hF7, hB7⟩
      obtain ⟨A7, c7, A7', c7', rfl, -, -, -, -⟩ := id (hO7.reads B)
      have hF7' := hF7.low hg1.size
      have J7 : Hid (Fresh (w.heap.size + 1) w7 (bs ++ b7)) := by
        obtain ⟨_, _, _, o3⟩ := HO.out
        exact o3.join hF7' (Nat.le_trans hg1.size hB7.size) (by omega)
      have hB7' := Below.on hg1 hB7
      obtain ⟨ts, o1, o2, o3⟩ := HO.out.below hB7'
      have O1 := Lib.hid o1
      have O2 := Lib.hid o2
      have O3 := Lib.hid o3
      have O7 := Lib.hid hO7
      have F7 := Lib.hid hF7'
      have hln := scaleQ_length rs r.q j
      rw [hln] at O1
      clear o1 o2 o3 hO7 hF7 hF7' HO
      ((replace B0 := Lib.hid (Box.below (Box.below (Hid.out B0) (by ((repeat (first | assumption | exact Below.refl _ _ | refine Below.drew ?_ | refine below_drewN ?_ _ | refine Below.alloc' ?_ _ | refine Below.setCell ?_ (by first | omega | (dsimp only; omega) | (simp; done) | (simp; omega)) _ | refine Below.alloc ?_ (by first | assumption | exact Nat.le_refl _ | omega | (simp; done) | (simp; omega)) _))))) hB7); (try clear B0c1 B0c2 B0c3 B0c4 B0c5 B0c6); obtain ⟨B0c1, B0c2, B0c3, B0c4, B0c5, B0c6⟩ := Box.three (Hid.out B0); have := Box.lt (Hid.out B0)))
      ((replace hb := Below.on (Below.on hb (by ((repeat (first | assumption | exact Below.refl _ _ | refine Below.drew ?_ | refine below_drewN ?_ _ | refine Below.alloc' ?_ _ | refine Below.setCell ?_ (by first | omega | (dsimp only; omega) | (simp; done) | (simp; omega)) _ | refine Below.alloc ?_ (by first | assumption | exact Nat.le_refl _ | omega | (simp; done) | (simp; omega)) _))))) hB7; have := Below.size hb))
      go_wp2_with (at_builtin; refine wpList_append_own_at _ rfl _ _ 23 rfl (w.heap.size + 1) 36 i0 (.agg #[.bool false, .slice none 0 0, .slice none 0 0]) 3 56 Tryz.underlying23 hi hz0 hz1 hz2 rfl (by decide) u4 j (flat3 ts) rfl (O1.out.alloc _) ⟨w7.heap.size, 0, none⟩ 1 1 [.bool (decide (((raw rs j).q * r.q).num < 0)), .slice A7 (digs ((raw rs j).q * r.q).num.natAbs).length c7, .slice A7' (digs ((raw rs j).q * r.q).den).length c7'] rfl rfl (three_news (Box.new _ _ _)) (three_one _ _ _ _ _ _ _) (by simp only [maxLen]; omega) (by omega) (by simp; omega) ?_; intro v' w2 hown' hgrow hnil hat)
      have hrow : ∀ k, u4.ownBlock = some k → w.heap.size + 1 ≤ k := fun k hk => (row_typed O1.out k hk).1
      have HB2 : Hid (Below w.heap.size w w2) := (Below.alloc' hb _).grown hgrow (by simp; omega) (fun k hk => by have := hrow k hk; omega)
      have HX2 : Hid (Box w2 w.heap.size 36 #[.bool r.neg, .slice D r.xs.length d, .slice D' r.ys.length d']) := (hgrow.block w.heap.size (by simp; omega) (fun e => by have := hrow _ e.symm; omega)).trans (B0.out.alloc _)
      have HV2 : Hid (OwnV (w.heap.size + 1) w2 v' (scaleQ rs r.q (j + 1)) (bs ++ b7)) := by
        rw [scaleQ_succ]
        exact OwnV.app (t := (.bool (decide (((raw rs j).q * r.q).num < 0)), .slice A7 (digs ((raw rs j).q * r.q).num.natAbs).length c7, .slice A7' (digs ((raw rs j).q * r.q).den).length c7')) O2.out (by rw [hln]; exact O1.out) O3.out O7.out J7.out (by rw [hln]; exact hown') hgrow
      go_roundw
      case rel => exact ⟨j + 1, bs ++ b7, by omega, rfl, HB2.out, HV2.out, HX2.out⟩
      case measure => simp [intOf]; omega
    · have hjn : j = rs.length := by omega
      subst hjn
      go_wp2_with fail
      go_ret
      exact ⟨_, bs, rfl, HO.out.low (by omega), hb⟩

set_option maxRecDepth 100000 in
set_option maxHeartbeats 4000000 in
theorem zero_calls (w : World) (n : Int) (hn : n ≤ 65536) (h0 : -9223372036854775808 ≤ n) :
    Calls Tryz.prog 28 #[.int .i64 n] w fun e w' => ∃ v bs, e = .returned v ∧ OwnV w.heap.size w' v (List.replicate n.toNat 0) bs ∧ Below w.heap.size w w' := by
  obtain ⟨i0, hi, hz0, hz1, hz2⟩ := info_parts info_rat
  go_enter Tryz.func28, Tryz.ntmps28
  go_wp2_with fail
  go_loopw [2, 3] (fun v i wr => ∃ (j : Nat) (bs : List Nat), (j : Int) ≤ max n 0 ∧ i = .int .i64 j ∧ Below w.heap.size w wr ∧ Hid (OwnV w.heap.size wr v (List.replicate j 0) bs)) (fun v i _ => n.toNat - (intOf i).toNat)
  case atStart => exact ⟨0, [], by omega, rfl, Below.refl _ _, OwnV.nil _ _⟩
  case round =>
    obtain ⟨j, bs, hj, rfl, hb, HO⟩ := hrel
    by_cases hlt : (j : Int) < n
    · have hsb := hb.size
      go_wp2_with fail
      refine (rofn_calls _ 0 (by decide) (by decide)).mono ?_
      rintro e w7 ⟨v7, b7, rfl, hO7, hF7, hB7⟩
      obtain ⟨A7, c7, A7', c7', rfl, -, -, -, -⟩ := id (hO7.reads 0)
      have J7 : Hid (Fresh w.heap.size w7 (bs ++ b7)) := by
        obtain ⟨_, _, _, o3⟩ := HO.out
        exact o3.join hF7 hB7.size (by omega)
      obtain ⟨ts, o1, o2, o3⟩ := HO.out.below hB7
      have O1 := Lib.hid o1
      have O2 := Lib.hid o2
      have O3 := Lib.hid o3
      have O7 := Lib.hid hO7
      have hln : (List.replicate j (0 : Rat)).length = j := List.length_replicate
      rw [hln] at O1
      clear o1 o2 o3 hO7 hF7 HO
      ((replace hb := Below.on (Below.on hb (by ((repeat (first | assumption | exact Below.refl _ _ | refine Below.drew ?_ | refine below_drewN ?_ _ | refine Below.alloc' ?_ _ | refine Below.setCell ?_ (by first | omega | (dsimp only; omega) | (simp; done) | (simp; omega)) _ | refine Below.alloc ?_ (by first | assumption | exact Nat.le_refl _ | omega | (simp; done) | (simp; omega)) _))))) hB7; have := Below.size hb))
      go_wp2_with (at_builtin; refine wpList_append_own_at _ rfl _ _ 23 rfl w.heap.size 36 i0 (.agg #[.bool false, .slice none 0 0, .slice none 0 0]) 3 56 Tryz.underlying23 hi hz0 hz1 hz2 rfl (by decide) u2 j (flat3 ts) rfl (O1.out.alloc _) ⟨w7.heap.size, 0, none⟩ 1 1 [.bool (rawOf ((0 : Int) : Rat)).neg, .slice A7 (rawOf ((0 : Int) : Rat)).xs.length c7, .slice A7' (rawOf ((0 : Int) : Rat)).ys.length c7'] rfl rfl (three_news (Box.new _ _ _)) (three_one _ _ _ _ _ _ _) (by simp only [maxLen]; omega) (by omega) (by simp; omega) ?_; intro v' w2 hown' hgrow hnil hat)
      have hrow : ∀ k, u2.ownBlock = some k → w.heap.size ≤ k := fun k hk => (row_typed O1.out k hk).1
      have HB2 : Hid (Below w.heap.size w w2) := (Below.alloc' hb _).grown hgrow (by simp; omega) (fun k hk => by have := hrow k hk; omega)
      have HV2 : Hid (OwnV w.heap.size w2 v' (List.replicate (j + 1) 0) (bs ++ b7)) := by
        rw [List.replicate_succ']
        exact OwnV.app (t := (.bool (rawOf ((0 : Int) : Rat)).neg, .slice A7 (rawOf ((0 : Int) : Rat)).xs.length c7, .slice A7' (rawOf ((0 : Int) : Rat)).ys.length c7')) O2.out (by rw [hln]; exact O1.out) O3.out O7.out J7.out (by rw [hln]; exact hown') hgrow
      go_roundw
      case rel => exact ⟨j + 1, bs ++ b7, by omega, rfl, HB2.out, HV2.out⟩
      case measure => simp [intOf]; omega
    · have hjn : j = n.toNat := by omega
      go_wp2_with fail
      go_ret
      rw [← hjn]
      first | exact ⟨_, bs, rfl, HO.out, hb⟩ | exact ⟨_, rfl, ⟨bs, HO.out⟩, hb⟩

end Go.Proofs.YthofbikhomnjpaaGreatDoor

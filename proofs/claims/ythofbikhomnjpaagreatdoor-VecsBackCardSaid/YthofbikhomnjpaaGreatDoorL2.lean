import Derived.Test.YthofbikhomnjpaaGreatDoorL1
namespace Go.Proofs.YthofbikhomnjpaaGreatDoor
open Go.RowKit
set_option linter.unusedVariables false
set_option linter.unusedSimpArgs false

/-- A list of fractions, each of which may be, by value. -/
def VecOf (B : Nat) (w : World) (v : Value) (qs : List Rat) : Prop := ∃ A c, v = .slice A qs.length c ∧ qs.length ≤ c ∧ RatsAt B w A (qs.map rawOf)
theorem VecOf.below {B : Nat} {w w' : World} {v : Value} {qs : List Rat} (h : VecOf B w v qs) (hb : Below w.heap.size w w') : VecOf B w' v qs := by
  obtain ⟨A, c, h1, h2, h3⟩ := h; exact ⟨A, c, h1, h2, h3.below hb⟩
theorem OwnV.vec {n₀ : Nat} {w : World} {v : Value} {qs : List Rat} {bs : List Nat} (h : OwnV n₀ w v qs bs) (hl : qs.length ≤ 2513169434900) (B : Nat) : VecOf B w v qs := h.reads hl B
theorem raw_map {qs : List Rat} {i : Nat} (hi : i < qs.length) : raw (qs.map rawOf) i = rawOf (qs.getD i 0) := by
  unfold raw
  rw [List.getD_eq_getElem?_getD, List.getElem?_map, List.getD_eq_getElem?_getD, List.getElem?_eq_getElem hi]
  rfl
theorem allOk_map (qs : List Rat) : allOk (qs.map rawOf) = true := by
  unfold allOk
  rw [List.all_eq_true]
  intro x hx
  obtain ⟨q, _, rfl⟩ := List.mem_map.1 hx
  exact rawOf_ok q
/-- All are of so many parts at most. -/
def FitsAll (K : Nat) (qs : List Rat) : Prop := ∀ q, q ∈ qs → Fits K q
theorem FitsAll.le {K : Nat} {qs : List Rat} (h : FitsAll K qs) : allLe K (qs.map rawOf) := fun i hi => by
  rw [List.length_map] at hi
  rw [raw_map hi, List.getD_eq_getElem?_getD, List.getElem?_eq_getElem hi]
  exact h _ (List.getElem_mem hi)
theorem FitsAll.mono {K L : Nat} {qs : List Rat} (h : FitsAll K qs) (hl : K ≤ L) : FitsAll L qs := fun q hq => (h q hq).mono hl
/-- What may be is its value. -/
theorem map_ok {rs : List Raw} (hs : ∀ i, i < rs.length → (raw rs i).small) (h : allOk rs = true) : (rs.map Raw.q).map rawOf = rs := by
  refine List.ext_getElem (by simp) fun i h1 h2 => ?_
  have hi := (allOk_iff rs).1 h i h2
  have hr : raw rs i = rs[i] := by unfold raw; rw [List.getD_eq_getElem?_getD, List.getElem?_eq_getElem h2]; rfl
  have hsm := hs i h2
  rw [hr] at hi hsm
  simp only [List.getElem_map]
  exact (Raw.eq_rawOf hsm hi).symm
theorem RatsAt.vec {B : Nat} {w : World} {A : Option Addr} {rs : List Raw} {c : Nat} (h : RatsAt B w A rs) (hc : rs.length ≤ c) (ho : allOk rs = true) : VecOf B w (.slice A rs.length c) (rs.map Raw.q) := by
  have := map_ok (fun i hi => h.small hi) ho
  exact ⟨A, c, by rw [List.length_map], by rw [List.length_map]; exact hc, by rw [this]; exact h⟩
theorem fits_map {rs : List Raw} {K : Nat} (hs : ∀ i, i < rs.length → (raw rs i).small) (h : allLe K rs) (hK : 1 ≤ K) : FitsAll K (rs.map Raw.q) := by
  intro q hq
  obtain ⟨r, hr, rfl⟩ := List.mem_map.1 hq
  obtain ⟨i, hi, rfl⟩ := List.getElem_of_mem hr
  have e : raw rs i = rs[i] := by unfold raw; rw [List.getD_eq_getElem?_getD, List.getElem?_eq_getElem hi]; rfl
  have h1 := hs i hi
  have h2 := h i hi
  rw [e] at h1 h2
  exact Raw.q_le h1 h2 hK

theorem finRange_range (n : Nat) : (List.finRange n).map (fun i => i.1) = List.range n := by
  refine List.ext_getElem (by simp) fun i h1 h2 => by simp
/-- The sum of the products, place by place. -/
def dotR (ps qs : List Rat) : Rat := (List.range ps.length).foldl (fun s i => s + ps.getD i 0 * qs.getD i 0) 0
theorem dotQ_eq {ps qs : List Rat} (h : ps.length = qs.length) : dotQ (m := (ps.map rawOf).length) (ps.map rawOf) (qs.map rawOf) (List.finRange (ps.map rawOf).length) = dotR ps qs := by
  unfold dotQ dotR
  have e : List.range ps.length = (List.finRange (ps.map rawOf).length).map (fun i => i.1) := by rw [finRange_range, List.length_map]
  rw [e, List.foldl_map]
  congr 1
  funext s i
  have hi : i.1 < ps.length := Nat.lt_of_lt_of_eq i.2 (List.length_map ..)
  rw [raw_map hi, raw_map (by omega), rawOf_q, rawOf_q]
/-- Each one, and so many times the other. -/
def addR (ps qs : List Rat) (q : Rat) : List Rat := (List.range ps.length).map fun i => ps.getD i 0 + qs.getD i 0 * q
theorem addQ_eq {ps qs : List Rat} {q : Rat} (h : ps.length = qs.length) : addQ (m := (ps.map rawOf).length) (ps.map rawOf) (qs.map rawOf) q (List.finRange (ps.map rawOf).length) = addR ps qs q := by
  unfold addQ addR
  have e : List.range ps.length = (List.finRange (ps.map rawOf).length).map (fun i => i.1) := by rw [finRange_range, List.length_map]
  rw [e, List.map_map]
  refine List.map_congr_left fun i _ => ?_
  have hi : i.1 < ps.length := Nat.lt_of_lt_of_eq i.2 (List.length_map ..)
  show (raw (ps.map rawOf) i.1).q + (raw (qs.map rawOf) i.1).q * q = _
  rw [raw_map hi, raw_map (by omega), rawOf_q, rawOf_q]
  rfl
theorem addR_length (ps qs : List Rat) (q : Rat) : (addR ps qs q).length = ps.length := by simp [addR]
theorem scaleQ_eq (ps : List Rat) (q : Rat) : scaleQ (ps.map rawOf) q (ps.map rawOf).length = ps.map (· * q) := by
  unfold scaleQ
  rw [List.length_map]
  refine List.ext_getElem (by simp) fun i h1 h2 => ?_
  have hi : i < ps.length := by simpa using h1
  simp only [List.getElem_map, List.getElem_range]
  rw [raw_map hi, rawOf_q, List.getD_eq_getElem?_getD, List.getElem?_eq_getElem hi]
  rfl

theorem dot_vec (w : World) (v1 v2 : Value) (ps qs : List Rat) (K : Nat) {B : Nat} (h : VecOf B w v1 ps) (h' : VecOf B w v2 qs) (hT : Tab w) (hBw : B ≤ w.heap.size) (hK : FitsAll K ps) (hK' : FitsAll K qs) (hK1 : 1 ≤ K) (hKs : ps.length * (2 * K + 1) + 2 * K + 1 ≤ 1099511627776) :
    Calls Tryz.prog 23 #[v1, v2] w fun e w' => (ps.length ≠ qs.length → e = .returned (.tuple #[.agg #[.bool false, .slice none 0 0, .slice none 0 0], .int .i64 1])) ∧ (ps.length = qs.length → ∃ v, e = .returned (.tuple #[v, .int .i64 0]) ∧ RawAt B w' v (rawOf (dotR ps qs))) ∧ Below w.heap.size w w' := by
  obtain ⟨A, c, rfl, hc, hr⟩ := h
  obtain ⟨A', c', rfl, hc', hr'⟩ := h'
  have h1 := dot_calls w A A' c c' (ps.map rawOf) (qs.map rawOf) K hr hr' (by rw [List.length_map]; exact hc) (by rw [List.length_map]; exact hc') hT hBw hK.le hK'.le hK1 (by rw [List.length_map]; exact hKs)
  rw [List.length_map, List.length_map] at h1
  refine Calls.mono h1 ?_
  rintro e w' ⟨h1, h2, h3⟩
  refine ⟨fun hne => h1 (fun h => hne h.1), fun he => ?_, h3⟩
  obtain ⟨v, bs, rfl, ho, -⟩ := h2 he (allOk_map _) (allOk_map _)
  refine ⟨v, rfl, ?_⟩
  have := dotQ_eq he
  rw [List.length_map] at this
  rw [this] at ho
  exact ho.reads B
theorem dot_odd (w : World) (A A' : Option Addr) (c c' : Nat) (rs ss : List Raw) (K : Nat) {B : Nat} (h : RatsAt B w A rs) (h' : RatsAt B w A' ss) (hc : rs.length ≤ c) (hc' : ss.length ≤ c') (hT : Tab w) (hBw : B ≤ w.heap.size) (hK : allLe K rs) (hK' : allLe K ss) (hK1 : 1 ≤ K) (hKs : rs.length * (2 * K + 1) + 2 * K + 1 ≤ 1099511627776) (ho : allOk rs = false ∨ allOk ss = false) :
    Calls Tryz.prog 23 #[.slice A rs.length c, .slice A' ss.length c'] w fun e w' => e = .returned (.tuple #[.agg #[.bool false, .slice none 0 0, .slice none 0 0], .int .i64 1]) ∧ Below w.heap.size w w' :=
  (dot_calls w A A' c c' rs ss K h h' hc hc' hT hBw hK hK' hK1 hKs).mono fun e w' ⟨h1, _, h3⟩ => ⟨h1 (fun ⟨_, h5, h6⟩ => by rcases ho with h | h; rw [h] at h5; cases h5; rw [h] at h6; cases h6), h3⟩
theorem scale_vec (w : World) (v vq : Value) (ps : List Rat) (r : Raw) (K : Nat) {B : Nat} (h : VecOf B w v ps) (hq : RawAt B w vq r) (hT : Tab w) (hBw : B ≤ w.heap.size) (hK : FitsAll K ps) (hk : r.le K) (hK1 : 1 ≤ K) (hKs : K ≤ 1099511627776) :
    Calls Tryz.prog 24 #[v, vq] w fun e w' => ∃ v', e = .returned v' ∧ VecOf B w' v' (ps.map (· * r.q)) ∧ Below w.heap.size w w' := by
  obtain ⟨A, c, rfl, hc, hr⟩ := h
  have hl := hr.1
  rw [List.length_map] at hl
  have h1 := scale_calls w A c (ps.map rawOf) vq r K hr (by rw [List.length_map]; exact hc) hq hT hK.le hk hK1 hKs hBw
  rw [scaleQ_eq, List.length_map] at h1
  refine Calls.mono h1 ?_
  rintro e w' ⟨v', bs, rfl, ho, hb⟩
  exact ⟨v', rfl, ho.vec (by rw [List.length_map]; exact hl) B, hb⟩
theorem add_vec (w : World) (v1 v2 vq : Value) (ps qs : List Rat) (r : Raw) (K : Nat) {B : Nat} (h : VecOf B w v1 ps) (h' : VecOf B w v2 qs) (hq : RawAt B w vq r) (hT : Tab w) (hBw : B ≤ w.heap.size) (hK : FitsAll K ps) (hK' : FitsAll K qs) (hk : r.le K) (hK1 : 1 ≤ K) (hKs : 2 * K ≤ 1099511627776) (he : ps.length = qs.length) (ho : r.ok = true) :
    Calls Tryz.prog 22 #[v1, v2, vq] w fun e w' => ∃ v, e = .returned (.tuple #[v, .int .i64 0]) ∧ VecOf B w' v (addR ps qs r.q) ∧ Below w.heap.size w w' := by
  obtain ⟨A, c, rfl, hc, hr⟩ := h
  obtain ⟨A', c', rfl, hc', hr'⟩ := h'
  have hl := hr.1
  rw [List.length_map] at hl
  have h1 := vadd_calls w A A' c c' (ps.map rawOf) (qs.map rawOf) vq r K hr hr' (by rw [List.length_map]; exact hc) (by rw [List.length_map]; exact hc') hq hT hBw hK.le hK'.le hk hK1 hKs
  have ha := addQ_eq (q := r.q) he
  rw [List.length_map] at h1 ha
  rw [List.length_map] at h1
  refine Calls.mono h1 ?_
  rintro e w' ⟨-, h2, h3⟩
  obtain ⟨v, bs, rfl, hv⟩ := h2 he (allOk_map _) (allOk_map _) ho
  rw [ha] at hv
  exact ⟨v, rfl, hv.vec (by rw [addR_length]; exact hl) B, h3⟩
theorem same_vec (w : World) (v1 v2 : Value) (ps qs : List Rat) (K : Nat) {B : Nat} (h : VecOf B w v1 ps) (h' : VecOf B w v2 qs) (hT : Tab w) (hBw : B ≤ w.heap.size) (hK : FitsAll K ps) (hK' : FitsAll K qs) (hK1 : 1 ≤ K) (hKs : K ≤ 1099511627776) :
    Calls Tryz.prog 30 #[v1, v2] w fun e w' => e = .returned (.bool (decide (ps = qs))) ∧ Below w.heap.size w w' := by
  obtain ⟨A, c, rfl, hc, hr⟩ := h
  obtain ⟨A', c', rfl, hc', hr'⟩ := h'
  have h1 := same_calls w A A' c c' (ps.map rawOf) (qs.map rawOf) K hr hr' (by rw [List.length_map]; exact hc) (by rw [List.length_map]; exact hc') hT hBw hK.le hK'.le hK1 hKs
  rw [List.length_map, List.length_map] at h1
  refine Calls.mono h1 ?_
  rintro e w' ⟨t, rfl, ht, hb⟩
  refine ⟨?_, hb⟩
  have : t = decide (ps = qs) := by
    rw [Bool.eq_iff_iff, ht, decide_eq_true_eq]
    constructor
    · rintro ⟨he, -, -, hq⟩
      refine List.ext_getElem he fun i h1 h2 => ?_
      have := hq i h1
      rw [raw_map h1, raw_map h2, rawOf_q, rawOf_q, List.getD_eq_getElem?_getD, List.getD_eq_getElem?_getD, List.getElem?_eq_getElem h1, List.getElem?_eq_getElem h2] at this
      exact this
    · rintro rfl
      exact ⟨rfl, allOk_map _, allOk_map _, fun _ _ => rfl⟩
  rw [this]
theorem check_vec (w : World) (v : Value) (ps : List Rat) (K : Nat) {B : Nat} (h : VecOf B w v ps) (hT : Tab w) (hK : FitsAll K ps) (hKs : K ≤ 4398046511000) :
    Calls Tryz.prog 20 #[v] w fun e w' => e = .returned (.bool true) ∧ Below w.heap.size w w' := by
  obtain ⟨A, c, rfl, hc, hr⟩ := h
  have h1 := vcheck_calls w A c (ps.map rawOf) hr (by rw [List.length_map]; exact hc) hT (hK.mono hKs).le
  rwa [List.length_map, allOk_map] at h1

/-- Numbers of 64 bits that lie somewhere. -/
def IntsAt (w : World) (g : Nat) (ns : List Int) : Prop := ∀ i (h : i < ns.length), w.cell? ⟨g, i, none⟩ = some (.int .i64 ns[i])
theorem IntsAt.below {w w' : World} {g : Nat} {ns : List Int} (h : IntsAt w g ns) (hb : Below w.heap.size w w') : IntsAt w' g ns := fun i hi =>
  (hb.cell (p := ⟨g, i, none⟩) (World.block_lt_of_cell? w _ (h i hi))).trans (h i hi)

set_option maxRecDepth 100000 in
set_option maxHeartbeats 4000000 in
theorem of04_calls (w : World) (g c : Nat) (ns : List Int) (h : IntsAt w g ns) (hn : ∀ n ∈ ns, -9223372036854775808 ≤ n ∧ n ≤ 9223372036854775807) (hl : ns.length ≤ 1000) (B : Nat) :
    Calls Tryz.prog 46 #[.slice (some ⟨g, 0, none⟩) ns.length c] w fun e w' => ∃ v, e = .returned v ∧ VecOf B w' v (ns.map fun n : Int => (n : Rat)) ∧ Below w.heap.size w w' := by
  have H := Lib.hid h
  have HN := Lib.hid hn
  clear h hn
  obtain ⟨i0, hi, hz0, hz1, hz2⟩ := info_parts info_rat
  go_enter Tryz.func46, Tryz.ntmps46
  go_wp2_with fail
  go_loopw [3, 4] (fun v i wr => ∃ (j : Nat) (bs : List Nat), j ≤ ns.length ∧ i = .int .i64 j ∧ Below w.heap.size w wr ∧ Hid (OwnV w.heap.size wr v ((ns.take j).map fun n : Int => (n : Rat)) bs)) (fun v i _ => ns.length - (intOf i).toNat)
  case atStart => exact ⟨0, [], by omega, rfl, Below.refl _ _, OwnV.nil _ _⟩
  case round =>
    obtain ⟨j, bs, hj, rfl, hb, HO⟩ := hrel
    by_cases hlt : j < ns.length
    · have hsb := hb.size
      have hc := (H.out.below hb) j hlt
      obtain ⟨n, hnj⟩ : ∃ n, n = ns[j] := ⟨_, rfl⟩
      have hr := HN.out ns[j] (List.getElem_mem hlt)
      rw [← hnj] at hc hr
      have HNJ := Lib.hid hnj
      clear hnj
      go_wp2_with fail
      refine (rofn_calls _ n hr.1 hr.2).mono ?_
      rintro e w7 ⟨v7, b7, rfl, hO7, hF7, hB7⟩
      obtain ⟨A7, c7, A7', c7', rfl, -, -, -, -⟩ := id (hO7.reads 0)
      have J7 : Hid (Fresh w.heap.size w7 (bs ++ b7)) := by
        obtain ⟨_, _, _, o3⟩ := HO.out
        exact o3.join hF7 hB7.size (by omega)
      obtain ⟨ts, o1, o2, o3⟩ := HO.out.below hB7
      have hln : ((ns.take j).map fun n : Int => (n : Rat)).length = j := by rw [List.length_map, List.length_take]; omega
      have O1 := Lib.hid o1
      have O2 := Lib.hid o2
      have O3 := Lib.hid o3
      have O7 := Lib.hid hO7
      rw [hln] at O1
      have HLN := Lib.hid hln
      clear o1 o2 o3 hO7 hF7 HO hln
      ((replace hb := Below.on (Below.on hb (by ((repeat (first | assumption | exact Below.refl _ _ | refine Below.drew ?_ | refine below_drewN ?_ _ | refine Below.alloc' ?_ _ | refine Below.setCell ?_ (by first | omega | (dsimp only; omega) | (simp; done) | (simp; omega)) _ | refine Below.alloc ?_ (by first | assumption | exact Nat.le_refl _ | omega | (simp; done) | (simp; omega)) _))))) hB7; have := Below.size hb))
      go_wp2_with (at_builtin; refine wpList_append_own_at _ rfl _ _ 23 rfl w.heap.size 36 i0 (.agg #[.bool false, .slice none 0 0, .slice none 0 0]) 3 56 Tryz.underlying23 hi hz0 hz1 hz2 rfl (by decide) u3 j (flat3 ts) rfl (O1.out.alloc _) ⟨w7.heap.size, 0, none⟩ 1 1 [.bool (rawOf (n : Rat)).neg, .slice A7 (rawOf (n : Rat)).xs.length c7, .slice A7' (rawOf (n : Rat)).ys.length c7'] rfl rfl (three_news (Box.new _ _ _)) (three_one _ _ _ _ _ _ _) (by simp only [maxLen]; omega) (by omega) (by simp; omega) ?_; intro v' w2 hown' hgrow hnil hat)
      have hrow : ∀ k, u3.ownBlock = some k → w.heap.size ≤ k := fun k hk => (row_typed O1.out k hk).1
      have HB2 : Hid (Below w.heap.size w w2) := (Below.alloc' hb _).grown hgrow (by simp; omega) (fun k hk => by have := hrow k hk; omega)
      have HV2 : Hid (OwnV w.heap.size w2 v' ((ns.take (j + 1)).map fun n : Int => (n : Rat)) (bs ++ b7)) := by
        rw [List.take_succ_eq_append_getElem hlt, List.map_append, ← HNJ.out]
        exact OwnV.app (t := (.bool (rawOf (n : Rat)).neg, .slice A7 (rawOf (n : Rat)).xs.length c7, .slice A7' (rawOf (n : Rat)).ys.length c7')) O2.out (by rw [HLN.out]; exact O1.out) O3.out O7.out J7.out (by rw [HLN.out]; exact hown') hgrow
      go_roundw
      case rel => exact ⟨j + 1, bs ++ b7, by omega, rfl, HB2.out, HV2.out⟩
      case measure => simp [intOf]; omega
    · have hjn : j = ns.length := by omega
      go_wp2_with fail
      go_ret
      have h1 := HO.out
      rw [List.take_of_length_le (by omega)] at h1
      exact ⟨_, rfl, h1.vec (by rw [List.length_map]; omega) B, hb⟩

end Go.Proofs.YthofbikhomnjpaaGreatDoor

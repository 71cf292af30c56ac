import Derived.Test.YthofbikhomnjpaaGreatDoorV1
import Derived.Deep.Slices
import Derived.ChangeSame
import Derived.ChangeArms
import Derived.SizedLaws
import Derived.ChangeShapes
namespace Go.Proofs.YthofbikhomnjpaaGreatDoor
open Go.RowKit Go.ChangeShapes Go.WideShapes Go.Deep
set_option linter.unusedVariables false
set_option linter.unusedSimpArgs false

theorem cells_u32 : Tryz.prog.cellsOf 62 = 1 := by kernel_rfl
theorem cells_bool : Tryz.prog.cellsOf 4 = 1 := by kernel_rfl
theorem cells_nat : Tryz.prog.cellsOf 32 = 1 := by kernel_rfl
theorem cells_int : Tryz.prog.cellsOf 34 = 2 := by kernel_rfl
theorem cells_rat : Tryz.prog.cellsOf 36 = 3 := by kernel_rfl
theorem bytes_u32 : Tryz.prog.bytesOf 62 = 4 := by kernel_rfl
theorem bytes_rat : Tryz.prog.bytesOf 36 = 56 := by kernel_rfl
theorem under_int : (Tryz.prog.underlying 34).bind (fun d => match d with | .struct fs => some (fs.toList.map fun f => (f.type, f.offset)) | _ => none) = some [(4, 0), (32, 1)] := by kernel_rfl
theorem under_rat : (Tryz.prog.underlying 36).bind (fun d => match d with | .struct fs => some (fs.toList.map fun f => (f.type, f.offset)) | _ => none) = some [(34, 0), (32, 2)] := by kernel_rfl
theorem two_fields {P : Program} {t t0 o0 t1 o1 : Nat} (h : (P.underlying t).bind (fun d => match d with | .struct fs => some (fs.toList.map fun f => (f.type, f.offset)) | _ => none) = some [(t0, o0), (t1, o1)]) :
    ∃ f0 f1 : Field, P.underlying t = some (.struct #[f0, f1]) ∧ f0.type = t0 ∧ f0.offset = o0 ∧ f1.type = t1 ∧ f1.offset = o1 := by
  cases hu : P.underlying t with
  | none => rw [hu] at h; simp at h
  | some d =>
    rw [hu] at h
    cases d <;> simp at h
    rename_i fs
    obtain ⟨l⟩ := fs
    match l, h with
    | [f0, f1], h =>
      simp at h
      exact ⟨f0, f1, rfl, h.1.1, h.1.2, h.2.1, h.2.2⟩

section
variable {H : Type} {enc : TypeId × Value → H} {W : World}

theorem add_at {a : Addr} (h : a.spot = none) (i : Nat) : a.add i = ⟨a.block, a.off + i, none⟩ := by
  unfold Addr.add
  split
  · rename_i h0; subst h0; cases a; simp_all
  · rfl
theorem addr_eq {a : Addr} (h : a.spot = none) : some a = some ⟨a.block, a.off, none⟩ := by rw [← h]
/-- A number that came in. -/
theorem open_nat {held : Bool} {fuel : Nat} {cs : List Value} {x : DataW H × List MemPlace} (h : DataW.trod enc Tryz.prog W 0 (fun _ => true) held fuel 32 cs = some x) (hw : ∀ n ∈ x.1.weights Tryz.prog 32, n ≤ reachBytes) :
    ∃ A xs c, cs = [.slice A xs.length c] ∧ xs.length ≤ c ∧ PartsAt W.heap.size W A xs := by
  rcases open_slice1 Tryz.underlying32 cells_u32 h with ⟨rfl, rfl⟩ | ⟨a, len, cap, m, n, V, D, Pl, rfl, -, hl, hm, hmm, rfl, hV⟩
  · exact ⟨none, [], 0, rfl, Nat.le_refl _, PartsAt.nil _ _ _⟩
  · obtain rfl : m = cap := by simpa using hmm
    have hb : m ≤ 35184372087808 := by
      have := hw ((len + (m - len)) * 4) (by simp [DataW.weights, Tryz.underlying32, bytes_u32])
      have hr : reachBytes = 140737488351232 := rfl
      omega
    have hk : ∀ i, ∃ k : Nat, i < m → V i = .int .u32 (k : Int) ∧ k < 4294967296 := fun i => by
      by_cases hi : i < m
      · obtain ⟨k, e1, -, e3⟩ := DataW.trod_int Tryz.underlying62 (hV i hi).2
        have h1 : 0 ≤ k ∧ k ≤ 4294967295 := by simpa [Lit.wf, IntKind.min, IntKind.max, IntKind.signed, IntKind.bits] using e3
        refine ⟨k.toNat, fun _ => ⟨?_, by omega⟩⟩
        rw [Int.toNat_of_nonneg h1.1]
        simpa using e1
      · exact ⟨0, fun h => absurd h hi⟩
    obtain ⟨K, hK⟩ := Classical.axiomOfChoice hk
    have hlen : ((List.range len).map K).length = len := by simp
    refine ⟨some a, (List.range len).map K, m, by rw [hlen], by rw [hlen]; exact hl, ⟨?_, by rw [hlen]; omega, fun hp => ?_⟩, fun hp => ?_⟩
    · intro x hx
      obtain ⟨i, hi, rfl⟩ := List.mem_map.1 hx
      exact (hK i (by have := List.mem_range.1 hi; omega)).2
    · rw [hlen] at hp
      have hs := World.cell?_spot (hV 0 (by omega)).1
      have hs0 : a.spot = none := by simpa [Addr.add] using hs
      refine ⟨a.block, a.off, addr_eq hs0, fun i hi => ?_⟩
      rw [hlen] at hi
      have h1 := (hV i (by omega)).1
      rw [add_at hs0] at h1
      rw [h1, (hK i (by omega)).1]
      unfold el
      rw [List.getElem?_map, List.getElem?_range hi]
      rfl
    · rw [hlen] at hp
      have hs := World.cell?_spot (hV 0 (by omega)).1
      have hs0 : a.spot = none := by simpa [Addr.add] using hs
      refine ⟨a.block, a.off, addr_eq hs0, .inl ?_⟩
      have h1 := (hV 0 (by omega)).1
      rw [add_at hs0] at h1
      exact World.block_lt_of_cell? W ⟨a.block, a.off + 0, none⟩ h1
theorem three_of {cs : List Value} (h : cs.length = 3) : ∃ x y z, cs = [x, y, z] := by
  match cs, h with
  | [x, y, z], _ => exact ⟨x, y, z, rfl⟩
theorem two_of {cs : List Value} (h : cs.length = 2) : ∃ x y, cs = [x, y] := by
  match cs, h with
  | [x, y], _ => exact ⟨x, y, rfl⟩
/-- A fraction that came in. -/
theorem open_rat {held : Bool} {fuel : Nat} {cs : List Value} {x : DataW H × List MemPlace} (h : DataW.trod enc Tryz.prog W 0 (fun _ => true) held fuel 36 cs = some x) (hw : ∀ n ∈ x.1.weights Tryz.prog 36, n ≤ reachBytes) :
    ∃ p q z r, cs = [p, q, z] ∧ RawAt W.heap.size W (.agg #[p, q, z]) r := by
  obtain ⟨f0, f1, hu, a0, a1, a2, a3⟩ := two_fields under_rat
  obtain ⟨y0, y1, n, rfl, hl, h0, h1⟩ := trod_struct2 hu h
  rw [cells_rat] at hl
  obtain ⟨p, q, z, rfl⟩ := three_of hl
  rw [a0, a1, cells_int] at h0
  rw [a2, a3, cells_nat] at h1
  have w0 : ∀ n ∈ y0.1.weights Tryz.prog 34, n ≤ reachBytes := fun n hn => hw n (by simp [DataW.weights, hu, DataW.weightsEach, a0, hn])
  have w1 : ∀ n ∈ y1.1.weights Tryz.prog 32, n ≤ reachBytes := fun n hn => hw n (by simp [DataW.weights, hu, DataW.weightsEach, a2, hn])
  obtain ⟨g0, g1, hu', b0, b1, b2, b3⟩ := two_fields under_int
  obtain ⟨z0, z1, m, rfl, hl', k0, k1⟩ := trod_struct2 hu' h0
  rw [b0, b1, cells_bool] at k0
  rw [b2, b3, cells_nat] at k1
  obtain ⟨neg, e0, -⟩ := DataW.trod_bool Tryz.underlying4 k0
  have w2 : ∀ n ∈ z1.1.weights Tryz.prog 32, n ≤ reachBytes := fun n hn => w0 n (by simp [DataW.weights, hu', DataW.weightsEach, b2, hn])
  obtain ⟨A, xs, c, e1, e2, e3⟩ := open_nat k1 w2
  obtain ⟨A', ys, c', e4, e5, e6⟩ := open_nat h1 w1
  simp at e0 e1 e4
  subst e0 e1 e4
  exact ⟨_, _, _, ⟨neg, xs, ys⟩, rfl, A, c, A', c', rfl, e2, e5, e3, e6⟩
set_option maxRecDepth 100000 in
/-- A list of fractions that came in. -/
theorem open_rats {held : Bool} {fuel : Nat} {cs : List Value} {x : DataW H × List MemPlace} (h : DataW.trod enc Tryz.prog W 0 (fun _ => true) held fuel 23 cs = some x) (hw : ∀ n ∈ x.1.weights Tryz.prog 23, n ≤ reachBytes) :
    ∃ A rs c, cs = [.slice A rs.length c] ∧ rs.length ≤ c ∧ RatsAt W.heap.size W A rs := by
  rcases open_slice Tryz.underlying23 h with ⟨rfl, rfl⟩ | ⟨a, len, cap, m, n, D, Pl, rfl, -, hl, hm, hmm, rfl, hV⟩
  · exact ⟨none, [], 0, rfl, Nat.le_refl _, RatsAt.nil _ _ _⟩
  · obtain rfl : m = cap := by simpa using hmm
    have hb : m ≤ 2513169434843 := by
      have := hw ((len + (m - len)) * 56) (by simp [DataW.weights, Tryz.underlying23, bytes_rat])
      have hr : reachBytes = 140737488351232 := rfl
      omega
    have hk : ∀ i, ∃ t : (Value × Value × Value) × Raw, i < len → a.spot = none ∧ W.cell? ⟨a.block, a.off + i * 3, none⟩ = some t.1.1 ∧ W.cell? ⟨a.block, a.off + i * 3 + 1, none⟩ = some t.1.2.1 ∧ W.cell? ⟨a.block, a.off + i * 3 + 2, none⟩ = some t.1.2.2 ∧ RawAt W.heap.size W (.agg #[t.1.1, t.1.2.1, t.1.2.2]) t.2 := fun i => by
      by_cases hi : i < len
      · obtain ⟨cs', h1, h2⟩ := hV i (by omega)
        have hwd : ∀ n ∈ (D i).weights Tryz.prog 36, n ≤ reachBytes := fun n hn => hw n (by
          simp only [DataW.weights, Tryz.underlying23, List.mem_cons, List.mem_append]
          refine .inr (.inl ?_)
          have : ∀ (l : List (DataW H)) (d : DataW H), d ∈ l → n ∈ d.weights Tryz.prog 36 → n ∈ DataW.weightsAll Tryz.prog 36 l := by
            intro l
            induction l with
            | nil => intro d hd; cases hd
            | cons e l ih =>
              intro d hd hn
              rcases List.mem_cons.1 hd with rfl | hd
              · simp [DataW.weightsAll, hn]
              · simp only [DataW.weightsAll, List.mem_append]; exact .inr (ih d hd hn)
          exact this _ (D i) (List.mem_map.2 ⟨i, List.mem_range.2 hi, rfl⟩) hn)
        obtain ⟨p, q, z, r, rfl, hr⟩ := open_rat h2 hwd
        rw [cells_rat] at h1
        obtain ⟨-, -, hc⟩ := World.cells?_some h1
        have c0 := hc 0 (by decide)
        have c1 := hc 1 (by decide)
        have c2 := hc 2 (by decide)
        have hv0 := hV 0 (by omega)
        obtain ⟨cs0, g1, -⟩ := hv0
        rw [cells_rat] at g1
        obtain ⟨-, hl0, hc0⟩ := World.cells?_some g1
        obtain ⟨p0, q0, z0, rfl⟩ := three_of hl0
        have s0 := World.cell?_spot (hc0 0 (by decide))
        have hs0 : a.spot = none := by simpa [Addr.add] using s0
        have hai := add_at hs0 (i * 3)
        have e0 : (a.add (i * 3)).spot = none := by rw [hai]
        rw [add_at e0, hai] at c0 c1 c2
        exact ⟨((p, q, z), r), fun _ => ⟨hs0, c0, c1, c2, hr⟩⟩
      · exact ⟨((undef, undef, undef), ⟨false, [], []⟩), fun h => absurd h hi⟩
    obtain ⟨K, hK⟩ := Classical.axiomOfChoice hk
    have hlen : ((List.range len).map fun i => (K i).2).length = len := by simp
    refine ⟨some a, (List.range len).map fun i => (K i).2, m, by rw [hlen], by rw [hlen]; exact hl, by rw [hlen]; omega, fun hp => ?_⟩
    rw [hlen] at hp
    obtain ⟨s0, c0, -⟩ := hK 0 hp
    refine ⟨a.block, a.off, addr_eq s0, .inl (World.block_lt_of_cell? W ⟨a.block, a.off + 0 * 3, none⟩ c0), fun i hi => ?_⟩
    rw [hlen] at hi
    obtain ⟨-, c0, c1, c2, hr⟩ := hK i hi
    refine ⟨_, ⟨_, _, _, rfl, c0, c1, c2⟩, ?_⟩
    have : raw ((List.range len).map fun i => (K i).2) i = (K i).2 := by
      unfold raw
      rw [List.getD_eq_getElem?_getD, List.getElem?_map, List.getElem?_range hi]
      rfl
    rw [this]
    exact hr
end

end Go.Proofs.YthofbikhomnjpaaGreatDoor

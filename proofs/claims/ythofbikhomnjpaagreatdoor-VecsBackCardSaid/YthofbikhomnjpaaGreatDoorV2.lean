import Derived.Test.YthofbikhomnjpaaGreatDoorV1
import Derived.Test.YthofbikhomnjpaaGreatDoorN9
namespace Go.Proofs.YthofbikhomnjpaaGreatDoor
open Go.RowKit Go.Shelf
set_option linter.unusedVariables false
set_option linter.unusedSimpArgs false
attribute [local go_sem] Oper.semAt_some

/-- A fraction of a list, as its cells say. -/
def ratv (w : World) (A : Option Addr) (i : Nat) : Value := match A with
  | some p => .agg #[(w.cell? ⟨p.block, p.off + i * 3, none⟩).getD undef, (w.cell? ⟨p.block, p.off + i * 3 + 1, none⟩).getD undef, (w.cell? ⟨p.block, p.off + i * 3 + 2, none⟩).getD undef]
  | none => undef
theorem RatsAt.val {B : Nat} {w w' : World} {A : Option Addr} {rs : List Raw} (h : RatsAt B w A rs) {i : Nat} (hi : i < rs.length) (hb : Below w.heap.size w w') : ∃ b o A1 d1 A2 d2, A = some ⟨b, o, none⟩ ∧ w'.cell? ⟨b, o + i * 3, none⟩ = some (.bool (raw rs i).neg) ∧ w'.cell? ⟨b, o + i * 3 + 1, none⟩ = some (.slice A1 (raw rs i).xs.length d1) ∧ w'.cell? ⟨b, o + i * 3 + 2, none⟩ = some (.slice A2 (raw rs i).ys.length d2) ∧ ratv w A i = .agg #[.bool (raw rs i).neg, .slice A1 (raw rs i).xs.length d1, .slice A2 (raw rs i).ys.length d2] ∧ RawAt B w' (.agg #[.bool (raw rs i).neg, .slice A1 (raw rs i).xs.length d1, .slice A2 (raw rs i).ys.length d2]) (raw rs i) := by
  obtain ⟨b, o, x, y, z, h1, k2, k3, k4, k5⟩ := h.get hi
  obtain ⟨A1, d1, A2, d2, e, -⟩ := id k5
  simp only [Value.agg.injEq, Array.mk.injEq, List.cons.injEq, and_true] at e
  obtain ⟨rfl, rfl, rfl⟩ := e
  have hl := World.block_lt_of_cell? w _ k2
  refine ⟨b, o, A1, d1, A2, d2, h1, (hb.cell (p := ⟨b, o + i * 3, none⟩) hl).trans k2, (hb.cell (p := ⟨b, o + i * 3 + 1, none⟩) hl).trans k3, (hb.cell (p := ⟨b, o + i * 3 + 2, none⟩) hl).trans k4, ?_, k5.below hb⟩
  subst h1
  simp only [ratv, k2, k3, k4, Option.getD_some]

/-- The places of a list, the first so many. -/
def upTo (m j : Nat) : List (Fin m) := (List.finRange m).take j
theorem upTo_zero (m : Nat) : upTo m 0 = [] := rfl
theorem upTo_succ (m j : Nat) (h : j < m) : upTo m (j + 1) = upTo m j ++ [⟨j, h⟩] := by
  unfold upTo
  rw [List.take_succ_eq_append_getElem (by simpa using h)]
  simp
theorem upTo_length (m j : Nat) (h : j ≤ m) : (upTo m j).length = j := by unfold upTo; rw [List.length_take, List.length_finRange]; omega
theorem upTo_all (m : Nat) : upTo m m = List.finRange m := by unfold upTo; rw [List.take_of_length_le]; simp
theorem upTo_prefix (m j : Nat) : upTo m j <+: List.finRange m := List.take_prefix _ _

/-- What a round keeps: whatever lay when the call began, and the second list's variable. -/
def KeepsB (n₀ B2 : Nat) (X Y : World) : Prop := Below n₀ X Y ∧ ∀ v, X.cell? ⟨B2, 0, none⟩ = some v → Y.cell? ⟨B2, 0, none⟩ = some v
theorem KeepsB.trans {n₀ B2 : Nat} {X Y Z : World} (h : KeepsB n₀ B2 X Y) (k : KeepsB n₀ B2 Y Z) : KeepsB n₀ B2 X Z := ⟨h.1.trans k.1, fun v hv => k.2 v (h.2 v hv)⟩
theorem keepsB_put {n₀ B2 : Nat} {w : World} (h : n₀ ≤ w.heap.size) (h2 : B2 < w.heap.size) (W : World) (l : Nat) (o o' : Obj) (hl : w.heap.size ≤ l) (ho : W.heap[l]? = some o) (hc : o.isCells = false) (hw : o.isWalk = false) : KeepsB n₀ B2 W (W.putObj l o') :=
  ⟨belowK_b h W l o o' hl ho hc hw, fun v hv => (World.cell?_of_block ((belowK_b (n₀ := w.heap.size) (w := w) (Nat.le_refl _) W l o o' hl ho hc hw).block B2 h2)).trans hv⟩
theorem KeepsB.of {n₀ B2 : Nat} {X Y : World} (h : Below X.heap.size X Y) (hn : n₀ ≤ X.heap.size) : KeepsB n₀ B2 X Y := ⟨h.mono hn, fun v hv => (h.cell (p := ⟨B2, 0, none⟩) (World.block_lt_of_cell? _ _ hv)).trans hv⟩

set_option maxRecDepth 100000 in
set_option maxHeartbeats 4000000 in
theorem both1_calls (n : Nat) (hn : 2 ≤ n) (l B1 B2 : Nat) (A A' : Option Addr) (c c' : Nat) (rs ss : List Raw) (hlen : rs.length = ss.length) (w0 : World) {B : Nat}
    (J Jx : List (Fin rs.length) → World → Prop)
    (hY : ∀ pre x W, J pre W → pre.length < rs.length → YieldAt Fence.wide (n - 1) Tryz.prog l #[ratv w0 A x.1, ratv w0 A' x.1] W fun e W' =>
      (e = .returned (.bool true) ∧ J (pre ++ [x]) W' ∧ KeepsB w0.heap.size B2 W W') ∨ (e = .returned (.bool false) ∧ Jx (pre ++ [x]) W'))
    (hgrow : ∀ pre W W', J pre W → Below W.heap.size W W' → J pre W')
    (hP1 : RatsAt B w0 A rs) (hP2 : RatsAt B w0 A' ss)
    (W : World) (hB1 : W.cell? ⟨B1, 0, none⟩ = some (.slice A rs.length c)) (hB2 : W.cell? ⟨B2, 0, none⟩ = some (.slice A' ss.length c')) (hW : Below w0.heap.size w0 W) (h0 : J [] W) :
    CallsIn Fence.wide n Tryz.prog 94 #[.func (.yield l) #[] #[], .pointer (some ⟨B1, 0, none⟩), .pointer (some ⟨B2, 0, none⟩)] W fun e W' => (∃ v, e = .returned v) ∧
      ((∃ xs, xs = List.finRange rs.length ∧ J xs W') ∨ (∃ pre, pre <+: List.finRange rs.length ∧ Jx pre W')) := by
  have hml : rs.length ≤ 2513169434900 := hP1.1
  have HP1 := Lib.hid hP1
  have HP2 := Lib.hid hP2
  have HL := Lib.hid hlen
  have HY := Lib.hid hY
  have HD := Lib.hid hgrow
  have hlen' : rs.length ≤ ss.length := by omega
  clear hP1 hP2 hlen hY hgrow
  refine callsIn_of_wp Tryz.func94 rfl trivial ?_ rfl
  simp only [Tryz.ntmps94, List.size_toArray, List.length_cons, List.length_nil, Nat.reduceAdd, Nat.reduceSub, Array.replicate_succ, Array.replicate_zero, List.push_toArray, List.append_toArray, List.nil_append, List.cons_append]
  gi_wp2
  gi_loopw [8] (fun i wr => ∃ (j : Nat), j ≤ rs.length ∧ i = .int .i64 j ∧ J (upTo rs.length j) wr ∧ Below w0.heap.size w0 wr ∧ wr.cell? ⟨B2, 0, none⟩ = some (.slice A' ss.length c')) (fun i _ => rs.length - (intOf i).toNat)
  case atStart => exact ⟨0, by omega, rfl, h0, hW, hB2⟩
  case round =>
    clear hB1 hB2 hW h0
    obtain ⟨j, hj, rfl, hJ, hB, c2⟩ := hrel
    by_cases hlt : j < rs.length
    · obtain ⟨b, o, A1, d1, A2, d2, hA, k1, k2, k3, k4, -⟩ := HP1.out.val hlt hB
      obtain ⟨b', o', A1', d1', A2', d2', hA', k1', k2', k3', k4', -⟩ := HP2.out.val (show j < ss.length by omega) hB
      subst hA hA'
      gi_wp2
      obtain ⟨w1, hw1⟩ : ∃ w1, w1 = wr.alloc (.cells #[.bool (raw rs j).neg, .slice A1 (raw rs j).xs.length d1, .slice A2 (raw rs j).ys.length d2] 36) := ⟨_, rfl⟩
      have X0 : Hid (Box w1 wr.heap.size 36 #[.bool (raw rs j).neg, .slice A1 (raw rs j).xs.length d1, .slice A2 (raw rs j).ys.length d2]) := by rw [hw1]; exact Box.new _ _ _
      have hg1 : Below wr.heap.size wr w1 := by rw [hw1]; ((repeat (first | assumption | exact Below.refl _ _ | refine Below.drew ?_ | refine below_drewN ?_ _ | refine Below.alloc' ?_ _ | refine Below.setCell ?_ (by first | omega | (dsimp only; omega) | (simp; done) | (simp; omega)) _ | refine Below.alloc ?_ (by first | assumption | exact Nat.le_refl _ | omega | (simp; done) | (simp; omega)) _)))
      rw [← hw1]
      have c2' := (hg1.cell (p := ⟨B2, 0, none⟩) (World.block_lt_of_cell? _ _ c2)).trans c2
      have hl' := World.block_lt_of_cell? _ _ k1'
      have n1 := (hg1.cell (p := ⟨b', o' + j * 3, none⟩) hl').trans k1'
      have n2 := (hg1.cell (p := ⟨b', o' + j * 3 + 1, none⟩) hl').trans k2'
      have n3 := (hg1.cell (p := ⟨b', o' + j * 3 + 2, none⟩) hl').trans k3'
      have hB1 : Below w0.heap.size w0 w1 := Below.on hB hg1
      obtain ⟨fn, tmps, assign, body, hy, hR⟩ := yield_one (HY.out (upTo rs.length j) ⟨j, hlt⟩ w1.drew (HD.out _ _ _ hJ hg1.drew) (by rw [upTo_length _ _ hj]; exact hlt))
      dsimp only at hy hR
      rw [k4, k4'] at hy
      have HR := Lib.hid hR
      clear hR hw1 k1 k2 k3 c2 k1' k2' k3' hJ
      (((try clear X0c1 X0c2 X0c3 X0c4 X0c5 X0c6); obtain ⟨X0c1, X0c2, X0c3, X0c4, X0c5, X0c6⟩ := Box.three (Hid.out X0)))
      have hn1 : 1 ≤ n - 1 := by omega
      have hn2 : 1 ≤ n := by omega
      gi_region_with (first
        | (refine HR.out.mono ?_; rintro e W' ⟨b, rfl, hb⟩))
      all_goals
        cases b
        · have hb' : Jx (upTo rs.length j ++ [⟨j, hlt⟩]) W' := hb
          have HJ := Lib.hid hb'
          clear hb hb'
          gi_wp2
          refine bodyPost_ret (results_none rfl _ _ _) rfl ?_
          exact ⟨⟨_, rfl⟩, .inr ⟨upTo rs.length (j + 1), upTo_prefix _ _, by rw [upTo_succ _ _ hlt]; exact HJ.out⟩⟩
        · have hb' : J (upTo rs.length j ++ [⟨j, hlt⟩]) W' ∧ KeepsB w0.heap.size B2 w1.drew W' := hb
          rw [← upTo_succ] at hb'
          have HC := Lib.hid (hb'.2.2 _ c2')
          have HJ := Lib.hid hb'
          clear hb hb'
          gi_wp2
          go_roundw
          case rel => exact ⟨j + 1, by omega, rfl, HJ.out.1, hB1.drew.trans HJ.out.2.1, HC.out⟩
          case measure => simp [intOf]; omega
    · have hjm : j = rs.length := by omega
      subst hjm
      gi_wp2
      go_end0
      exact ⟨⟨_, rfl⟩, .inl ⟨_, rfl, by rw [← upTo_all]; exact hJ⟩⟩

theorem both_stops (n : Nat) (hn : 2 ≤ n) (B1 B2 : Nat) (A A' : Option Addr) (c c' : Nat) (rs ss : List Raw) (hlen : rs.length = ss.length) (we w0 : World) {B : Nat}
    (hB1 : w0.cell? ⟨B1, 0, none⟩ = some (.slice A rs.length c)) (hB2 : w0.cell? ⟨B2, 0, none⟩ = some (.slice A' ss.length c'))
    (hP1 : RatsAt B we A rs) (hP2 : RatsAt B we A' ss) (hwe : Below we.heap.size we w0) :
    SeqStopsK Fence.wide n Tryz.prog 94 #[.pointer (some ⟨B1, 0, none⟩), .pointer (some ⟨B2, 0, none⟩)] (fun x : Fin rs.length => #[ratv we A x.1, ratv we A' x.1]) (KeepsB we.heap.size B2) (fun xs => xs = List.finRange rs.length) (fun pre => pre <+: List.finRange rs.length) rs.length w0 :=
  fun l J Jx W hW hJ hJx hY h0 => both1_calls n hn l B1 B2 A A' c c' rs ss hlen we J Jx hY
    (fun pre W W' h hb => hJ pre W W' none h ⟨hb.os, hb.tape, hb.output, hb.size, fun k hk _ => hb.block k hk⟩ (fun r e => by cases e)) hP1 hP2 W
    ((hW.cell (p := ⟨B1, 0, none⟩) (World.block_lt_of_cell? _ _ hB1)).trans hB1) ((hW.cell (p := ⟨B2, 0, none⟩) (World.block_lt_of_cell? _ _ hB2)).trans hB2) (Below.on hwe hW) h0

theorem both_calls (w : World) (A A' : Option Addr) (c c' n n' : Nat) :
    Calls Tryz.prog 56 #[.slice A n c, .slice A' n' c'] w fun e w' => e = .returned (.func (.func 94) #[] #[.pointer (some ⟨w.heap.size, 0, none⟩), .pointer (some ⟨w.heap.size + 1, 0, none⟩)]) ∧ w' = (w.alloc (.cells #[.slice A n c] 23)).alloc (.cells #[.slice A' n' c'] 23) := by
  go_enter Tryz.func56, Tryz.ntmps56
  go_wp2
  go_ret
  exact ⟨by simp, rfl⟩

end Go.Proofs.YthofbikhomnjpaaGreatDoor

import Derived.Test.YthofbikhomnjpaaGreatDoorN12
/-! Whole numbers: a sign and parts. -/
namespace Go.Proofs.YthofbikhomnjpaaGreatDoor
open Go.RowKit
set_option linter.unusedVariables false
set_option linter.unusedSimpArgs false

theorem Below.alloc' {a w : World} (h : Below a.heap.size a w) (o : Obj) : Below a.heap.size a (w.alloc o) := h.alloc h.size o

/-- A variable's block: its cells. -/
def Box (w : World) (g : Nat) (t : TypeId) (cs : Array Value) : Prop := w.heap[g]? = some (.cells cs t (0, 0))
theorem Box.new (w : World) (t : TypeId) (cs : Array Value) : Box (w.alloc (.cells cs t)) w.heap.size t cs := heap_alloc_new w _
theorem Box.new' (w : World) (t : TypeId) (cs : Array Value) {g : Nat} (h : g = w.heap.size) : Box (w.alloc (.cells cs t)) g t cs := by subst h; exact Box.new w t cs
theorem Box.lt {w : World} {g : Nat} {t : TypeId} {cs : Array Value} (h : Box w g t cs) : g < w.heap.size := (Array.getElem?_eq_some_iff.1 h).1
theorem Box.alloc {w : World} {g : Nat} {t : TypeId} {cs : Array Value} (h : Box w g t cs) (o : Obj) : Box (w.alloc o) g t cs := (Below.heap_alloc w o g h.lt).trans h
theorem Box.newD (w : World) (t : TypeId) (cs : Array Value) : Box (w.alloc (.cells cs t)).drew w.heap.size t cs := Box.new w t cs
theorem Box.allocD {w : World} {g : Nat} {t : TypeId} {cs : Array Value} (h : Box w g t cs) (o : Obj) : Box (w.alloc o).drew g t cs := h.alloc o
theorem Box.far {w : World} {g : Nat} {t : TypeId} {cs : Array Value} (h : Box w g t cs) {p : Addr} (hp : g ≠ p.block) (u : Value) : Box (w.setCell p u) g t cs := (Below.heap_setCell w p u g hp).trans h
theorem Box.below {w w' : World} {g : Nat} {t : TypeId} {cs : Array Value} (h : Box w g t cs) (hb : Below w.heap.size w w') : Box w' g t cs := (hb.block g h.lt).trans h
theorem Box.drewN {w : World} {g : Nat} {t : TypeId} {cs : Array Value} (h : Box w g t cs) (n : Nat) : Box (w.drewN n) g t cs := h
theorem Box.drew {w : World} {g : Nat} {t : TypeId} {cs : Array Value} (h : Box w g t cs) : Box w.drew g t cs := h
theorem Box.cell {w : World} {g : Nat} {t : TypeId} {cs : Array Value} (h : Box w g t cs) (i : Nat) : w.cell? ⟨g, i, none⟩ = cs[i]? := by
  rw [cell_of_row w g i _ _ _ h]
theorem Box.free {w : World} {g : Nat} {t : TypeId} {cs : Array Value} (h : Box w g t cs) (i : Nat) : w.frozen? ⟨g, i, none⟩ = false := by
  have h' : w.heap[g]? = some (.cells cs t (0, 0)) := h
  simp [World.frozen?, h']
theorem Box.set {w : World} {g : Nat} {t : TypeId} {cs : Array Value} (h : Box w g t cs) (i : Nat) (u : Value) : Box (w.setCell ⟨g, i, none⟩ u) g t (cs.setIfInBounds i u) := by
  have h' : w.heap[g]? = some (.cells cs t (0, 0)) := h
  unfold Box
  simp [World.setCell, Array.getElem?_modify, h']
theorem Box.put2 {w : World} {g : Nat} {t : TypeId} {p q : Value} (h : Box w g t #[p, q]) (a b : Value) : Box ((w.setCell ⟨g, 0, none⟩ a).setCell ⟨g, 1, none⟩ b) g t #[a, b] := (h.set 0 a).set 1 b
theorem Box.put3 {w : World} {g : Nat} {t : TypeId} {p q r : Value} (h : Box w g t #[p, q, r]) (a b c : Value) : Box (((w.setCell ⟨g, 0, none⟩ a).setCell ⟨g, 1, none⟩ b).setCell ⟨g, 2, none⟩ c) g t #[a, b, c] := ((h.set 0 a).set 1 b).set 2 c
theorem Box.one {w : World} {g : Nat} {t : TypeId} {a : Value} (h : Box w g t #[a]) : w.cell? ⟨g, 0, none⟩ = some a ∧ w.frozen? ⟨g, 0, none⟩ = false := ⟨h.cell 0, h.free 0⟩
theorem Box.two {w : World} {g : Nat} {t : TypeId} {a b : Value} (h : Box w g t #[a, b]) : w.cell? ⟨g, 0, none⟩ = some a ∧ w.cell? ⟨g, 1, none⟩ = some b ∧ w.frozen? ⟨g, 0, none⟩ = false ∧ w.frozen? ⟨g, 1, none⟩ = false := ⟨h.cell 0, h.cell 1, h.free 0, h.free 1⟩
theorem Box.three {w : World} {g : Nat} {t : TypeId} {a b c : Value} (h : Box w g t #[a, b, c]) : w.cell? ⟨g, 0, none⟩ = some a ∧ w.cell? ⟨g, 1, none⟩ = some b ∧ w.cell? ⟨g, 2, none⟩ = some c ∧ w.frozen? ⟨g, 0, none⟩ = false ∧ w.frozen? ⟨g, 1, none⟩ = false ∧ w.frozen? ⟨g, 2, none⟩ = false := ⟨h.cell 0, h.cell 1, h.cell 2, h.free 0, h.free 1, h.free 2⟩
theorem Box.two_alloc {w : World} {g : Nat} {t : TypeId} {a b : Value} (h : Box w g t #[a, b]) : (∀ o, (w.alloc o).cell? ⟨g, 0, none⟩ = some a) ∧ (∀ o, (w.alloc o).cell? ⟨g, 1, none⟩ = some b) ∧ (∀ o, (w.alloc o).frozen? ⟨g, 0, none⟩ = false) ∧ (∀ o, (w.alloc o).frozen? ⟨g, 1, none⟩ = false) := ⟨fun o => (h.alloc o).cell 0, fun o => (h.alloc o).cell 1, fun o => (h.alloc o).free 0, fun o => (h.alloc o).free 1⟩
theorem Box.new1 (w : World) (o : Obj) (t : TypeId) (cs : Array Value) : Box ((w.alloc o).alloc (.cells cs t)) (w.heap.size + 1) t cs := Box.new' _ _ _ (by simp)
theorem Box.new1D (w : World) (o : Obj) (t : TypeId) (cs : Array Value) : Box ((w.alloc o).alloc (.cells cs t)).drew (w.heap.size + 1) t cs := Box.new1 w o t cs
theorem Box.apart {w : World} {g k : Nat} {t r : TypeId} {a b p q : Value} (h : Box w g t #[a, b]) (h' : Box w k r #[p, q]) (hne : g ≠ k) : (∀ u v, ((w.setCell ⟨k, 0, none⟩ u).setCell ⟨k, 1, none⟩ v).cell? ⟨g, 0, none⟩ = some a) ∧ (∀ u v, ((w.setCell ⟨k, 0, none⟩ u).setCell ⟨k, 1, none⟩ v).cell? ⟨g, 1, none⟩ = some b) ∧ (∀ u v, ((w.setCell ⟨k, 0, none⟩ u).setCell ⟨k, 1, none⟩ v).frozen? ⟨g, 0, none⟩ = false) ∧ (∀ u v, ((w.setCell ⟨k, 0, none⟩ u).setCell ⟨k, 1, none⟩ v).frozen? ⟨g, 1, none⟩ = false) :=
  have f : ∀ u v, Box ((w.setCell ⟨k, 0, none⟩ u).setCell ⟨k, 1, none⟩ v) g t #[a, b] := fun u v => (h.far (by exact hne) u).far (by exact hne) v
  ⟨fun u v => (f u v).cell 0, fun u v => (f u v).cell 1, fun u v => (f u v).free 0, fun u v => (f u v).free 1⟩
/-- What the second and the third store of a struct find. -/
theorem Box.more2 {w : World} {g : Nat} {t : TypeId} {a b : Value} (h : Box w g t #[a, b]) : (∀ u, (w.setCell ⟨g, 0, none⟩ u).cell? ⟨g, 1, none⟩ = some b) ∧ (∀ u, (w.setCell ⟨g, 0, none⟩ u).frozen? ⟨g, 1, none⟩ = false) := ⟨fun u => (h.set 0 u).cell 1, fun u => (h.set 0 u).free 1⟩
theorem Box.more3 {w : World} {g : Nat} {t : TypeId} {a b c : Value} (h : Box w g t #[a, b, c]) : (∀ u, (w.setCell ⟨g, 0, none⟩ u).cell? ⟨g, 1, none⟩ = some b) ∧ (∀ u, (w.setCell ⟨g, 0, none⟩ u).frozen? ⟨g, 1, none⟩ = false) ∧ (∀ u v, ((w.setCell ⟨g, 0, none⟩ u).setCell ⟨g, 1, none⟩ v).cell? ⟨g, 2, none⟩ = some c) ∧ (∀ u v, ((w.setCell ⟨g, 0, none⟩ u).setCell ⟨g, 1, none⟩ v).frozen? ⟨g, 2, none⟩ = false) :=
  ⟨fun u => (h.set 0 u).cell 1, fun u => (h.set 0 u).free 1, fun u v => ((h.set 0 u).set 1 v).cell 2, fun u v => ((h.set 0 u).set 1 v).free 2⟩
theorem Box.four {w : World} {g : Nat} {t : TypeId} {a b c d : Value} (h : Box w g t #[a, b, c, d]) : w.cell? ⟨g, 0, none⟩ = some a ∧ w.cell? ⟨g, 1, none⟩ = some b ∧ w.cell? ⟨g, 2, none⟩ = some c ∧ w.cell? ⟨g, 3, none⟩ = some d ∧ w.frozen? ⟨g, 0, none⟩ = false ∧ w.frozen? ⟨g, 1, none⟩ = false ∧ w.frozen? ⟨g, 2, none⟩ = false ∧ w.frozen? ⟨g, 3, none⟩ = false := ⟨h.cell 0, h.cell 1, h.cell 2, h.cell 3, h.free 0, h.free 1, h.free 2, h.free 3⟩

theorem cell_far {w : World} {g i : Nat} {v : Value} {p : Addr} {u : Value} (h : w.cell? ⟨g, i, none⟩ = some v) (hne : g ≠ p.block) : (w.setCell p u).cell? ⟨g, i, none⟩ = some v :=
  (World.cell?_of_block (a := ⟨g, i, none⟩) (Below.heap_setCell w p u g hne)).trans h
theorem cell_alloc {w : World} {g i : Nat} {v : Value} {o : Obj} (h : w.cell? ⟨g, i, none⟩ = some v) : (w.alloc o).cell? ⟨g, i, none⟩ = some v :=
  (World.cell?_of_block (a := ⟨g, i, none⟩) (Below.heap_alloc w o g (World.block_lt_of_cell? w _ h))).trans h
theorem Below.le {a b : World} {B : Nat} (h : Below a.heap.size a b) (hB : B ≤ a.heap.size) : B ≤ b.heap.size := Nat.le_trans hB h.size
theorem Below.on {a b c : World} (h : Below a.heap.size a b) (k : Below b.heap.size b c) : Below a.heap.size a c := h.trans (k.mono h.size)
theorem boxes1 (w : World) (t0 : TypeId) (c0 : Array Value) : ∃ w', w' = w.alloc (.cells c0 t0) ∧ Below w.heap.size w w' ∧ Box w' w.heap.size t0 c0 :=
  ⟨_, rfl, (Below.refl _ _).alloc (Nat.le_refl _) _, Box.new _ _ _⟩
theorem boxes2 (w : World) (t0 t1 : TypeId) (c0 c1 : Array Value) : ∃ w', w' = (w.alloc (.cells c0 t0)).alloc (.cells c1 t1) ∧ Below w.heap.size w w' ∧ Box w' w.heap.size t0 c0 ∧ Box w' (w.heap.size + 1) t1 c1 :=
  ⟨_, rfl, ((Below.refl _ _).alloc (Nat.le_refl _) _).alloc (by simp) _, (Box.new _ _ _).alloc _, Box.new' _ _ _ (by simp)⟩
theorem boxes3 (w : World) (t0 t1 t2 : TypeId) (c0 c1 c2 : Array Value) : ∃ w', w' = ((w.alloc (.cells c0 t0)).alloc (.cells c1 t1)).alloc (.cells c2 t2) ∧ Below w.heap.size w w' ∧ Box w' w.heap.size t0 c0 ∧ Box w' (w.heap.size + 1) t1 c1 ∧ Box w' (w.heap.size + 1 + 1) t2 c2 :=
  ⟨_, rfl, (((Below.refl _ _).alloc (Nat.le_refl _) _).alloc (by simp) _).alloc (by simp; omega) _, ((Box.new _ _ _).alloc _).alloc _, (Box.new' _ _ _ (by simp)).alloc _, Box.new' _ _ _ (by simp)⟩

/-- A struct of two or three cells, in its variable: what is loaded, what is returned. -/
theorem load_int2 (w : World) (g : Nat) (a b : Value) (hb : Box w g 34 #[a, b]) : (loadVar 34 ⟨g, 0, none⟩).run Tryz.prog w = .ok (.agg #[a, b]) w := by
  obtain ⟨h1, h2, h3, h4⟩ := hb.two
  simp [loadVar, go_sem, h1, h2]
theorem load_whole (w : World) (g : Nat) (a b : Value) (hb : Box w g 105 #[a, b]) : (loadVar 105 ⟨g, 0, none⟩).run Tryz.prog w = .ok (.agg #[a, b]) w := by
  obtain ⟨h1, h2, h3, h4⟩ := hb.two
  simp [loadVar, go_sem, h1, h2]
theorem load_rat (w : World) (g : Nat) (a b c : Value) (hb : Box w g 36 #[a, b, c]) : (loadVar 36 ⟨g, 0, none⟩).run Tryz.prog w = .ok (.agg #[a, b, c]) w := by
  obtain ⟨h1, h2, h3, h4⟩ := hb.three
  simp [loadVar, go_sem, h1, h2, h3]

theorem result_var {fn : Func} {p : Tmp} {ty : TypeId} (h : fn.results = #[.cell p ty]) {tmps : Array Value} {w : World} {g : Nat} {v : Value}
    (hp : tmps.getD p undef = .pointer (some ⟨g, 0, none⟩)) (hl : (loadVar ty ⟨g, 0, none⟩).run Tryz.prog w = .ok v w) : (results fn tmps).run Tryz.prog w = .ok v w := by
  have hp' : tmps[p]?.getD undef = .pointer (some ⟨g, 0, none⟩) := by simpa using hp
  simp [results, h, hp', asAddr, hl]
theorem result_var2 {fn : Func} {p q : Tmp} {ty : TypeId} (h : fn.results = #[.cell p ty, .tmp q]) {tmps : Array Value} {w : World} {g : Nat} {v u : Value}
    (hp : tmps.getD p undef = .pointer (some ⟨g, 0, none⟩)) (hq : tmps.getD q undef = u) (hl : (loadVar ty ⟨g, 0, none⟩).run Tryz.prog w = .ok v w) : (results fn tmps).run Tryz.prog w = .ok (.tuple #[v, u]) w := by
  have hp' : tmps[p]?.getD undef = .pointer (some ⟨g, 0, none⟩) := by simpa using hp
  have hq' : tmps[q]?.getD undef = u := by simpa using hq
  simp [results, h, hp', hq', asAddr, hl]

theorem signed_calls (w : World) (neg : Bool) (A : Option Addr) (n c : Nat) :
    Calls Tryz.prog 75 #[.bool neg, .slice A n c] w fun e w' => e = .returned (.agg #[.bool (neg && decide (0 < n)), .slice A n c]) ∧ Below w.heap.size w w' := by
  go_enter Tryz.func75, Tryz.ntmps75
  cases neg
  · go_wp2_with fail
    refine bodyPost_ret (v := .agg #[.bool false, .slice A n c]) (by simp [results, Tryz.results75, go_sem]) rfl ⟨by simp, by ((repeat (first | assumption | exact Below.refl _ _ | refine Below.drew ?_ | refine below_drewN ?_ _ | refine Below.alloc' ?_ _ | refine Below.setCell ?_ (by first | omega | (dsimp only; omega) | (simp; done) | (simp; omega)) _ | refine Below.alloc ?_ (by first | assumption | exact Nat.le_refl _ | omega | (simp; done) | (simp; omega)) _)))⟩
  · go_wp2_with fail
    refine bodyPost_ret (v := .agg #[.bool (decide (0 < n)), .slice A n c]) (by simp [results, Tryz.results75, go_sem]) rfl ⟨by simp, by ((repeat (first | assumption | exact Below.refl _ _ | refine Below.drew ?_ | refine below_drewN ?_ _ | refine Below.alloc' ?_ _ | refine Below.setCell ?_ (by first | omega | (dsimp only; omega) | (simp; done) | (simp; omega)) _ | refine Below.alloc ?_ (by first | assumption | exact Nat.le_refl _ | omega | (simp; done) | (simp; omega)) _)))⟩

/-- May a number be? What it reads as. -/
def ick (neg : Bool) (xs : List Nat) : Bool := okL xs && (!neg || decide (0 < xs.length))
def ival (neg : Bool) (xs : List Nat) : Int := if ick neg xs then (if neg then -(val xs : Int) else val xs) else 0

theorem icheck_calls (w : World) (neg : Bool) (A : Option Addr) (c : Nat) (xs : List Nat) (h : Parts w A xs) :
    Calls Tryz.prog 51 #[.agg #[.bool neg, .slice A xs.length c]] w fun e w' => e = .returned (.bool (ick neg xs)) ∧ Below w.heap.size w w' := by
  have H := Lib.hid h
  have hB : Below w.heap.size w (w.alloc (.cells #[.bool neg, .slice A xs.length c] 34)) := by ((repeat (first | assumption | exact Below.refl _ _ | refine Below.drew ?_ | refine below_drewN ?_ _ | refine Below.alloc' ?_ _ | refine Below.setCell ?_ (by first | omega | (dsimp only; omega) | (simp; done) | (simp; omega)) _ | refine Below.alloc ?_ (by first | assumption | exact Nat.le_refl _ | omega | (simp; done) | (simp; omega)) _)))
  go_enter Tryz.func51, Tryz.ntmps51
  go_wp2_with fail
  refine (check_calls _ _ _ xs (H.out.below hB)).mono ?_
  rintro e w1 ⟨rfl, rfl⟩
  cases hok : okL xs
  · go_wp2_with fail
    go_ret
    exact ⟨by simp [ick, hok], by ((repeat (first | assumption | exact Below.refl _ _ | refine Below.drew ?_ | refine below_drewN ?_ _ | refine Below.alloc' ?_ _ | refine Below.setCell ?_ (by first | omega | (dsimp only; omega) | (simp; done) | (simp; omega)) _ | refine Below.alloc ?_ (by first | assumption | exact Nat.le_refl _ | omega | (simp; done) | (simp; omega)) _)))⟩
  · cases neg
    · go_wp2_with fail
      go_ret
      exact ⟨by simp [ick, hok], by ((repeat (first | assumption | exact Below.refl _ _ | refine Below.drew ?_ | refine below_drewN ?_ _ | refine Below.alloc' ?_ _ | refine Below.setCell ?_ (by first | omega | (dsimp only; omega) | (simp; done) | (simp; omega)) _ | refine Below.alloc ?_ (by first | assumption | exact Nat.le_refl _ | omega | (simp; done) | (simp; omega)) _)))⟩
    · go_wp2_with fail
      go_ret
      exact ⟨by simp [ick, hok], by ((repeat (first | assumption | exact Below.refl _ _ | refine Below.drew ?_ | refine below_drewN ?_ _ | refine Below.alloc' ?_ _ | refine Below.setCell ?_ (by first | omega | (dsimp only; omega) | (simp; done) | (simp; omega)) _ | refine Below.alloc ?_ (by first | assumption | exact Nat.le_refl _ | omega | (simp; done) | (simp; omega)) _)))⟩

/-- A block of parts, by its type: no variable of another type is that. -/
def Typed (w : World) (b : Nat) : Prop := ∃ cur, w.heap[b]? = some (.cells cur 62 (0, 0))
/-- Parts that lie below a block, or in memory made for parts: so no later variable's. -/
def PartsAt (B : Nat) (w : World) (A : Option Addr) (xs : List Nat) : Prop := Parts w A xs ∧ (0 < xs.length → ∃ b o, A = some ⟨b, o, none⟩ ∧ (b < B ∨ Typed w b))
theorem Parts.at {w : World} {A : Option Addr} {xs : List Nat} (h : Parts w A xs) : PartsAt w.heap.size w A xs := ⟨h, fun hp => by
  obtain ⟨b, o, rfl, hc⟩ := h.2.2 hp
  exact ⟨b, o, rfl, .inl (World.block_lt_of_cell? w _ (hc 0 hp))⟩⟩
theorem PartsAt.mono {B B' : Nat} {w : World} {A : Option Addr} {xs : List Nat} (h : PartsAt B w A xs) (hB : B ≤ B') : PartsAt B' w A xs := ⟨h.1, fun hp => by
  obtain ⟨b, o, hA, hb⟩ := h.2 hp
  exact ⟨b, o, hA, hb.imp (fun h => Nat.lt_of_lt_of_le h hB) id⟩⟩
theorem PartsAt.below {B : Nat} {w w' : World} {A : Option Addr} {xs : List Nat} (h : PartsAt B w A xs) (hb : Below w.heap.size w w') : PartsAt B w' A xs := ⟨h.1.below hb, fun hp => by
  obtain ⟨b, o, hA, hh⟩ := h.2 hp
  exact ⟨b, o, hA, hh.imp id fun ⟨cur, hc⟩ => ⟨cur, (hb.block b (Array.getElem?_eq_some_iff.1 hc).1).trans hc⟩⟩⟩
theorem PartsAt.nil (B : Nat) (w : World) (A : Option Addr) : PartsAt B w A [] := ⟨Parts.nil _ _, fun h => absurd h (by simp)⟩
theorem PartsAt.set {B : Nat} {w : World} {A : Option Addr} {xs : List Nat} (h : PartsAt B w A xs) {g : Nat} {t : TypeId} {cs : Array Value} (hx : Box w g t cs) (ht : t ≠ 62) (hg : B ≤ g) (i : Nat) (u : Value) : PartsAt B (w.setCell ⟨g, i, none⟩ u) A xs := by
  by_cases hp : 0 < xs.length
  · obtain ⟨b, o, hA, hh⟩ := h.2 hp
    have hne : b ≠ g := by
      rintro rfl
      rcases hh with hh | ⟨cur, hc⟩
      · omega
      · have h' : w.heap[b]? = some (.cells cs t (0, 0)) := hx
        rw [h'] at hc; simp at hc; exact ht hc.2
    have hsame : (w.setCell ⟨g, i, none⟩ u).heap[b]? = w.heap[b]? := Below.heap_setCell w _ u b (by simpa using hne)
    refine ⟨⟨h.1.1, h.1.2.1, fun hp => ?_⟩, fun _ => ⟨b, o, hA, hh.imp id fun ⟨cur, hc⟩ => ⟨cur, hsame.trans hc⟩⟩⟩
    obtain ⟨b', o', hA', hc⟩ := h.1.2.2 hp
    rw [hA] at hA'; cases hA'
    exact ⟨b, o, hA, fun j hj => (World.cell?_of_block (a := ⟨b, o + j, none⟩) hsame).trans (hc j hj)⟩
  · have : xs = [] := List.eq_nil_of_length_eq_zero (by omega)
    subst this
    exact PartsAt.nil _ _ _

/-- A whole number as the code within keeps it: 0 has no sign, no needless parts. -/
def RInt (B : Nat) (w : World) (v : Value) (z : Int) : Prop := ∃ A c, v = .agg #[.bool (decide (z < 0)), .slice A (digs z.natAbs).length c] ∧ (digs z.natAbs).length ≤ c ∧ PartsAt B w A (digs z.natAbs)
/-- A whole number in memory of its own. -/
def OwnI (w : World) (v : Value) (z : Int) (bs : List Nat) : Prop := ∃ s, v = .agg #[.bool (decide (z < 0)), s] ∧ Own w s z.natAbs bs
theorem OwnI.below {w w' : World} {v : Value} {z : Int} {bs : List Nat} (h : OwnI w v z bs) (hb : Below w.heap.size w w') : OwnI w' v z bs := by
  obtain ⟨s, rfl, h⟩ := h
  exact ⟨s, rfl, h.below hb⟩
theorem Own.readsAt {w : World} {v : Value} {n : Nat} {bs : List Nat} (h : Own w v n bs) (B : Nat) : ∃ A c, v = .slice A (digs n).length c ∧ (digs n).length ≤ c ∧ PartsAt B w A (digs n) := by
  obtain ⟨A, c, hv, hc, hp⟩ := h.reads
  refine ⟨A, c, hv, hc, hp, fun h0 => ?_⟩
  rcases h with ⟨g, c', cur, rfl, _, hh, _⟩ | ⟨rfl, rfl, _⟩
  · cases hv
    exact ⟨g, 0, rfl, .inr ⟨cur, hh⟩⟩
  · rw [digs_zero] at h0; exact absurd h0 (by simp)
theorem OwnI.reads {w : World} {v : Value} {z : Int} {bs : List Nat} (h : OwnI w v z bs) (B : Nat) : RInt B w v z := by
  obtain ⟨s, rfl, h⟩ := h
  obtain ⟨A, c, rfl, hc, hp⟩ := h.readsAt B
  exact ⟨A, c, rfl, hc, hp⟩
theorem RInt.below {B : Nat} {w w' : World} {v : Value} {z : Int} (h : RInt B w v z) (hb : Below w.heap.size w w') : RInt B w' v z := by
  obtain ⟨A, c, rfl, hc, hp⟩ := h
  exact ⟨A, c, rfl, hc, hp.below hb⟩
theorem RInt.mono {B B' : Nat} {w : World} {v : Value} {z : Int} (h : RInt B w v z) (hB : B ≤ B') : RInt B' w v z := by
  obtain ⟨A, c, rfl, hc, hp⟩ := h
  exact ⟨A, c, rfl, hc, hp.mono hB⟩
theorem RInt.set {B : Nat} {w : World} {v : Value} {z : Int} (h : RInt B w v z) {g : Nat} {t : TypeId} {cs : Array Value} (hx : Box w g t cs) (ht : t ≠ 62) (hg : B ≤ g) (i : Nat) (u : Value) : RInt B (w.setCell ⟨g, i, none⟩ u) v z := by
  obtain ⟨A, c, rfl, hc, hp⟩ := h
  exact ⟨A, c, rfl, hc, hp.set hx ht hg i u⟩
theorem RInt.set2 {B : Nat} {w : World} {v : Value} {z : Int} (h : RInt B w v z) {g : Nat} {t : TypeId} {cs : Array Value} (hx : Box w g t cs) (ht : t ≠ 62) (hg : B ≤ g) (a b : Value) : RInt B ((w.setCell ⟨g, 0, none⟩ a).setCell ⟨g, 1, none⟩ b) v z :=
  (h.set hx ht hg 0 a).set (hx.set 0 a) ht hg 1 b
theorem Own.set {w : World} {v : Value} {n : Nat} {bs : List Nat} (h : Own w v n bs) {g : Nat} {t : TypeId} {cs : Array Value} (hx : Box w g t cs) (ht : t ≠ 62) (i : Nat) (u : Value) : Own (w.setCell ⟨g, i, none⟩ u) v n bs := by
  refine h.move fun b hb => Below.heap_setCell w _ u b (fun e => ?_)
  have e : b = g := e
  have h' : w.heap[g]? = some (.cells cs t (0, 0)) := hx
  rcases h with ⟨g', c, cur, rfl, rfl, hh, _⟩ | ⟨_, _, rfl⟩
  · rw [List.mem_singleton] at hb
    rw [← e, hb, hh] at h'; simp at h'; exact ht h'.2.symm
  · cases hb
theorem OwnI.set {w : World} {v : Value} {z : Int} {bs : List Nat} (h : OwnI w v z bs) {g : Nat} {t : TypeId} {cs : Array Value} (hx : Box w g t cs) (ht : t ≠ 62) (i : Nat) (u : Value) : OwnI (w.setCell ⟨g, i, none⟩ u) v z bs := by
  obtain ⟨s, rfl, h⟩ := h
  exact ⟨s, rfl, h.set hx ht i u⟩
theorem OwnI.set2 {w : World} {v : Value} {z : Int} {bs : List Nat} (h : OwnI w v z bs) {g : Nat} {t : TypeId} {cs : Array Value} (hx : Box w g t cs) (ht : t ≠ 62) (a b : Value) : OwnI ((w.setCell ⟨g, 0, none⟩ a).setCell ⟨g, 1, none⟩ b) v z bs :=
  (h.set hx ht 0 a).set (hx.set 0 a) ht 1 b

theorem ick_zero : ick false [] = true := rfl
theorem ival_neg {neg : Bool} {xs : List Nat} (hs : Small xs) (h : ick neg xs = true) : decide (ival neg xs < 0) = neg ∧ digs (ival neg xs).natAbs = xs := by
  unfold ival
  rw [if_pos h]
  simp only [ick, Bool.and_eq_true] at h
  obtain ⟨h1, h2⟩ := h
  cases neg
  · simp [digs_val hs h1]
  · simp at h2
    have := val_pos_of hs h1 h2
    simp [digs_val hs h1, this]
theorem ick_of (z : Int) : ick (decide (z < 0)) (digs z.natAbs) = true := by
  simp only [ick, okL_digs, Bool.true_and, Bool.or_eq_true, Bool.not_eq_true', decide_eq_false_iff_not, decide_eq_true_eq]
  by_cases h : z < 0
  · right
    rcases Nat.eq_zero_or_pos (digs z.natAbs).length with h1 | h1
    · have := digs_eq_nil.1 (List.eq_nil_of_length_eq_zero h1); omega
    · exact h1
  · exact .inl h
theorem ival_of (z : Int) : ival (decide (z < 0)) (digs z.natAbs) = z := by
  unfold ival
  rw [if_pos (ick_of z), val_digs]
  by_cases h : z < 0
  · simp [h]; omega
  · simp [h]; omega

theorem iof_calls (w : World) (neg : Bool) (A : Option Addr) (c : Nat) (xs : List Nat) {B : Nat} (h : PartsAt B w A xs) (hc : xs.length ≤ c) (hBw : B ≤ w.heap.size) :
    Calls Tryz.prog 78 #[.agg #[.bool neg, .slice A xs.length c]] w fun e w' => ∃ v, e = .returned v ∧ RInt B w' v (ival neg xs) ∧ Below w.heap.size w w' := by
  have H := Lib.hid h.1
  have HA := Lib.hid h
  have hB : Below w.heap.size w ((w.alloc (.cells #[.bool neg, .slice A xs.length c] 34)).alloc (.cells #[.bool false, .slice none 0 0] 105)) := by ((repeat (first | assumption | exact Below.refl _ _ | refine Below.drew ?_ | refine below_drewN ?_ _ | refine Below.alloc' ?_ _ | refine Below.setCell ?_ (by first | omega | (dsimp only; omega) | (simp; done) | (simp; omega)) _ | refine Below.alloc ?_ (by first | assumption | exact Nat.le_refl _ | omega | (simp; done) | (simp; omega)) _)))
  have HB := Lib.hid hB
  have bx0 := (Box.new w 34 #[.bool neg, .slice A xs.length c]).alloc (.cells #[.bool false, .slice none 0 0] 105)
  have by0 := Box.new (w.alloc (.cells #[.bool neg, .slice A xs.length c] 34)) 105 #[.bool false, .slice none 0 0]
  have BX0 := Lib.hid bx0
  have BY0 := Lib.hid by0
  go_enter Tryz.func78, Tryz.ntmps78
  go_wp2_with fail
  refine (icheck_calls _ _ _ _ xs (H.out.below hB)).mono ?_
  rintro e w1 ⟨rfl, hB1⟩
  have hb1 : Below w.heap.size w w1 := HB.out.trans (hB1.mono HB.out.size)
  have bx := BX0.out.below hB1
  have bY := BY0.out.below hB1
  have hbY : Box w1 (w.heap.size + 1) 105 #[.bool false, .slice none 0 0] := by simpa using bY
  obtain ⟨f1, f2, f3, f4⟩ := bx.two
  obtain ⟨f5, f6, f7, f8⟩ := hbY.two
  have HBX := Lib.hid hbY
  clear bx0 by0 bx bY hbY hB1 hB
  cases hok : ick neg xs
  · go_wp2_with fail
    have hb2 := (HBX.out.set 0 (.bool false)).set 1 (.slice none 0 0)
    refine bodyPost_ret (v := .agg #[.bool false, .slice none 0 0]) (result_var rfl (g := w.heap.size + 1) rfl (load_whole _ _ _ _ hb2)) rfl ⟨_, rfl, ?_, by ((repeat (first | assumption | exact Below.refl _ _ | refine Below.drew ?_ | refine below_drewN ?_ _ | refine Below.alloc' ?_ _ | refine Below.setCell ?_ (by first | omega | (dsimp only; omega) | (simp; done) | (simp; omega)) _ | refine Below.alloc ?_ (by first | assumption | exact Nat.le_refl _ | omega | (simp; done) | (simp; omega)) _)))⟩
    have : ival neg xs = 0 := by unfold ival; rw [hok]; rfl
    rw [this]
    exact ⟨none, 0, by simp [digs_zero], by simp [digs_zero], by simpa [digs_zero] using PartsAt.nil _ _ _⟩
  · go_wp2_with fail
    have hb2 := (HBX.out.set 0 (.bool neg)).set 1 (.slice A xs.length c)
    refine bodyPost_ret (v := .agg #[.bool neg, .slice A xs.length c]) (result_var rfl (g := w.heap.size + 1) rfl (load_whole _ _ _ _ hb2)) rfl ⟨_, rfl, ?_, by ((repeat (first | assumption | exact Below.refl _ _ | refine Below.drew ?_ | refine below_drewN ?_ _ | refine Below.alloc' ?_ _ | refine Below.setCell ?_ (by first | omega | (dsimp only; omega) | (simp; done) | (simp; omega)) _ | refine Below.alloc ?_ (by first | assumption | exact Nat.le_refl _ | omega | (simp; done) | (simp; omega)) _)))⟩
    obtain ⟨e1, e2⟩ := ival_neg H.out.1 hok
    refine ⟨A, c, by rw [e1, e2], by rw [e2]; exact hc, ?_⟩
    rw [e2]
    exact ((HA.out.below hb1).set HBX.out (by decide) (by omega) 0 _).set (HBX.out.set 0 _) (by decide) (by omega) 1 _
theorem iof_reads (w : World) (v : Value) (z : Int) {B : Nat} (h : RInt B w v z) (hBw : B ≤ w.heap.size) :
    Calls Tryz.prog 78 #[v] w fun e w' => ∃ v', e = .returned v' ∧ RInt B w' v' z ∧ Below w.heap.size w w' := by
  obtain ⟨A, c, rfl, hc, hp⟩ := h
  have := iof_calls w (decide (z < 0)) A c _ hp hc hBw
  rwa [ival_of] at this

theorem sign_zero {neg : Bool} {n : Nat} : (neg && decide (0 < (digs n).length)) = decide ((if neg then -(n : Int) else n) < 0) := by
  have h : decide (0 < (digs n).length) = decide (0 < n) := by
    rw [decide_eq_decide]
    constructor
    · intro h
      rcases Nat.eq_zero_or_pos n with h1 | h1
      · rw [h1, digs_zero] at h; exact absurd h (by simp)
      · exact h1
    · intro h
      rcases Nat.eq_zero_or_pos (digs n).length with h1 | h1
      · have := digs_eq_nil.1 (List.eq_nil_of_length_eq_zero h1); omega
      · exact h1
  rw [h]
  cases neg <;> simp <;> omega
theorem signed_own (w : World) (neg : Bool) (s : Value) (n : Nat) (bs : List Nat) (z : Int) (hz : z = if neg then -(n : Int) else n) (h : Own w s n bs) :
    Calls Tryz.prog 75 #[.bool neg, s] w fun e w' => ∃ v, e = .returned v ∧ OwnI w' v z bs ∧ Below w.heap.size w w' := by
  obtain ⟨A, c, rfl, hc, hp⟩ := h.reads
  refine (signed_calls w neg A _ c).mono ?_
  rintro e w' ⟨rfl, hB⟩
  have hn : z.natAbs = n := by subst hz; cases neg <;> simp
  refine ⟨_, rfl, ⟨_, ?_, by rw [hn]; exact h.below hB⟩, hB⟩
  rw [sign_zero, hz]
theorem signed_reads (w : World) (neg : Bool) (A : Option Addr) (c : Nat) (n : Nat) (z : Int) (hz : z = if neg then -(n : Int) else n) (hc : (digs n).length ≤ c) {B : Nat} (h : PartsAt B w A (digs n)) :
    Calls Tryz.prog 75 #[.bool neg, .slice A (digs n).length c] w fun e w' => ∃ v, e = .returned v ∧ RInt B w' v z ∧ Below w.heap.size w w' := by
  refine (signed_calls w neg A _ c).mono ?_
  rintro e w' ⟨rfl, hB⟩
  have hn : z.natAbs = n := by subst hz; cases neg <;> simp
  refine ⟨_, rfl, ⟨A, c, by rw [hn, sign_zero, hz], by rw [hn]; exact hc, by rw [hn]; exact h.below hB⟩, hB⟩

end Go.Proofs.YthofbikhomnjpaaGreatDoor

import Derived.Test.YthofbikhomnjpaaGreatDoorBase
import Derived.RegionTactic
/-! A region of drawn order by one relation over what has come up: each operation is shown once. -/
namespace Go.Proofs.YthofbikhomnjpaaGreatDoor
open Go.RowKit
set_option linter.unusedVariables false
set_option linter.unusedSimpArgs false

/-- How many have not come up. -/
def unlisted : List Bool → Nat
  | [] => 0
  | b :: l => (if b then 0 else 1) + unlisted l
theorem unlisted_le (l : List Bool) : unlisted l ≤ l.length := by
  induction l with
  | nil => exact Nat.le_refl _
  | cons b l ih => cases b <;> simp [unlisted] <;> omega
theorem unlisted_set (l : List Bool) (i : Nat) (h : l[i]? = some false) : unlisted (l.set i true) + 1 = unlisted l := by
  induction l generalizing i with
  | nil => simp at h
  | cons b l ih =>
    cases i with
    | zero => simp at h; subst h; simp [unlisted]; omega
    | succ i => simp at h; have := ih i h; simp only [List.set_cons_succ, unlisted]; omega
theorem unlisted_zero {l : List Bool} (h : unlisted l = 0) (i : Nat) : l.getD i true = true := by
  induction l generalizing i with
  | nil => simp
  | cons b l ih =>
    cases b
    · simp [unlisted] at h
    · cases i with
      | zero => rfl
      | succ i => simp [unlisted] at h; simpa using ih h i

/-- Every edge goes to an earlier operation. -/
def backB (ops : Array Oper) : Bool := (List.range ops.size).all fun i => match ops[i]? with
  | some o => o.after.all fun e => decide (e.on < i)
  | none => true
theorem backB_spec {ops : Array Oper} (h : backB ops = true) {i : Nat} {o : Oper} (ho : ops[i]? = some o) {e : Edge} (he : e ∈ o.after) : e.on < i := by
  have hlt : i < ops.size := (Array.getElem?_eq_some_iff.1 ho).1
  have h1 := List.all_eq_true.1 h i (List.mem_range.2 hlt)
  rw [ho] at h1
  exact of_decide_eq_true (Array.all_eq_true_iff_forall_mem.1 h1 e he)

theorem all_listed {md : Region.Mode} {ops : Array Oper} {listed : Array Bool} (hb : backB ops = true) (hsz : listed.size = ops.size) (hr : Region.ready md ops listed = []) : ∀ n i, i ≤ n → i < ops.size → listed.getD i true = true := by
  intro n
  induction n with
  | zero =>
    intro i hi hlt
    refine Classical.byContradiction fun hne => ?_
    have : i ∈ Region.ready md ops listed := mem_ready.2 ⟨by simpa using hne, ops[i], by simp [hlt], fun e he hbd => absurd (backB_spec hb (i := i) (o := ops[i]) (by simp [hlt]) he) (by omega)⟩
    rw [hr] at this; cases this
  | succ n ih =>
    intro i hi hlt
    refine Classical.byContradiction fun hne => ?_
    have : i ∈ Region.ready md ops listed := mem_ready.2 ⟨by simpa using hne, ops[i], by simp [hlt], fun e he hbd => by
      have h1 := backB_spec hb (i := i) (o := ops[i]) (by simp [hlt]) he
      have h2 := ih e.on (by omega) (by omega)
      have hs : e.on < listed.size := by omega
      simpa [hs] using h2⟩
    rw [hr] at this; cases this

theorem wpAny_inv {P : Program} {ops : Array Oper} {Q : Exit → Act → World → Prop} {md : Region.Mode} {I : Array Bool → Act → World → Prop} (hb : backB ops = true)
    (hstep : ∀ listed a w i, I listed a w → listed.size = ops.size → i ∈ Region.ready md ops listed → wpOp P ops Q i (I (listed.setIfInBounds i true)) a w)
    (hdone : ∀ listed a w, I listed a w → (∀ i, i < ops.size → listed.getD i true = true) → Q .normal a w) :
    ∀ (fuel : Nat) (listed : Array Bool) (a : Act) (w : World), I listed a w → listed.size = ops.size → unlisted listed.toList ≤ fuel → wpAny P md ops Q fuel listed a w := by
  intro fuel
  induction fuel with
  | zero =>
    intro listed a w hI hsz hf
    have h0 : ∀ i, listed.getD i true = true := fun i => by
      have := unlisted_zero (Nat.le_zero.1 hf) i
      simpa [List.getD_eq_getElem?_getD] using this
    refine ⟨?_, hdone listed a w hI fun i _ => h0 i⟩
    refine List.eq_nil_iff_forall_not_mem.2 fun i hi => ?_
    have := (mem_ready.1 hi).1
    rw [h0 i] at this; cases this
  | succ fuel ih =>
    intro listed a w hI hsz hf
    refine ⟨fun hr => hdone listed a w hI fun i hi => all_listed hb hsz hr i i (Nat.le_refl _) hi, fun i hi => ?_⟩
    refine wpOp_mono (fun a' w' h => ih _ a' w' h (by simpa using hsz) ?_) (hstep listed a w i hI hsz hi)
    have h1 := (mem_ready.1 hi).1
    have hlt : i < listed.size := by
      refine Classical.byContradiction fun h => ?_
      simp [Array.getElem?_eq_none (Nat.le_of_not_lt h)] at h1
    have h2 : listed.toList[i]? = some false := by
      rw [Array.getElem?_toList, Array.getElem?_eq_getElem hlt]
      simp [hlt] at h1
      rw [h1]
    have h3 := unlisted_set listed.toList i h2
    rw [Array.toList_setIfInBounds]
    omega

theorem wp_region_inv {P : Program} {ops : Array Oper} {Q : Exit → Act → World → Prop} {I : Array Bool → Act → World → Prop} {id : Nat} {a : Act} {w : World} (hm : P.follows .mixedOrders = true) (hb : backB ops = true)
    (hI : I (Array.replicate ops.size false) a w.drew)
    (hstep : ∀ listed a w i, I listed a w → listed.size = ops.size → i ∈ Region.ready .any ops listed → wpOp P ops Q i (I (listed.setIfInBounds i true)) a w)
    (hdone : ∀ listed a w, I listed a w → (∀ i, i < ops.size → listed.getD i true = true) → Q .normal a w) : (Code.region id ops true).wp P Q a w :=
  wp_region_any hm (wpAny_inv hb hstep hdone ops.size _ a _ hI (by simp) (by
    have := unlisted_le (Array.replicate ops.size false).toList
    simpa using this))

end Go.Proofs.YthofbikhomnjpaaGreatDoor

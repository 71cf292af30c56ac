import Derived.Test.YthofbikhomnjpaaGreatDoorInv
import Derived.OrdersIn
import Derived.OwnWalkIn
import Derived.Maps.OwnIn
/-! A region of drawn order by one relation, inside a fence. -/
namespace Go.Proofs.YthofbikhomnjpaaGreatDoor
open Go.RowKit
set_option linter.unusedVariables false
set_option linter.unusedSimpArgs false

theorem wpAnyIn_inv {F : Fence} {n : Nat} {P : Program} {ops : Array Oper} {Q : Exit → Act → World → Prop} {md : Region.Mode} {I : Array Bool → Act → World → Prop} (hb : backB ops = true)
    (hstep : ∀ listed a w i, I listed a w → listed.size = ops.size → i ∈ Region.ready md ops listed → wpOpIn F n P ops Q i (I (listed.setIfInBounds i true)) a w)
    (hdone : ∀ listed a w, I listed a w → (∀ i, i < ops.size → listed.getD i true = true) → Q .normal a w) :
    ∀ (fuel : Nat) (listed : Array Bool) (a : Act) (w : World), I listed a w → listed.size = ops.size → unlisted listed.toList ≤ fuel → wpAnyIn F n P md ops Q fuel listed a w := by
  intro fuel
  induction fuel with
  | zero =>
    intro listed a w hI hsz hf
    have h0 : ∀ i, listed.getD i true = true := fun i => by
      have := unlisted_zero (Nat.le_zero.1 hf) i
      simpa [List.getD_eq_getElem?_getD] using this
    refine ⟨?_, hdone listed a w hI fun i _ => h0 i⟩
    refine List.eq_nil_iff_forall_not_mem.2 fun i hi => ?_
    have := (mem_ready.1 hi).1
    rw [h0 i] at this; cases this
  | succ fuel ih =>
    intro listed a w hI hsz hf
    refine ⟨fun hr => hdone listed a w hI fun i hi => all_listed hb hsz hr i i (Nat.le_refl _) hi, fun i hi => ?_⟩
    refine wpOpIn_mono (fun a' w' h => ih _ a' w' h (by simpa using hsz) ?_) (hstep listed a w i hI hsz hi)
    have h1 := (mem_ready.1 hi).1
    have hlt : i < listed.size := by
      refine Classical.byContradiction fun h => ?_
      simp [Array.getElem?_eq_none (Nat.le_of_not_lt h)] at h1
    have h2 : listed.toList[i]? = some false := by
      rw [Array.getElem?_toList, Array.getElem?_eq_getElem hlt]
      simp [hlt] at h1
      rw [h1]
    have h3 := unlisted_set listed.toList i h2
    rw [Array.toList_setIfInBounds]
    omega

theorem wpIn_region_inv {F : Fence} {n : Nat} {P : Program} {ops : Array Oper} {Q : Exit → Act → World → Prop} {I : Array Bool → Act → World → Prop} {id : Nat} {a : Act} {w : World} (hm : P.follows .mixedOrders = true) (hb : backB ops = true)
    (hI : I (Array.replicate ops.size false) a w.drew)
    (hstep : ∀ listed a w i, I listed a w → listed.size = ops.size → i ∈ Region.ready .any ops listed → wpOpIn F n P ops Q i (I (listed.setIfInBounds i true)) a w)
    (hdone : ∀ listed a w, I listed a w → (∀ i, i < ops.size → listed.getD i true = true) → Q .normal a w) : (Code.region id ops true).wpIn F n P Q a w :=
  wpIn_region_any hm (wpAnyIn_inv hb hstep hdone ops.size _ a _ hI (by simp) (by
    have := unlisted_le (Array.replicate ops.size false).toList
    simpa using this))


/-- append, as one step of such a region. -/
theorem stepIn_append {F : Fence} {n : Nat} {P : Program} {w : World} {ops : Array Oper} {o : Oper} {a : Act} {K : Act → World → Prop} {Q : Exit → Act → World → Prop} {E : Prop}
    (hg : o.guard = none) (s x : Operand) (t : TypeId) (hop : o.op = Op.call { callee := Callee.builtin Builtin.append, args := #[s, x], argTypes := #[t, t] })
    (base : Nat) (e : TypeId) (i : TypeInfo) (z : Value) (size bytes : Nat) (h1 : P.underlying t = some (.slice e)) (h2 : P.info? e = some i) (h3 : i.zero = some z) (h4 : i.size = size) (h5 : i.bytes = bytes) (h6 : z.cells.size = size) (h7 : 0 < size)
    (v : Value) (k : Nat) (xs : List Value) (hs : a.eval s = v) (hown : w.ownsRow base e size v k xs) (ad : Addr) (m c : Nat) (news : List Value) (hx : a.eval x = .slice (some ad) m c) (hn : news.length = m * size)
    (hc : ∀ j u, news[j]? = some u → w.cell? (ad.add j) = some u) (h1c : ∀ u ∈ news, u.oneCell' = true) (b1 : k + m ≤ maxLen) (b2 : (k + m) * bytes ≤ 140737488355328) (b3 : base ≤ w.heap.size)
    (hK : ∀ v' w', w'.ownsRow base e size v' (k + m) (xs ++ news) → w.grownBy w' v.ownBlock → K (a.put o.dst v') w') :
    if Region.wanted o (yielded ops a.tmps) = true then Oper.wpIn F n P o a w K Q else E := by
  have hw : Region.wanted o (yielded ops a.tmps) = true := by simp [Region.wanted, hg]
  rw [if_pos hw]
  obtain ⟨v', w', hrun, r1, r2, r3⟩ := run_append_own (P := P) w base t o.type e i z size bytes h1 h2 h3 h4 h5 h6 h7 v k xs hown ad m c news hn hc h1c b1 b2 b3
  unfold Oper.wpIn
  refine ⟨?_, ?_⟩
  · simp [Oper.about, hop, resolve, Target.leads, Sem.run_pure]
  · rw [Oper.semAt_plain F _ _ (by rw [hop]; intro c hc'; cases hc')]
    simp [execOp, hop, resolve, invoke, builtin, hs, hx, hrun, Result.andThen]
    exact hK _ _ r1 r2

end Go.Proofs.YthofbikhomnjpaaGreatDoor

import Derived.Test.YthofbikhomnjpaaGreatDoorRows
import Derived.Test.YthofbikhomnjpaaGreatDoorTie
import Derived.Test.YthofbikhomnjpaaGreatDoorCards
import Derived.Test.YthofbikhomnjpaaGreatDoorO1
import Derived.ProofKit
import Derived.LaidMore
import Derived.Lay
import Derived.Lib.LaidTab
import Derived.Carry
import Derived.SevenTiedAt
import Derived.LaidOnce
namespace Go.Proofs.YthofbikhomnjpaaGreatDoor
open Go.RowKit Go.ChangeShapes Go.WideShapes Go.ChangeAt
set_option linter.unusedVariables false
set_option linter.unusedSimpArgs false

theorem own_knob : ownKnob Tryz.prog.godebug = none := by kernel_rfl
theorem laid_out : laidOutB Tryz.prog = true := by kernel_rfl
theorem tab_global : Tryz.prog.globalNamed "math/bits.deBruijn32tab" = some 0 := by kernel_rfl
theorem tab_type : (Tryz.prog.globals[0]?).map (·.type) = some 159 := by kernel_rfl
theorem tab_cells : Tryz.prog.cellsOf 159 = 32 := by kernel_rfl
theorem u8_cells : Tryz.prog.cellsOf 5 = 1 := by kernel_rfl
theorem tab_data {H : Type} : (Rows.laid_math_bits_deBruijn32tab : DataW H) = Lib.tabData .u8 (Lib.deBruijn32tab.map fun n : Nat => (n : Int)) := rfl
theorem tab_of_laid {rest : List (String × DataW Unit)} {W : World} (h : laidMet Tryz.prog (("math/bits.deBruijn32tab", Rows.laid_math_bits_deBruijn32tab) :: rest) W) : Tab W := by
  rw [tab_data] at h
  have ht := Lib.tabIs_of_head tab_global tab_type Tryz.underlying159 Tryz.underlying5 u8_cells tab_cells h
  intro j hj
  have := Lib.TabIs.cell ht tab_global j (by rw [List.length_map]; exact hj)
  rw [this]
  have hg : ∀ k, k < 32 → (Lib.deBruijn32tab.map fun n : Nat => (n : Int)).getD k 0 = ((Lib.deBruijn32tab.getD k 0 : Nat) : Int) := by decide
  rw [hg j hj]

theorem weights_at {H : Type} {ts : List TypeId} {ds : List (DataW H)} (h : (DataW.weightsEach Tryz.prog ts ds).all (· ≤ reachBytes) = true) {j : Nat} {t : TypeId} {d : DataW H} (ht : ts[j]? = some t) (hd : ds[j]? = some d) : ∀ n ∈ d.weights Tryz.prog t, n ≤ reachBytes := fun n hn => by
  have := List.all_eq_true.1 h n (DataW.weights_mem_each ht hd n hn)
  simpa using this

theorem wf_u8 {n : Int} (h : (Lit.int .u8 n).wf = true) : 0 ≤ n ∧ n < 256 := by
  simp [Lit.wf] at h
  have h1 : IntKind.u8.min = 0 := by decide
  have h2 : IntKind.u8.max = 255 := by decide
  omega

end Go.Proofs.YthofbikhomnjpaaGreatDoor

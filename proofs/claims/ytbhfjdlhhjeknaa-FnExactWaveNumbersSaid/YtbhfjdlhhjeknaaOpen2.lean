/- A struct of two slices among a row's arguments: opened into its fields. Only lemmas. -/
import Derived.Test.YtbhfjdlhhjeknaaOpen
import Derived.Lib.SmallJoins
namespace Go.Proofs.Ytbhfjdlhhjeknaa.Ab
set_option linter.unusedVariables false
set_option linter.unusedSimpArgs false
open Go Go.ChangeShapes Go.WideShapes Go.RowKit Go.Deep Go.WideElems Go.Joins

section
variable {H : Type} {enc : TypeId × Value → H} {P : Program} {t u0 u1 e0 e1 : TypeId} {W : World} {v : Value} {d : DataW H} {ps : List MemPlace} {r : Reach} {b0 : Nat}
theorem okWide_of_cell {e : TypeId} (ht : P.underlying t = some (.slice e)) (h : Cell.okWide P W r b0 t v) : Value.okWide P W r b0 t v := by
  simp only [Value.okWide, ht]
  exact h
/-- A struct of two slices: each field opens as a value of its own. -/
theorem open_st2 {f0 f1 : Field} (hs : P.underlying t = some (.struct #[f0, f1])) (hone : oneCellFields P #[f0, f1] = true) (hC : P.cellsOf t = 2) (hct : P.cellTypes P.depth t = some [u0, u1])
    (h0 : P.underlying u0 = some (.slice e0)) (h1 : P.underlying u1 = some (.slice e1)) (e0 : f0.type = u0) (e1 : f1.type = u1)
    (hv : Value.okWide P W r b0 t v) (h : DataW.Trod enc P W 0 (fun _ => true) true t v d ps) :
    ∃ (v0 v1 : Value) (y0 y1 : DataW H × List MemPlace), v = .agg #[v0, v1] ∧ Value.okWide P W r b0 u0 v0 ∧ Value.okWide P W r b0 u1 v1 ∧
      DataW.Trod enc P W 0 (fun _ => true) true u0 v0 y0.1 y0.2 ∧ DataW.Trod enc P W 0 (fun _ => true) true u1 v1 y1.1 y1.2 := by
  obtain ⟨v0, v1, y0, y1, n, rfl, _, _, k0, k1⟩ := Go.Joins.open_agg2 hs hone hC hv h
  subst e0
  subst e1
  simp only [Value.okWide, hs] at hv
  obtain ⟨cs, hcs, _, ts, hts, _, hall⟩ := hv
  cases hcs
  rw [hct] at hts
  cases hts
  obtain ⟨w0, hw0, c0⟩ := hall 0 v0 rfl
  obtain ⟨w1, hw1, c1⟩ := hall 1 v1 rfl
  obtain rfl : w0 = f0.type := by simpa using hw0.symm
  obtain rfl : w1 = f1.type := by simpa using hw1.symm
  have d0 := okWide_of_cell h0 c0
  have d1 := okWide_of_cell h1 c1
  obtain ⟨_, _, _, rfl⟩ := okWide_slice h0 d0
  obtain ⟨_, _, _, rfl⟩ := okWide_slice h1 d1
  exact ⟨_, _, y0, y1, rfl, d0, d1, ⟨n, by simpa [Value.cells] using k0⟩, ⟨n, by simpa [Value.cells] using k1⟩⟩
end
/-- A slice that is held in a block is no longer than a slice may be. -/
theorem len_le {m : M} {n : Nat} {v : Value} (rp : ∀ (μ : Mu) i, μ.l[i]? = some m → RepA μ (.sl i 0 n) v) : n ≤ 9223372036854775807 := by
  obtain ⟨_, _, c, _, _, h1, h2, _⟩ := rp ⟨noZ, [m]⟩ 0 rfl
  exact Nat.le_trans h1 h2
end Go.Proofs.Ytbhfjdlhhjeknaa.Ab

/- The quiet operations, the third part: slices of slices, structs and arrays built; and all of them together. Only lemmas. -/
import Derived.Test.YtlopdogjdfeikaaAbOps2
namespace Go.Proofs.Ytlopdogjdfeikaa.Ab
set_option linter.unusedVariables false
set_option linter.unusedSimpArgs false
open Go

section
variable {P : Program} {R : Type} {K : V → Option R} {r : R}

theorem bound_run (n : Int) (y : Nat) (code : BoundsCode) (k : IntKind) (w : World) (h : 0 ≤ n ∧ n ≤ y) : (Instr.sliceBound (.int k n) y code).run P w = .ok n.toNat w := by
  simp [Instr.sliceBound, asIntOf, h]

theorem slice_run {ty : Ty} (hty : TyOk P ty) {t : TypeId} {x : V} {lo hi mx : Option V} (e : sliceK ty t x lo hi mx K = some r) :
    ∃ v, K v = some r ∧ ∀ (μ : Mu) (a : Value) (lo' hi' mx' : Option Value), RepV μ x a →
      (∀ u, lo = some u → ∃ b, lo' = some b ∧ RepV μ u b) → (lo = none → lo' = none) →
      (∀ u, hi = some u → ∃ b, hi' = some b ∧ RepV μ u b) → (hi = none → hi' = none) →
      (∀ u, mx = some u → ∃ b, mx' = some b ∧ RepV μ u b) → (mx = none → mx' = none) →
      ∀ (w : World), Gives P (Instr.sliceAt t a lo' hi' mx') μ v w := by
  unfold sliceK at e
  split at e
  · rename_i el b o len ht
    obtain ⟨_, _, d, rt⟩ := row hty ht
    have := desc_slice rt.desc rfl
    subst this
    split at e
    · rename_i I k l k' m hI hlo hhi
      obtain ⟨_, _, _, rI⟩ := row hty hI
      split at e
      · rename_i hb
        simp only [decide_eq_true_eq] at hb
        obtain ⟨b1, b2, b3⟩ := hb
        refine ⟨_, e, fun μ a lo' hi' mx' hx hl hl0 hh hh0 hm hm0 w => ?_⟩
        cases hm0 rfl
        obtain ⟨mm, ad, c, hmm, rfl, hc, hmax, had, hown⟩ := hx
        -- the bounds
        have run1 : (Instr.sliceBounds true len c lo' hi' none).run P w = .ok (l.toNat, m.toNat, c) w := by
          cases hi with
          | none =>
            cases hh0 rfl
            simp only [Option.getD_none] at hhi
            cases hhi
            cases lo with
            | none =>
              cases hl0 rfl
              simp only [Option.getD_none] at hlo
              cases hlo
              simp [Instr.sliceBounds]
            | some u =>
              simp only [Option.getD_some] at hlo
              subst hlo
              obtain ⟨bb, rfl, hr⟩ := hl _ rfl
              cases repInt hr
              have h1 := bound_run (P := P) l len .sliceB k w ⟨by omega, by omega⟩
              simp [Instr.sliceBounds, h1]
          | some u =>
            simp only [Option.getD_some] at hhi
            subst hhi
            obtain ⟨bb, rfl, hr⟩ := hh _ rfl
            cases repInt hr
            have h2 := bound_run (P := P) m c .sliceAcap k' w ⟨by omega, by omega⟩
            cases lo with
            | none =>
              cases hl0 rfl
              simp only [Option.getD_none] at hlo
              cases hlo
              simp [Instr.sliceBounds, h2]
            | some u =>
              simp only [Option.getD_some] at hlo
              subst hlo
              obtain ⟨bb, rfl, hr⟩ := hl _ rfl
              cases repInt hr
              have h1 := bound_run (P := P) l m.toNat .sliceB k w ⟨by omega, by omega⟩
              simp [Instr.sliceBounds, h2, h1]
        refine ⟨.slice (if c = l.toNat then some ad else some (ad.add (l.toNat * I.size))) (m.toNat - l.toNat) (c - l.toNat), 0, ?_, ?_⟩
        · simp only [Instr.sliceAt, Sem.run_bind, run_underlying rt.under, Result.andThen, Instr.slice, run1, rI.run_sizeOf]
          simp [World.drewN]
        · refine ⟨mm, if c = l.toNat then ad else ad.add (l.toNat * I.size), c - l.toNat, hmm, ?_, by omega, by omega, ?_, ?_⟩
          · rw [show (m - l).toNat = m.toNat - l.toNat by omega]
            split <;> rfl
          · intro h
            have hpos := rI.pos
            rcases h with h | h
            · have hne : ¬ c = l.toNat := by omega
              rw [if_neg hne, had (.inl (by omega)), addr_add, Nat.add_assoc]
            · have h1 : l.toNat * I.size = 0 := by omega
              have h2 : l.toNat = 0 := by
                rcases Nat.mul_eq_zero.1 h1 with h | h
                · exact h
                · omega
              have h3 : o = 0 := by omega
              subst h3
              rw [h2, Nat.zero_mul]
              have := had (.inr rfl)
              subst this
              split <;> simp [addr_add]
          · intro h how
            have hpos := rI.pos
            have h1 : l.toNat * I.size = 0 := by omega
            have h2 : l.toNat = 0 := by
              rcases Nat.mul_eq_zero.1 h1 with h | h
              · exact h
              · omega
            rw [h2]
            exact hown (by omega) how
      · cases e
    · cases e
  · rename_i el b len ht
    obtain ⟨_, _, d, rt⟩ := row hty ht
    have := desc_slice rt.desc rfl
    subst this
    split at e
    · rename_i I k m hI
      obtain ⟨_, _, _, rI⟩ := row hty hI
      split at e
      · rename_i hb
        simp only [decide_eq_true_eq] at hb
        refine ⟨_, e, fun μ a lo' hi' mx' hx hl hl0 hh hh0 hm hm0 w => ?_⟩
        cases hm0 rfl
        cases hl0 rfl
        obtain ⟨bb, rfl, hr⟩ := hh _ rfl
        cases repInt hr
        obtain ⟨mm, hmm, ⟨c, rfl, hc, hmax⟩ | ⟨rfl, rfl⟩⟩ := hx
        · have h2 := bound_run (P := P) m c .sliceAcap k w ⟨by omega, by omega⟩
          refine ⟨.slice (some ⟨mm.blk, mm.off, none⟩) m.toNat c, 0, ?_, ⟨mm, hmm, .inl ⟨c, rfl, by omega, hmax⟩⟩⟩
          simp only [Instr.sliceAt, Sem.run_bind, run_underlying rt.under, Result.andThen, Instr.slice]
          simp [Instr.sliceBounds, h2, rI.run_sizeOf, World.drewN, addr_add]
        · have h2 := bound_run (P := P) m 0 .sliceAcap k w ⟨by omega, by omega⟩
          refine ⟨.slice none 0 0, 0, ?_, ⟨mm, hmm, .inr ⟨by omega, rfl⟩⟩⟩
          have : m = 0 := by omega
          subst this
          simp only [Instr.sliceAt, Sem.run_bind, run_underlying rt.under, Result.andThen, Instr.slice]
          simp [Instr.sliceBounds, h2, rI.run_sizeOf, World.drewN]
      · cases e
    · cases e
  · rename_i el b o len k m ht
    obtain ⟨_, _, d, rt⟩ := row hty ht
    have := desc_slice rt.desc rfl
    subst this
    split at e
    · rename_i I k' q hI
      split at e
      · rename_i hb
        simp only [decide_eq_true_eq] at hb
        obtain ⟨rfl, rfl⟩ := hb
        obtain ⟨_, _, _, rI⟩ := row hty hI
        refine ⟨_, e, fun μ a lo' hi' mx' hx hl hl0 hh hh0 hm hm0 w => ?_⟩
        cases hl0 rfl
        obtain ⟨b1, rfl, hr1⟩ := hh _ rfl
        obtain ⟨b2, rfl, hr2⟩ := hm _ rfl
        cases repInt hr1
        cases repInt hr2
        obtain ⟨mm, ad, c, hmm, rfl, hc, hmax, had, hown⟩ := hx
        have h1 := bound_run (P := P) 0 c .slice3Acap k w ⟨by omega, by omega⟩
        have h2 := bound_run (P := P) 0 0 .slice3B k' w ⟨by omega, by omega⟩
        refine ⟨.slice (some ad) 0 0, 0, ?_, ⟨ad, rfl⟩⟩
        simp only [Instr.sliceAt, Sem.run_bind, run_underlying rt.under, Result.andThen, Instr.slice]
        simp [Instr.sliceBounds, h1, h2, rI.run_sizeOf, World.drewN]
      · cases e
    · cases e
  · rename_i el k m ht
    obtain ⟨_, _, d, rt⟩ := row hty ht
    have := desc_slice rt.desc rfl
    subst this
    split at e
    · rename_i I k' q hI
      split at e
      · rename_i hb
        simp only [decide_eq_true_eq] at hb
        obtain ⟨rfl, rfl⟩ := hb
        obtain ⟨_, _, _, rI⟩ := row hty hI
        refine ⟨_, e, fun μ a lo' hi' mx' hx hl hl0 hh hh0 hm hm0 w => ?_⟩
        cases hl0 rfl
        obtain ⟨b1, rfl, hr1⟩ := hh _ rfl
        obtain ⟨b2, rfl, hr2⟩ := hm _ rfl
        cases repInt hr1
        cases repInt hr2
        cases hx
        have h1 := bound_run (P := P) 0 0 .slice3Acap k w ⟨by omega, by omega⟩
        have h2 := bound_run (P := P) 0 0 .slice3B k' w ⟨by omega, by omega⟩
        refine ⟨.slice none 0 0, 0, ?_, rfl⟩
        simp only [Instr.sliceAt, Sem.run_bind, run_underlying rt.under, Result.andThen, Instr.slice]
        simp [Instr.sliceBounds, h1, h2, rI.run_sizeOf, World.drewN]
      · cases e
    · cases e
  · cases e

end
end Go.Proofs.Ytlopdogjdfeikaa.Ab

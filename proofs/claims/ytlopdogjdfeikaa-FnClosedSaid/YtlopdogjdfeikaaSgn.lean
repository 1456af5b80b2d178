/- Signs and sizes of what is reckoned in float32. Only lemmas. -/
import Derived.Test.YtlopdogjdfeikaaExp
namespace Go.Proofs.Ytlopdogjdfeikaa.Ab
set_option linter.unusedVariables false
set_option linter.unusedSimpArgs false
open Go

theorem read32_num (neg : Bool) (r : Nat) (hr : r < 2139095040) : ∃ m e, Ieee.single.read (Ieee.single.word neg r) = .number neg m e ∧ (r = 0 → m = 0) ∧ ∀ K : Nat, r ≤ K * 8388608 → m = 0 ∨ e + (m.log2 : Int) ≤ (K : Int) - 127 := by
  unfold Ieee.Format.read Ieee.Format.word
  have c1 : Ieee.single.signWeight = 2147483648 := by decide
  have c2 : Ieee.single.binade = 8388608 := by decide
  have c3 : Ieee.single.infRung = 2139095040 := by decide
  have c4 : Ieee.single.leastPlace = -149 := by decide
  simp only [c1, c2, c3, c4]
  have hm : (if neg = true then 2147483648 + r else r) % 2147483648 = r := by split <;> omega
  have hs : ((if neg = true then 2147483648 + r else r) / 2147483648 % 2 == 1) = neg := by
    cases neg
    · rw [if_neg (by decide), Nat.div_eq_of_lt (by omega)]; rfl
    · rw [if_pos rfl, Nat.add_div_left _ (by decide), Nat.div_eq_of_lt (by omega)]; rfl
  rw [hm, hs]
  split
  · rename_i h1
    refine ⟨_, _, rfl, fun h => h, fun K hK => ?_⟩
    by_cases h0 : r = 0
    · exact .inl h0
    · right
      have := (Nat.log2_lt h0).2 (show r < 2 ^ 23 by omega)
      have hK1 : 1 ≤ K := by
        cases K with
        | zero => omega
        | succ K => omega
      omega
  · rename_i h1
    have key : ∃ m e, (Ieee.Datum.number neg (8388608 + r % 8388608) (-149 + ((r / 8388608 - 1 : Nat) : Int))) = .number neg m e ∧ (r = 0 → m = 0) ∧ ∀ K : Nat, r ≤ K * 8388608 → m = 0 ∨ e + (m.log2 : Int) ≤ (K : Int) - 127 := by
      refine ⟨_, _, rfl, fun h => by omega, fun K hK => .inr ?_⟩
      have h2 := (Nat.log2_lt (show 8388608 + r % 8388608 ≠ 0 by omega)).2 (show 8388608 + r % 8388608 < 2 ^ 24 by omega)
      have h3 : r / 8388608 ≤ K := by rw [Nat.div_le_iff_le_mul (by decide)]; omega
      have h4 : 1 ≤ r / 8388608 := by rw [Nat.le_div_iff_mul_le (by decide)]; omega
      omega
    first
      | exact key
      | (rw [if_pos (by omega)]; exact key)

/-- Data that are not below nought; that are not above. -/
def G0 : Ieee.Datum → Prop
  | .nan _ _ => True
  | .infinity s => s = false
  | .number s m _ => s = false ∨ m = 0
def L0 : Ieee.Datum → Prop
  | .nan _ _ => True
  | .infinity s => s = true
  | .number s m _ => s = true ∨ m = 0
theorem g0_iff {k : FloatKind} {x : Nat} : Geq0 k x ↔ G0 (k.format.read x) := by
  unfold Geq0
  cases hr : k.format.read x with
  | nan s f => exact ⟨fun _ => trivial, fun _ h => (h s f rfl).elim⟩
  | infinity s =>
    refine ⟨fun h => ?_, fun h _ => ?_⟩
    · rcases h (fun _ _ e => by cases e) with h | ⟨_, _, _, h, _⟩
      · cases h; rfl
      · cases h
    · have h : s = false := h
      subst h
      exact .inl rfl
  | number s m e =>
    refine ⟨fun h => ?_, fun h _ => .inr ⟨s, m, e, rfl, h⟩⟩
    rcases h (fun _ _ e => by cases e) with h | ⟨_, _, _, h, h2⟩
    · cases h
    · cases h; exact h2
theorem l0_iff {k : FloatKind} {x : Nat} : Leq0 k x ↔ L0 (k.format.read x) := by
  unfold Leq0
  cases hr : k.format.read x with
  | nan s f => exact ⟨fun _ => trivial, fun _ h => (h s f rfl).elim⟩
  | infinity s =>
    refine ⟨fun h => ?_, fun h _ => ?_⟩
    · rcases h (fun _ _ e => by cases e) with h | ⟨_, _, _, h, _⟩
      · cases h; rfl
      · cases h
    · have h : s = true := h
      subst h
      exact .inl rfl
  | number s m e =>
    refine ⟨fun h => ?_, fun h _ => .inr ⟨s, m, e, rfl, h⟩⟩
    rcases h (fun _ _ e => by cases e) with h | ⟨_, _, _, h, h2⟩
    · cases h
    · cases h; exact h2
theorem near32 (s : Bool) (m : Nat) (e : Int) : ∃ r, Ieee.single.nearest s m e = Ieee.single.word s r ∧ r ≤ 2139095040 ∧ (m = 0 → r = 0) := by
  unfold Ieee.Format.nearest
  by_cases hm : m = 0
  · rw [if_pos hm]
    exact ⟨0, rfl, by decide, fun _ => rfl⟩
  · rw [if_neg hm]
    exact ⟨_, rfl, Nat.min_le_right _ _, fun h => (hm h).elim⟩
theorem read_inf (s : Bool) : Ieee.single.read (Ieee.single.word s 2139095040) = .infinity s := by cases s <;> decide
theorem write_g0 {d : Ieee.Datum} (hn : d.isNaN = false) (h : G0 d) : G0 (Ieee.single.read (Ieee.single.write d)) := by
  cases d with
  | nan s f => cases hn
  | infinity s =>
    have h : s = false := h
    subst h
    have : Ieee.single.read (Ieee.single.write (.infinity false)) = .infinity false := by decide
    rw [this]; rfl
  | number s m e =>
    obtain ⟨r, h1, h2, h3⟩ := near32 s m e
    show G0 (Ieee.single.read (Ieee.single.nearest s m e))
    rw [h1]
    by_cases hi : r = 2139095040
    · subst hi
      rw [read_inf]
      rcases h with h | h
      · exact h
      · have := h3 h; omega
    · obtain ⟨m', e', h4, h5, _⟩ := read32_num s r (by omega)
      rw [h4]
      rcases h with h | h
      · exact .inl h
      · exact .inr (h5 (h3 h))
theorem write_l0 {d : Ieee.Datum} (hn : d.isNaN = false) (h : L0 d) : L0 (Ieee.single.read (Ieee.single.write d)) := by
  cases d with
  | nan s f => cases hn
  | infinity s =>
    have h : s = true := h
    subst h
    have : Ieee.single.read (Ieee.single.write (.infinity true)) = .infinity true := by decide
    rw [this]; rfl
  | number s m e =>
    obtain ⟨r, h1, h2, h3⟩ := near32 s m e
    show L0 (Ieee.single.read (Ieee.single.nearest s m e))
    rw [h1]
    by_cases hi : r = 2139095040
    · subst hi
      rw [read_inf]
      rcases h with h | h
      · exact h
      · have := h3 h; omega
    · obtain ⟨m', e', h4, h5, _⟩ := read32_num s r (by omega)
      rw [h4]
      rcases h with h | h
      · exact .inl h
      · exact .inr (h5 (h3 h))
theorem qnan_read : Ieee.single.read (qnan .f32) = .nan false 4194304 := by decide
theorem mul_g0 {x y : Nat} (hx : Geq0 .f32 x) (hy : Geq0 .f32 y) : Geq0 .f32 (fop .mul .f32 x y) := by
  rw [g0_iff] at *
  show G0 (Ieee.single.read ((((FloatKind.f32.format.read x).product (FloatKind.f32.format.read y)).map Ieee.single.write).getD (qnan .f32)))
  revert hx hy
  generalize FloatKind.f32.format.read x = a
  generalize FloatKind.f32.format.read y = b
  intro hx hy
  cases hp : a.product b with
  | none => show G0 (Ieee.single.read (qnan .f32)); rw [qnan_read]; trivial
  | some d =>
    show G0 (Ieee.single.read (Ieee.single.write d))
    refine write_g0 (product_some hp).2.2 ?_
    cases a with
    | nan s f => cases hp
    | infinity s =>
      have hs : s = false := hx
      subst hs
      cases b with
      | nan s f => cases hp
      | infinity t => have ht : t = false := hy; subst ht; cases hp; rfl
      | number t n j =>
        unfold Ieee.Datum.product at hp
        dsimp only at hp
        split at hp
        · cases hp
        · rename_i hn
          cases hp
          have ht : t = false := hy.resolve_right hn
          subst ht
          rfl
    | number s m i =>
      cases b with
      | nan s f => cases hp
      | infinity t =>
        have ht : t = false := hy
        subst ht
        unfold Ieee.Datum.product at hp
        dsimp only at hp
        split at hp
        · cases hp
        · rename_i hn
          cases hp
          have hs : s = false := hx.resolve_right hn
          subst hs
          rfl
      | number t n j =>
        cases hp
        rcases hx with rfl | rfl
        · rcases hy with rfl | rfl
          · exact .inl rfl
          · exact .inr (by simp)
        · exact .inr (by simp)
theorem quo_g0 {x y : Nat} (hx : Geq0 .f32 x) {n : Nat} {j : Int} (hy : FloatKind.f32.format.read y = .number false n j) (hn : n ≠ 0) : Geq0 .f32 (fop .quo .f32 x y) := by
  rw [g0_iff] at *
  show G0 (Ieee.single.read ((((FloatKind.f32.format.read x).quotient 25 (FloatKind.f32.format.read y)).map Ieee.single.write).getD (qnan .f32)))
  rw [hy]
  revert hx
  generalize FloatKind.f32.format.read x = a
  intro hx
  cases hp : a.quotient 25 (.number false n j) with
  | none => show G0 (Ieee.single.read (qnan .f32)); rw [qnan_read]; trivial
  | some d =>
    show G0 (Ieee.single.read (Ieee.single.write d))
    refine write_g0 (quotient_some hp).2.2 ?_
    cases a with
    | nan s f => cases hp
    | infinity s => have hs : s = false := hx; subst hs; cases hp; rfl
    | number s m i =>
      unfold Ieee.Datum.quotient at hp
      dsimp only at hp
      rw [if_neg hn] at hp
      cases hp
      rcases hx with rfl | rfl
      · exact .inl rfl
      · exact .inr (by simp)
theorem sub0_l0 {y : Nat} (hy : Geq0 .f32 y) : Leq0 .f32 (fop .sub .f32 0 y) := by
  rw [g0_iff] at hy
  rw [l0_iff]
  show L0 (Ieee.single.read ((((FloatKind.f32.format.read 0).sum (FloatKind.f32.format.read y).opposite).map Ieee.single.write).getD (qnan .f32)))
  rw [zero32]
  revert hy
  generalize FloatKind.f32.format.read y = b
  intro hy
  cases hp : (Ieee.Datum.number false 0 (-149)).sum b.opposite with
  | none => show L0 (Ieee.single.read (qnan .f32)); rw [qnan_read]; trivial
  | some d =>
    show L0 (Ieee.single.read (Ieee.single.write d))
    refine write_l0 (sum_some hp).2.2 ?_
    cases b with
    | nan s f => cases hp
    | infinity s => have hs : s = false := hy; subst hs; cases hp; rfl
    | number s m e =>
      unfold Ieee.Datum.opposite Ieee.Datum.sum at hp
      dsimp only at hp
      cases hp
      have h0 : Ieee.signed false 0 (-149 - min (-149) e).toNat = 0 := by simp [Ieee.signed]
      rw [h0, Int.zero_add]
      rcases hy with rfl | rfl
      · by_cases hz : Ieee.signed (!false) m (e - min (-149) e).toNat = 0
        · right
          rw [hz]
          rfl
        · left
          rw [if_neg hz]
          refine decide_eq_true ?_
          have hle : Ieee.signed (!false) m (e - min (-149) e).toNat = -((m <<< (e - min (-149) e).toNat : Nat) : Int) := rfl
          rw [hle] at hz ⊢
          generalize m <<< (e - min (-149) e).toNat = q at hz
          omega
      · right
        have : Ieee.signed (!s) 0 (e - min (-149) e).toNat = 0 := by unfold Ieee.signed; cases s <;> simp
        rw [this]
        rfl
theorem near64 (s : Bool) (m : Nat) (e : Int) : ∃ r, Ieee.double.nearest s m e = Ieee.double.word s r ∧ r ≤ 9218868437227405312 ∧ (m = 0 → r = 0) := by
  unfold Ieee.Format.nearest
  by_cases hm : m = 0
  · rw [if_pos hm]
    exact ⟨0, rfl, by decide, fun _ => rfl⟩
  · rw [if_neg hm]
    exact ⟨_, rfl, Nat.min_le_right _ _, fun h => (hm h).elim⟩
theorem read64_any (neg : Bool) (r : Nat) (hr : r < 9218868437227405312) : ∃ m e, Ieee.double.read (Ieee.double.word neg r) = .number neg m e ∧ (r = 0 → m = 0) := by
  unfold Ieee.Format.read Ieee.Format.word
  have c1 : Ieee.double.signWeight = 9223372036854775808 := by decide
  have c2 : Ieee.double.binade = 4503599627370496 := by decide
  have c3 : Ieee.double.infRung = 9218868437227405312 := by decide
  simp only [c1, c2, c3]
  have hm : (if neg = true then 9223372036854775808 + r else r) % 9223372036854775808 = r := by split <;> omega
  have hs : ((if neg = true then 9223372036854775808 + r else r) / 9223372036854775808 % 2 == 1) = neg := by
    cases neg
    · rw [if_neg (by decide), Nat.div_eq_of_lt (by omega)]; rfl
    · rw [if_pos rfl, Nat.add_div_left _ (by decide), Nat.div_eq_of_lt (by omega)]; rfl
  rw [hm, hs]
  split
  · exact ⟨_, _, rfl, fun h => h⟩
  · first
      | exact ⟨_, _, rfl, fun h => by omega⟩
      | (rw [if_pos (by omega)]; exact ⟨_, _, rfl, fun h => by omega⟩)
theorem up_l0 {x : Nat} (h : Leq0 .f32 x) : Leq0 .f64 (up x) := by
  rw [l0_iff] at *
  have hx := fconv_eq x
  unfold fconv at hx
  rw [if_neg (by decide)] at hx
  have hd : FloatKind.f32.decode x = FloatKind.f32.format.read x := rfl
  rw [hd] at hx
  cases hr : FloatKind.f32.format.read x with
  | nan s f =>
    rw [hr, if_pos (show (Ieee.Datum.nan s f).isNaN = true from rfl)] at hx
    rw [← Option.some.inj hx]
    have : FloatKind.f64.format.read (qnan .f64) = .nan false 2251799813685248 := by decide +kernel
    rw [this]
    trivial
  | infinity s =>
    rw [hr] at h
    have hs : s = true := h
    subst hs
    rw [hr, if_neg (show ¬ ((Ieee.Datum.infinity true).isNaN = true) from fun h => by cases h)] at hx
    unfold floatToFloatBits at hx
    rw [if_neg (by decide), hd, hr] at hx
    rw [← Option.some.inj hx]
    have : FloatKind.f64.format.read (FloatKind.f64.encode (.infinity true)) = .infinity true := by decide +kernel
    rw [this]
    rfl
  | number s m e =>
    rw [hr] at h
    rw [hr, if_neg (show ¬ ((Ieee.Datum.number s m e).isNaN = true) from fun h => by cases h)] at hx
    unfold floatToFloatBits at hx
    rw [if_neg (by decide), hd, hr] at hx
    simp only at hx
    split at hx
    · cases hx
    rename_i hi
    rw [← Option.some.inj hx]
    show L0 (Ieee.double.read (Ieee.double.nearest s m e))
    have hi : ¬ ((Ieee.double.read (Ieee.double.nearest s m e)).isInfinity = true) := hi
    obtain ⟨r, h1, h2, h3⟩ := near64 s m e
    rw [h1] at hi ⊢
    by_cases hr0 : r = 9218868437227405312
    · subst hr0
      exfalso
      apply hi
      cases s <;> decide +kernel
    · obtain ⟨m', e', h4, h5⟩ := read64_any s r (by omega)
      rw [h4]
      rcases h with h | h
      · exact .inl h
      · exact .inr (h5 (h3 h))
theorem non_geq {x : Nat} (h : nonB x = true) : Geq0 .f32 x := by
  unfold nonB at h
  simp only [Bool.and_eq_true, Bool.or_eq_true] at h
  obtain ⟨h1, h2⟩ := h
  obtain ⟨s, m, e, hr⟩ := num_of_fin h1
  rw [g0_iff, hr]
  unfold gtB eqB Ieee.Format.order at h2
  rw [zero32, hr] at h2
  unfold Ieee.Datum.order at h2
  dsimp only at h2
  have hz : Ieee.signed false 0 (-149 - min e (-149)).toNat = 0 := by simp [Ieee.signed]
  rw [hz] at h2
  cases s with
  | false => exact .inl rfl
  | true =>
    right
    have hle : Ieee.signed true m (e - min e (-149)).toNat = -((m <<< (e - min e (-149)).toNat : Nat) : Int) := rfl
    rw [hle] at h2
    have hge : ¬ (-((m <<< (e - min e (-149)).toNat : Nat) : Int) < 0) := by
      intro hlt
      have : compare (-((m <<< (e - min e (-149)).toNat : Nat) : Int)) 0 = .lt := Int.compare_eq_lt.2 hlt
      rw [this] at h2
      rcases h2 with h2 | h2 <;> exact absurd h2 (by decide)
    have h0 : m <<< (e - min e (-149)).toNat = 0 := by
      generalize m <<< (e - min e (-149)).toNat = q at hge
      omega
    rw [Nat.shiftLeft_eq] at h0
    rcases Nat.mul_eq_zero.1 h0 with h | h
    · exact h
    · exact absurd h (Nat.ne_of_gt (Nat.pow_pos (by decide)))
theorem pos_num {x : Nat} (h : posB x = true) : ∃ n j, FloatKind.f32.format.read x = .number false n j ∧ n ≠ 0 := by
  unfold posB at h
  simp only [Bool.and_eq_true] at h
  obtain ⟨h1, h2⟩ := h
  obtain ⟨s, m, e, hr⟩ := num_of_fin h1
  unfold gtB Ieee.Format.order at h2
  rw [zero32, hr] at h2
  unfold Ieee.Datum.order at h2
  dsimp only at h2
  have hz : Ieee.signed false 0 (-149 - min e (-149)).toNat = 0 := by simp [Ieee.signed]
  rw [hz] at h2
  have hgt : 0 < Ieee.signed s m (e - min e (-149)).toNat := by
    have h3 : compare (Ieee.signed s m (e - min e (-149)).toNat) 0 = .gt := by simpa using h2
    exact Int.compare_eq_gt.1 h3
  cases s with
  | true =>
    have hle : Ieee.signed true m (e - min e (-149)).toNat = -((m <<< (e - min e (-149)).toNat : Nat) : Int) := rfl
    rw [hle] at hgt
    generalize m <<< (e - min e (-149)).toNat = q at hgt
    omega
  | false =>
    refine ⟨m, e, hr, fun h0 => ?_⟩
    subst h0
    simp [Ieee.signed] at hgt
def expOk (x : Nat) : Bool := (fconv .f64 (expD (up x)) .f32).isSome
def expF (x : Nat) : Nat := (fconv .f64 (expD (up x)) .f32).getD 0
theorem expOk_of {x : Nat} (h : Leq0 .f32 x) : expOk x = true := by
  obtain ⟨r, hr⟩ := exp_conv (up_l0 h)
  unfold expOk
  rw [hr]
  rfl
end Go.Proofs.Ytlopdogjdfeikaa.Ab

/- Finite numbers: what is finite comes of finite ones; a root is not negative. Only lemmas. -/
import Derived.Test.YtlopdogjdfeikaaBnd
namespace Go.Proofs.Ytlopdogjdfeikaa.Ab
set_option linter.unusedVariables false
set_option linter.unusedSimpArgs false
open Go

def Num (k : FloatKind) (x : Nat) : Prop := ∃ s m e, k.format.read x = .number s m e
theorem num_of_fin {x : Nat} (h : finB x = true) : Num .f32 x := by
  cases hr : FloatKind.f32.format.read x with
  | number s m e => exact ⟨s, m, e, hr⟩
  | nan s f => exact (fin_order h (show (FloatKind.f32.format.read x).isNaN = true by rw [hr]; rfl)).elim
  | infinity s =>
    exfalso
    unfold finB at h
    have h1 : fop .sub .f32 x x = qnan .f32 := by
      unfold fop floatBits
      show ((FloatKind.f32.format.sub x x)).getD _ = _
      unfold Ieee.Format.sub
      rw [hr]
      cases s <;> rfl
    rw [h1, order_nan (Or.inl (isN_qnan _))] at h
    exact absurd h (by decide)
theorem fin_of_num {x : Nat} (h : Num .f32 x) : finB x = true := by
  obtain ⟨s, m, e, hr⟩ := h
  have h1 : ∃ b, fop .sub .f32 x x = Ieee.single.word b 0 := by
    unfold fop floatBits
    show ∃ b, ((FloatKind.f32.format.sub x x)).getD _ = _
    unfold Ieee.Format.sub
    rw [hr]
    show ∃ b, ((((Ieee.Datum.number s m e).sum (Ieee.Datum.number (!s) m e))).map Ieee.single.write).getD _ = _
    unfold Ieee.Datum.sum
    dsimp only
    have hz : Ieee.signed s m (e - min e e).toNat + Ieee.signed (!s) m (e - min e e).toNat = 0 := by
      unfold Ieee.signed
      cases s <;> simp <;> omega
    rw [hz]
    refine ⟨s && !s, ?_⟩
    show Ieee.single.nearest _ 0 (min e e) = _
    unfold Ieee.Format.nearest
    rw [if_pos rfl, if_pos rfl]
  obtain ⟨b, hb⟩ := h1
  unfold finB
  rw [hb]
  cases b <;> decide
theorem not_num_inf (s : Bool) : ¬ Num .f32 (Ieee.single.write (.infinity s)) := by
  rintro ⟨t, m, e, h⟩
  have : FloatKind.f32.format.read (Ieee.single.write (.infinity s)) = .infinity s := by cases s <;> decide
  rw [this] at h
  cases h
theorem not_num_qnan : ¬ Num .f32 (qnan .f32) := by
  rintro ⟨t, m, e, h⟩
  have : FloatKind.f32.format.read (qnan .f32) = .nan false 4194304 := by decide
  rw [this] at h
  cases h
theorem fin_mul {x y : Nat} (h : finB (fop .mul .f32 x y) = true) : finB x = true ∧ finB y = true := by
  have hn := num_of_fin h
  unfold fop floatBits at hn
  have hn : Num .f32 ((((FloatKind.f32.format.read x).product (FloatKind.f32.format.read y)).map Ieee.single.write).getD (qnan .f32)) := hn
  cases hx : FloatKind.f32.format.read x with
  | nan s f => rw [hx] at hn; exact (not_num_qnan hn).elim
  | infinity s =>
    rw [hx] at hn
    cases hy : FloatKind.f32.format.read y with
    | nan s f => rw [hy] at hn; exact (not_num_qnan hn).elim
    | infinity t => rw [hy] at hn; exact (not_num_inf _ hn).elim
    | number t n j =>
      rw [hy] at hn
      unfold Ieee.Datum.product at hn
      dsimp only at hn
      split at hn
      · exact (not_num_qnan hn).elim
      · exact (not_num_inf _ hn).elim
  | number s m i =>
    refine ⟨fin_of_num ⟨s, m, i, hx⟩, ?_⟩
    rw [hx] at hn
    cases hy : FloatKind.f32.format.read y with
    | nan s f => rw [hy] at hn; exact (not_num_qnan hn).elim
    | infinity t =>
      rw [hy] at hn
      unfold Ieee.Datum.product at hn
      dsimp only at hn
      split at hn
      · exact (not_num_qnan hn).elim
      · exact (not_num_inf _ hn).elim
    | number t n j => exact fin_of_num ⟨t, n, j, hy⟩
theorem sum_num {d e : Ieee.Datum} (h : Num .f32 (((d.sum e).map Ieee.single.write).getD (qnan .f32))) : (∃ s m i, d = .number s m i) ∧ ∃ s m i, e = .number s m i := by
  cases d with
  | nan s f => exact (not_num_qnan h).elim
  | infinity s =>
    cases e with
    | nan s f => exact (not_num_qnan h).elim
    | infinity t =>
      unfold Ieee.Datum.sum at h
      dsimp only at h
      split at h
      · exact (not_num_inf _ h).elim
      · exact (not_num_qnan h).elim
    | number t n j => exact (not_num_inf _ h).elim
  | number s m i =>
    cases e with
    | nan s f => exact (not_num_qnan h).elim
    | infinity t => exact (not_num_inf _ h).elim
    | number t n j => exact ⟨⟨_, _, _, rfl⟩, _, _, _, rfl⟩
theorem fin_add {x y : Nat} (h : finB (fop .add .f32 x y) = true) : finB x = true ∧ finB y = true := by
  obtain ⟨h1, h2⟩ := sum_num (d := FloatKind.f32.format.read x) (e := FloatKind.f32.format.read y) (num_of_fin h)
  exact ⟨fin_of_num h1, fin_of_num h2⟩
theorem fin_sub {x y : Nat} (h : finB (fop .sub .f32 x y) = true) : finB x = true ∧ finB y = true := by
  obtain ⟨h1, s, m, i, h2⟩ := sum_num (d := FloatKind.f32.format.read x) (e := (FloatKind.f32.format.read y).opposite) (num_of_fin h)
  refine ⟨fin_of_num h1, fin_of_num ?_⟩
  cases hy : FloatKind.f32.format.read y with
  | nan s f => rw [hy] at h2; cases h2
  | infinity t => rw [hy] at h2; cases h2
  | number t n j => exact ⟨t, n, j, hy⟩

/-! ### Signs -/
/-- Not less than nought. -/
def Geq0 (k : FloatKind) (x : Nat) : Prop := (∀ s f, k.format.read x ≠ .nan s f) → (k.format.read x = .infinity false) ∨ ∃ s m e, k.format.read x = .number s m e ∧ (s = false ∨ m = 0)
theorem zero32 : FloatKind.f32.format.read 0 = .number false 0 (-149) := by decide
theorem geq0_lt {x : Nat} (h : Geq0 .f32 x) : ltB x 0 = false := by
  unfold ltB Ieee.Format.order
  rw [zero32]
  cases hr : FloatKind.f32.format.read x with
  | nan s f => rfl
  | infinity s =>
    rcases h (fun s f e => by rw [hr] at e; cases e) with h | ⟨s', m, e, h, _⟩
    · rw [hr] at h; cases h; rfl
    · rw [hr] at h; cases h
  | number s m e =>
    rcases h (fun s f e => by rw [hr] at e; cases e) with h | ⟨s', m', e', h, hs⟩
    · rw [hr] at h; cases h
    · rw [hr] at h
      cases h
      unfold Ieee.Datum.order
      dsimp only
      have hz : Ieee.signed false 0 (-149 - min e (-149)).toNat = 0 := by simp [Ieee.signed]
      rw [hz]
      have hx : 0 ≤ Ieee.signed s m (e - min e (-149)).toNat := by
        unfold Ieee.signed
        rcases hs with rfl | rfl
        · rw [if_neg (by decide)]; exact Int.natCast_nonneg _
        · cases s <;> simp
      generalize Ieee.signed s m (e - min e (-149)).toNat = z at hx
      have : compare z 0 ≠ .lt := by
        intro hc
        rw [Int.compare_eq_lt] at hc
        omega
      cases hc : compare z 0 with
      | lt => exact (this hc).elim
      | eq => rfl
      | gt => rfl
theorem read32_word (neg : Bool) (r : Nat) (hr : r < 2139095040) : ∃ m e, Ieee.single.read (Ieee.single.word neg r) = .number neg m e ∧ (r = 0 → m = 0) := by
  unfold Ieee.Format.read Ieee.Format.word
  have c1 : Ieee.single.signWeight = 2147483648 := by decide
  have c2 : Ieee.single.binade = 8388608 := by decide
  have c3 : Ieee.single.infRung = 2139095040 := by decide
  simp only [c1, c2, c3]
  have hm : (if neg = true then 2147483648 + r else r) % 2147483648 = r := by split <;> omega
  have hs : ((if neg = true then 2147483648 + r else r) / 2147483648 % 2 == 1) = neg := by
    cases neg
    · rw [if_neg (by decide), Nat.div_eq_of_lt (by omega)]; rfl
    · rw [if_pos rfl, Nat.add_div_left _ (by decide), Nat.div_eq_of_lt (by omega)]; rfl
  rw [hm, hs]
  split
  · exact ⟨_, _, rfl, fun h => h⟩
  · first
      | exact ⟨_, _, rfl, fun h => by omega⟩
      | (rw [if_pos (by omega)]; exact ⟨_, _, rfl, fun h => by omega⟩)
/-- A float64 that is not negative has a float32 that is not. -/
theorem geq0_conv {y r : Nat} (h : Geq0 .f64 y) (hc : fconv .f64 y .f32 = some r) : Geq0 .f32 r := by
  intro hr
  unfold fconv at hc
  rw [if_neg (by decide)] at hc
  split at hc
  · simp only [Option.some.injEq] at hc
    rw [← hc] at hr
    exact (hr false 4194304 (by decide)).elim
  · rename_i hn
    unfold floatToFloatBits at hc
    rw [if_neg (by decide)] at hc
    cases hd : FloatKind.f64.decode y with
    | nan s f => rw [hd] at hn; exact (hn rfl).elim
    | infinity s =>
      rw [hd] at hc
      simp only [Option.some.injEq] at hc
      rcases h (fun s f e => by have e : FloatKind.f64.decode y = _ := e; rw [hd] at e; cases e) with h | ⟨s', m, e, h, _⟩
      · have h : FloatKind.f64.decode y = _ := h
        rw [hd] at h; cases h
        left
        rw [← hc]
        decide
      · have h : FloatKind.f64.decode y = _ := h
        rw [hd] at h; cases h
    | number s m e =>
      rw [hd] at hc
      simp only at hc
      split at hc
      · cases hc
      · rename_i hi
        simp only [Option.some.injEq] at hc
        rcases h (fun s f e => by have e : FloatKind.f64.decode y = _ := e; rw [hd] at e; cases e) with h | ⟨s', m', e', h, hs⟩
        · have h : FloatKind.f64.decode y = _ := h
          rw [hd] at h; cases h
        · have h : FloatKind.f64.decode y = _ := h
          rw [hd] at h
          cases h
          right
          have hc : Ieee.single.nearest s m e = r := hc
          have hi3 : ¬ ((Ieee.single.read (Ieee.single.nearest s m e)).isInfinity = true) := hi
          rw [hc] at hi3
          unfold Ieee.Format.nearest at hc
          by_cases hm : m = 0
          · rw [if_pos hm] at hc
            obtain ⟨m2, e2, h1, h2⟩ := read32_word s 0 (by decide)
            rw [hc] at h1
            exact ⟨s, m2, e2, h1, .inr (h2 rfl)⟩
          · rw [if_neg hm] at hc
            have hsf : s = false := hs.resolve_right hm
            subst hsf
            have c3 : Ieee.single.infRung = 2139095040 := by decide
            rw [c3] at hc
            dsimp only at hc
            generalize hg : min _ 2139095040 = g at hc
            have hgle : g ≤ 2139095040 := by rw [← hg]; exact Nat.min_le_right _ _
            by_cases hge : g = 2139095040
            · subst hge
              exfalso
              apply hi3
              rw [← hc]
              decide
            · obtain ⟨m2, e2, h1, _⟩ := read32_word false g (by omega)
              rw [hc] at h1
              exact ⟨false, m2, e2, h1, .inl rfl⟩
theorem geq0_near (m : Nat) (p B : Int) (h : m = 0 ∨ p + (m.log2 : Int) < B) (hB : B ≤ 1000) (hB' : -1000 ≤ B) : Geq0 .f64 (Ieee.double.nearest false m p) := by
  intro _
  right
  obtain ⟨r, h1, h2⟩ := near_le Ieee.double false m p B (by show (-1074 : Int) + 52 ≤ B; omega) h
  have h2 : r ≤ (B - (-1074) - 52 + 1).toNat * 4503599627370496 := h2
  obtain ⟨m', e', h3, _⟩ := read64_le false r _ h2 (by omega)
  rw [h1]
  exact ⟨false, m', e', h3, .inl rfl⟩
theorem geq0_root (x : Nat) : Geq0 .f64 (fsqrt (up x)) := by
  cases hx : isN .f32 x with
  | true =>
    have hu : up x = qnan .f64 := by
      have h := fconv_eq x
      unfold fconv at h
      unfold isN at hx
      rw [if_neg (by decide), if_pos hx] at h
      exact (Option.some.inj h).symm
    rw [hu]
    intro h
    exact (h false 2251799813685248 (by decide +kernel)).elim
  | false =>
    rcases up_num hx with ⟨s, hd⟩ | ⟨s, m, e, hd, hb⟩
    · have hd' : Ieee.double.read (up x) = .infinity s := hd
      unfold fsqrt
      show Geq0 .f64 ((Ieee.double.sqrt (up x)).getD _)
      unfold Ieee.Format.sqrt
      rw [hd']
      intro h
      cases s
      · exact .inl (by decide +kernel)
      · exact (h false 2251799813685248 (by decide +kernel)).elim
    · have hd' : Ieee.double.read (up x) = .number s m e := hd
      have hs : FloatKind.f64.format.sqrt (up x) = ((Ieee.Datum.number s m e).root 54).map Ieee.double.write := by
        show Ieee.double.sqrt (up x) = _
        unfold Ieee.Format.sqrt
        rw [hd']
        rfl
      unfold fsqrt
      rw [hs]
      unfold Ieee.Datum.root
      dsimp only
      by_cases h0 : m = 0
      · rw [if_pos h0]
        subst h0
        have hz : Ieee.double.write (.number s 0 e) = Ieee.double.word s 0 := by
          show Ieee.double.nearest s 0 e = _
          unfold Ieee.Format.nearest
          rw [if_pos rfl]
        show Geq0 .f64 (Ieee.double.write (.number s 0 e))
        rw [hz]
        intro _
        right
        cases s
        · exact ⟨false, 0, -1074, by decide +kernel, .inl rfl⟩
        · exact ⟨true, 0, -1074, by decide +kernel, .inr rfl⟩
      · rw [if_neg h0]
        cases s with
        | true =>
          rw [if_pos rfl]
          intro h
          exact (h false 2251799813685248 (by decide +kernel)).elim
        | false =>
          rw [if_neg (by decide)]
          have hb : e + (m.log2 : Int) ≤ 128 := hb.resolve_left h0
          generalize hmore : (2 * 54 - m.log2 + ((e - ((2 * 54 - m.log2 : Nat) : Int)) % 2).toNat : Nat) = more
          generalize hw : Ieee.Datum.rootFrom (m <<< more) ((m <<< more).log2 / 2 + 1) 0 = w
          have hsq : w * w ≤ m <<< more := by rw [← hw]; exact rootFrom_sq _ _ _ (by simp)
          generalize hodd : (w * w != m <<< more).toNat = b
          have hb1 : b ≤ 1 := by rw [← hodd]; cases (w * w != m <<< more) <;> decide
          show Geq0 .f64 (Ieee.double.nearest false (2 * w + b) ((e - (more : Int)) / 2 - 1))
          refine geq0_near _ _ 66 ?_ (by decide) (by decide)
          by_cases hw0 : w = 0
          · subst hw0
            by_cases hb0 : b = 0
            · left; omega
            · right
              have : b = 1 := by omega
              subst this
              have : (2 * 0 + 1).log2 = 0 := by decide
              omega
          · right
            rw [log_odd hw0 hb1]
            have h1 := log_sq hw0 hsq
            rw [log_shl h0] at h1
            omega
theorem rootF_lt (x : Nat) : ltB (rootF x) 0 = false := geq0_lt (geq0_conv (geq0_root x) (rootF_eq x))
end Go.Proofs.Ytlopdogjdfeikaa.Ab

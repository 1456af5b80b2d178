/- Sums of small numbers are finite; the weights of a rotor. Only lemmas. -/
import Derived.Test.YtlopdogjdfeikaaSgn
namespace Go.Proofs.Ytlopdogjdfeikaa.Ab
set_option linter.unusedVariables false
set_option linter.unusedSimpArgs false
open Go

/-- A number below 2 to the power of B. -/
def Bel (B : Int) (x : Nat) : Prop := ∃ s m e, FloatKind.f32.format.read x = .number s m e ∧ (m = 0 ∨ e + (m.log2 : Int) < B)
theorem bel_fin {B : Int} {x : Nat} (h : Bel B x) : finB x = true := by
  obtain ⟨s, m, e, h, _⟩ := h
  exact fin_of_num ⟨s, m, e, h⟩
theorem Bel.mono {A B : Int} {x : Nat} (h : Bel A x) (hAB : A ≤ B) : Bel B x := by
  obtain ⟨s, m, e, h, h2⟩ := h
  exact ⟨s, m, e, h, by omega⟩
theorem bel_near {s : Bool} {m : Nat} {p B : Int} (h : m = 0 ∨ p + (m.log2 : Int) < B) (h1 : -100 ≤ B) (h2 : B ≤ 126) : Bel (B + 1) (Ieee.single.nearest s m p) := by
  obtain ⟨r, h3, h4⟩ := near_le Ieee.single s m p B (by show (-149 : Int) + 23 ≤ B; omega) h
  have h4 : r ≤ (B - (-149) - 23 + 1).toNat * 8388608 := h4
  rw [h3]
  obtain ⟨m', e', h5, _, h6⟩ := read32_num s r (by omega)
  have := h6 _ h4
  exact ⟨s, m', e', h5, by omega⟩
theorem log_mul {m n : Nat} (hm : m ≠ 0) (hn : n ≠ 0) : (m * n).log2 ≤ m.log2 + n.log2 + 1 := by
  have h1 : m < 2 ^ (m.log2 + 1) := Nat.lt_log2_self
  have h2 : n < 2 ^ (n.log2 + 1) := Nat.lt_log2_self
  have h3 : m * n < 2 ^ (m.log2 + n.log2 + 2) := by
    rw [show m.log2 + n.log2 + 2 = (m.log2 + 1) + (n.log2 + 1) by omega, Nat.pow_add]
    exact Nat.mul_lt_mul'' h1 h2
  have := (Nat.log2_lt (Nat.mul_ne_zero hm hn)).2 h3
  omega
theorem bel_mul {A B : Int} {x y : Nat} (hx : Bel A x) (hy : Bel B y) (h1 : -100 ≤ A + B) (h2 : A + B ≤ 126) : Bel (A + B + 1) (fop .mul .f32 x y) := by
  obtain ⟨s, m, i, hx, hm⟩ := hx
  obtain ⟨t, n, j, hy, hn⟩ := hy
  have e : fop .mul .f32 x y = Ieee.single.nearest (s ^^ t) (m * n) (i + j) := by
    unfold fop floatBits
    show (Ieee.single.mul x y).getD _ = _
    have hx : Ieee.single.read x = _ := hx
    have hy : Ieee.single.read y = _ := hy
    unfold Ieee.Format.mul
    rw [hx, hy]
    rfl
  rw [e]
  refine bel_near ?_ h1 h2
  by_cases m0 : m = 0
  · left; rw [m0, Nat.zero_mul]
  by_cases n0 : n = 0
  · left; rw [n0, Nat.mul_zero]
  right
  have := log_mul m0 n0
  omega
theorem signed_abs (s : Bool) (m k : Nat) : (Ieee.signed s m k).natAbs = m * 2 ^ k := by
  unfold Ieee.signed
  cases s
  · rw [if_neg (by decide), Nat.shiftLeft_eq]; exact Int.natAbs_natCast _
  · rw [if_pos rfl, Nat.shiftLeft_eq, Int.natAbs_neg]; exact Int.natAbs_natCast _
theorem bel_add {B : Int} {x y : Nat} (hx : Bel B x) (hy : Bel B y) (h1 : -100 ≤ B) (h2 : B ≤ 125) : Bel (B + 2) (fop .add .f32 x y) := by
  obtain ⟨s, m, i, hx, hm⟩ := hx
  obtain ⟨t, n, j, hy, hn⟩ := hy
  have e : ∃ b : Bool, fop .add .f32 x y = Ieee.single.nearest b (Ieee.signed s m (i - min i j).toNat + Ieee.signed t n (j - min i j).toNat).natAbs (min i j) := by
    unfold fop floatBits
    show ∃ b : Bool, (Ieee.single.add x y).getD _ = _
    have hx : Ieee.single.read x = _ := hx
    have hy : Ieee.single.read y = _ := hy
    unfold Ieee.Format.add
    rw [hx, hy]
    exact ⟨_, rfl⟩
  obtain ⟨b, e⟩ := e
  rw [e, show B + 2 = (B + 1) + 1 by omega]
  refine bel_near ?_ (by omega) (by omega)
  generalize hbase : min i j = base
  generalize hT : (Ieee.signed s m (i - base).toNat + Ieee.signed t n (j - base).toNat).natAbs = T
  by_cases T0 : T = 0
  · exact .inl T0
  right
  have hle : T ≤ m * 2 ^ (i - base).toNat + n * 2 ^ (j - base).toNat := by
    rw [← hT, ← signed_abs s, ← signed_abs t]
    exact Int.natAbs_add_le _ _
  have hbB : base < B := by
    rcases hm with h | h
    · rcases hn with k | k
      · subst h; subst k; omega
      · omega
    · omega
  have key : ∀ (q : Nat) (l : Int), base ≤ l → (q = 0 ∨ l + (q.log2 : Int) < B) → q * 2 ^ (l - base).toNat < 2 ^ (B - base).toNat := by
    intro q l hl h
    by_cases hq : q = 0
    · subst hq
      rw [Nat.zero_mul]
      exact Nat.pow_pos (by decide)
    · have h := h.resolve_left hq
      have h3 : q < 2 ^ (q.log2 + 1) := Nat.lt_log2_self
      refine Nat.lt_of_lt_of_le (Nat.mul_lt_mul_of_pos_right h3 (Nat.pow_pos (by decide))) ?_
      rw [← Nat.pow_add]
      exact Nat.pow_le_pow_right (by decide) (by omega)
  have k1 := key m i (by omega) hm
  have k2 := key n j (by omega) hn
  have h3 : T < 2 ^ ((B - base).toNat + 1) := by
    rw [Nat.pow_succ]
    omega
  have := (Nat.log2_lt T0).2 h3
  omega
theorem bel_int {n : Int} (h0 : 0 ≤ n) (h1 : n < 128) : Bel 8 (floatOfInt .f32 n) := by
  have e : floatOfInt .f32 n = Ieee.single.nearest (decide (n < 0)) n.natAbs 0 := rfl
  rw [e]
  refine bel_near (B := 7) ?_ (by decide) (by decide)
  by_cases hn : n.natAbs = 0
  · exact .inl hn
  · right
    have := (Nat.log2_lt hn).2 (show n.natAbs < 2 ^ 7 by omega)
    omega
theorem bel_conv {y r : Nat} (h : PU y) (hc : fconv .f64 y .f32 = some r) : Bel 2 r := by
  obtain ⟨m, e, h1, h2⟩ := h
  have hd : FloatKind.f64.decode y = .number false m e := h1
  unfold fconv at hc
  rw [if_neg (by decide), hd, if_neg (show ¬ ((Ieee.Datum.number false m e).isNaN = true) from fun h => by cases h)] at hc
  unfold floatToFloatBits at hc
  rw [if_neg (by decide), hd] at hc
  simp only at hc
  split at hc
  · cases hc
  · rw [← Option.some.inj hc]
    show Bel (1 + 1) (Ieee.single.nearest false m e)
    refine bel_near ?_ (by decide) (by decide)
    rcases h2.log with h | h | ⟨h, _⟩
    · exact .inl h
    · exact .inr (by omega)
    · exact .inr (by omega)

/-- Not a not-a-number. -/
def Ok (k : FloatKind) (x : Nat) : Prop := ∀ s f, k.format.read x ≠ .nan s f
theorem ok_iff {k : FloatKind} {x : Nat} : Ok k x ↔ isN k x = false := by
  unfold Ok
  have e : isN k x = (k.format.read x).isNaN := rfl
  rw [e]
  cases k.format.read x with
  | nan s f => exact ⟨fun h => (h s f rfl).elim, fun h => by cases h⟩
  | infinity s => exact ⟨fun _ => rfl, fun _ _ _ h => by cases h⟩
  | number s m e => exact ⟨fun _ => rfl, fun _ _ _ h => by cases h⟩
theorem ok_some {op : BinOp} {k : FloatKind} {x y : Nat} (h : (floatBits op k x y).isSome = true) : Ok k (fop op k x y) := by
  rw [ok_iff]
  unfold fop
  obtain ⟨r, hr⟩ := Option.isSome_iff_exists.1 h
  rw [hr]
  exact (floatBits_some hr).2.2
theorem exp_pu {x : Nat} (h : Leq0 .f64 x) (hk : Ok .f64 x) : PU (expD x) := by
  have hz : PU 0 := ⟨0, -1074, by decide +kernel, .inl rfl⟩
  unfold expD
  rcases h hk with hr | ⟨s, m, e, hr, hs⟩
  · have hg : gtD x 4641240890982006784 = false := by
      unfold gtD Ieee.Format.order
      rw [hr]
      decide +kernel
    have hl : ltD x 13864612927836782592 = true := by
      unfold ltD Ieee.Format.order
      rw [hr]
      decide +kernel
    rw [hg, hl]
    exact hz
  · have hr' : Ieee.double.read x = .number s m e := hr
    have h200' : FloatKind.f64.format.read 4641240890982006784 = .number false 7036874417766400 (-45) := by decide +kernel
    have h200 : Ieee.double.read 13864612927836782592 = .number true 7036874417766400 (-45) := by decide +kernel
    have hg : gtD x 4641240890982006784 = false := by
      unfold gtD Ieee.Format.order
      rw [hr, h200']
      unfold Ieee.Datum.order
      dsimp only
      have hx : Ieee.signed s m (e - min e (-45)).toNat ≤ 0 := by
        unfold Ieee.signed
        rcases hs with rfl | rfl
        · rw [if_pos rfl]
          generalize m <<< (e - min e (-45)).toNat = q
          omega
        · cases s <;> simp
      have hy : 0 < Ieee.signed false 7036874417766400 (-45 - min e (-45)).toNat := by
        unfold Ieee.signed
        rw [if_neg (by decide), Nat.shiftLeft_eq]
        have : 0 < 7036874417766400 * 2 ^ (-45 - min e (-45)).toNat := Nat.mul_pos (by decide) (Nat.pow_pos (by decide))
        exact Int.natCast_pos.2 this
      generalize Ieee.signed s m (e - min e (-45)).toNat = a at hx
      generalize Ieee.signed false 7036874417766400 (-45 - min e (-45)).toNat = b at hy
      have : compare a b = .lt := Int.compare_eq_lt.2 (by omega)
      rw [this]
      rfl
    rw [hg]
    cases hl : ltD x 13864612927836782592 with
    | true => exact hz
    | false =>
      show PU (expV x)
      have he : -1074 ≤ e := read_gen .f64 x s m e hr
      have hc : Ieee.double.read 4643211215818981376 = .number false 4503599627370496 (-44) := by decide +kernel
      have hnu : NU (fop .quo .f64 x 4643211215818981376) := by
        refine NU.quo hr' hc (by decide) hs ?_
        by_cases hm : m = 0
        · subst hm
          by_cases hi : 0 ≤ e
          · exact ⟨e.toNat + 44, 0, by simp, by omega⟩
          · exact ⟨44, (-e).toNat, by simp, by omega⟩
        have hs : s = true := hs.resolve_right hm
        subst hs
        unfold ltD Ieee.Format.order at hl
        have hl : ((Ieee.double.read x).order (Ieee.double.read 13864612927836782592) == some .lt) = false := hl
        rw [hr', h200] at hl
        unfold Ieee.Datum.order at hl
        dsimp only at hl
        refine ⟨(e - min e (-45)).toNat, (-45 - min e (-45)).toNat + 1, ?_, by omega⟩
        have t : ¬ (Ieee.signed true m (e - min e (-45)).toNat < Ieee.signed true 7036874417766400 (-45 - min e (-45)).toNat) := by
          intro hlt
          have hcmp : compare (Ieee.signed true m (e - min e (-45)).toNat) (Ieee.signed true 7036874417766400 (-45 - min e (-45)).toNat) = .lt := Int.compare_eq_lt.2 hlt
          rw [hcmp] at hl
          exact absurd hl (by decide)
        unfold Ieee.signed at t
        rw [if_pos rfl, if_pos rfl, Nat.shiftLeft_eq, Nat.shiftLeft_eq] at t
        rw [Nat.pow_succ]
        have t2 : m * 2 ^ (e - min e (-45)).toNat ≤ 7036874417766400 * 2 ^ (-45 - min e (-45)).toNat := by omega
        refine Nat.le_trans t2 ?_
        generalize 2 ^ (-45 - min e (-45)).toNat = T
        omega
      unfold expV
      exact eQ_pu (eQ_pu (eQ_pu (eQ_pu (eQ_pu (eQ_pu (eQ_pu (eQ_pu (eP_pu hnu))))))))
theorem up_ok {x : Nat} (h : Ok .f32 x) : Ok .f64 (up x) := by
  rw [ok_iff] at *
  unfold isN
  rcases up_num h with ⟨s, hd⟩ | ⟨s, m, e, hd, _⟩ <;> rw [hd] <;> rfl
theorem expF_bel {x : Nat} (h : Leq0 .f32 x) (hk : Ok .f32 x) : Bel 2 (expF x) := by
  have hp := exp_pu (up_l0 h) (up_ok hk)
  obtain ⟨r, hr⟩ := pu_conv hp
  unfold expF
  rw [hr]
  exact bel_conv hp hr
theorem pos_non (x : Nat) : posB x = (nonB x && !eqB x 0) := by
  unfold posB nonB
  cases h : finB x with
  | false => rfl
  | true =>
    obtain ⟨o, ho⟩ := fin_cmp h
    unfold gtB eqB
    rw [ho]
    cases o <;> rfl
end Go.Proofs.Ytlopdogjdfeikaa.Ab

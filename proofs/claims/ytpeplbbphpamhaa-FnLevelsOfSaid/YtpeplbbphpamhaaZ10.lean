/- What the proof names: lemmas and words, merged by a program from its parts. No condition. -/
import Derived.Test.YtpeplbbphpamhaaZ9
import Derived.Laws.Externs
namespace Go.Proofs.Ytpeplbbphpamhaa.Ab
set_option linter.unusedVariables false
set_option linter.unusedSimpArgs false
open Go
theorem ext_ok {P : Program} {f : FuncId} {fn : Func} {e : Array Value → Sem Value} {g : GT} (hf : P.funcs[f]? = some fn) (hname : (fn.name == "runtime.NumGoroutine") = false) (hb : fn.body.isNone = true) (hn : Extern.findNext fn = none) (he : Extern.find fn = some e)
    (H : ∀ vs hp v h', (g vs hp).run = some (v, h') → hp = [] ∧ h' = [] ∧ ∀ (μ : Mu) cvs w, RepVs μ vs cvs → ∃ cv n, (e ⟨cvs⟩).run P w = .ok cv (w.drewN n) ∧ RepV μ v cv) : FnT P f g := by
  intro vs hp v h' ee μ w cvs hr hv
  obtain ⟨rfl, rfl, hh⟩ := H vs hp v h' ee
  obtain ⟨cv, n, h1, h2⟩ := hh μ cvs w hv
  exact .inr ⟨cv, w.drewN n, by rw [run_callFunc_extern hf hname hb hn he, h1]; rfl, μ, Ev.drewN hr n, h2⟩
theorem rep_one {μ : Mu} {v : V} {cvs : List Value} (h : RepVs μ [v] cvs) : ∃ c, cvs = [c] ∧ RepV μ v c := by
  cases cvs with
  | nil => exact h.elim
  | cons c cs =>
    cases cs with
    | nil => exact ⟨c, rfl, h.1⟩
    | cons _ _ => exact h.2.elim
def fsqrt (x : Nat) : Nat := (FloatKind.f64.format.sqrt x).getD (qnan .f64)
def gSqrt : GT := fun vs h => match vs, h with | [.fl .f64 x], [] => .ret (.fl .f64 (fsqrt x)) [] | _, _ => .no
theorem fsqrt_canon (b : Nat) : fsqrt (canon .f64 b) = canon .f64 (fsqrt b) := by
  cases hb : isN .f64 b with
  | false =>
    rw [canon_of hb]
    unfold fsqrt
    cases e : FloatKind.f64.format.sqrt b with
    | none => exact (canon_qnan .f64).symm
    | some r =>
      unfold Ieee.Format.sqrt at e
      simp only [Option.map_eq_some_iff] at e
      obtain ⟨d, h1, rfl⟩ := e
      exact (canon_of (isN_write .f64 (root_some h1).2)).symm
  | true =>
    have key : ∀ c, isN .f64 c = true → fsqrt c = qnan .f64 := by
      intro c hc
      unfold fsqrt
      cases e : FloatKind.f64.format.sqrt c with
      | none => rfl
      | some r =>
        unfold Ieee.Format.sqrt at e
        simp only [Option.map_eq_some_iff] at e
        obtain ⟨d, h1, _⟩ := e
        have h2 : (FloatKind.f64.format.read c).isNaN = true := hc
        rw [(root_some h1).1] at h2
        cases h2
    rw [key _ (by rw [isN_canon]; exact hb), key _ hb, canon_qnan]
theorem sqrt_ok {P : Program} {f : FuncId} {fn : Func} (hf : P.funcs[f]? = some fn) (hname : (fn.name == "runtime.NumGoroutine") = false) (hb : fn.body.isNone = true) (hn : Extern.findNext fn = none) (he : Extern.find fn = some Extern.MathSqrt.sqrt) : FnT P f gSqrt := by
  refine ext_ok hf hname hb hn he fun vs hp v h' e => ?_
  unfold gSqrt at e
  split at e
  case h_2 => exact (T.no_inv e).elim
  obtain ⟨rfl, rfl⟩ := T.ret_inv e
  refine ⟨rfl, rfl, fun μ cvs w hv => ?_⟩
  obtain ⟨c, rfl, b, rfl, rfl⟩ := rep_one hv
  cases e : FloatKind.f64.format.sqrt b with
  | some r =>
    refine ⟨.float .f64 r, 0, by show ((match FloatKind.f64.format.sqrt b with | some r => pure (.float .f64 r) | none => do pure (.float .f64 (← choose (.nanBits .f64 b b)))) : Sem Value).run P w = _; rw [e]; rfl, r, rfl, ?_⟩
    rw [fsqrt_canon]
    unfold fsqrt
    rw [e]
    rfl
  | none =>
    refine ⟨.float .f64 ((Question.nanBits .f64 b b).cut (w.tape w.drawn (.nanBits .f64 b b))), 1, by show ((match FloatKind.f64.format.sqrt b with | some r => pure (.float .f64 r) | none => do pure (.float .f64 (← choose (.nanBits .f64 b b)))) : Sem Value).run P w = _; rw [e]; rfl, _, rfl, ?_⟩
    rw [fsqrt_canon]
    have : fsqrt b = qnan .f64 := by unfold fsqrt; rw [e]; rfl
    rw [this, canon_qnan]
    exact canon_nan (isN_cut .f64 (.nanBits .f64 b b) (w.tape w.drawn (.nanBits .f64 b b)) (.inl ⟨b, b, rfl⟩))
end Go.Proofs.Ytpeplbbphpamhaa.Ab

namespace Go.Proofs.Ytpeplbbphpamhaa.Ab
set_option linter.unusedVariables false
set_option linter.unusedSimpArgs false
open Go
theorem cut_le (neg : Bool) (n drop : Nat) : Ieee.Toward.even.cut neg n drop ≤ n / 2 ^ drop + 1 := by
  unfold Ieee.Toward.cut
  simp only [Nat.one_shiftLeft]
  have hm : ∀ b : Bool, b.toNat ≤ 1 := fun b => by cases b <;> decide
  by_cases h : drop ≤ n.log2 + 2
  · rw [Nat.min_eq_left h]
    exact Nat.add_le_add_left (hm _) _
  · rw [Nat.min_eq_right (by omega)]
    have h1 : n < 2 ^ (n.log2 + 1) := Nat.lt_log2_self
    have h2 : 2 ^ (n.log2 + 1) ≤ 2 ^ (n.log2 + 2) := Nat.pow_le_pow_right (by decide) (by omega)
    rw [Nat.div_eq_of_lt (Nat.lt_of_lt_of_le h1 h2)]
    exact Nat.add_le_add (Nat.zero_le _) (hm _)
theorem cut_zero (neg : Bool) (n : Nat) : Ieee.Toward.even.cut neg n 0 = n := by
  unfold Ieee.Toward.cut
  simp [Nat.mod_one]
theorem near_le (f : Ieee.Format) (neg : Bool) (m : Nat) (p B : Int) (hB : f.leastPlace + f.fractionBits ≤ B) (h : m = 0 ∨ p + (m.log2 : Int) < B) :
    ∃ r, f.nearest neg m p = f.word neg r ∧ r ≤ (B - f.leastPlace - f.fractionBits + 1).toNat * f.binade := by
  unfold Ieee.Format.nearest
  by_cases hm : m = 0
  · rw [if_pos hm]
    exact ⟨0, rfl, Nat.zero_le _⟩
  rw [if_neg hm]
  have h : p + (m.log2 : Int) < B := h.resolve_left hm
  refine ⟨_, rfl, Nat.le_trans (Nat.min_le_left _ _) ?_⟩
  have hb : f.binade = 2 ^ f.fractionBits := rfl
  generalize f.leastPlace = least at *
  generalize f.fractionBits = frac at *
  rw [hb]
  generalize hL : m.log2 = L at *
  have hmL : m < 2 ^ (L + 1) := by rw [← hL]; exact Nat.lt_log2_self
  by_cases hc : least ≤ p + L - frac
  · rw [Int.max_eq_left hc]
    have key : Ieee.Toward.even.cut neg (m <<< (p - (p + L - frac)).toNat) ((p + L - frac) - p).toNat ≤ 2 * 2 ^ frac := by
      by_cases hp : L ≤ frac
      · rw [show ((p + L - frac) - p).toNat = 0 by omega, cut_zero, Nat.shiftLeft_eq, show (p - (p + L - frac)).toNat = frac - L by omega]
        have : m * 2 ^ (frac - L) ≤ 2 ^ (L + 1) * 2 ^ (frac - L) := Nat.mul_le_mul_right _ (Nat.le_of_lt hmL)
        rw [← Nat.pow_add, show L + 1 + (frac - L) = frac + 1 by omega, Nat.pow_succ] at this
        omega
      · rw [show (p - (p + L - frac)).toNat = 0 by omega, show ((p + L - frac) - p).toNat = L - frac by omega]
        refine Nat.le_trans (cut_le _ _ _) ?_
        have : (m <<< 0) / 2 ^ (L - frac) < 2 * 2 ^ frac := by
          rw [Nat.shiftLeft_zero, Nat.div_lt_iff_lt_mul (Nat.pow_pos (by decide))]
          rw [show 2 * 2 ^ frac = 2 ^ (frac + 1) by rw [Nat.pow_succ]; omega, ← Nat.pow_add, show frac + 1 + (L - frac) = L + 1 by omega]
          exact hmL
        omega
    have e : (B - least - frac + 1).toNat = (p + L - frac - least).toNat + 2 + (B - 1 - (p + L)).toNat := by omega
    rw [e, Nat.add_mul, Nat.add_mul]
    refine Nat.le_trans (Nat.add_le_add_left key _) (Nat.le_add_right _ _)
  · rw [Int.max_eq_right (by omega)]
    have key : Ieee.Toward.even.cut neg (m <<< (p - least).toNat) (least - p).toNat ≤ 2 ^ frac := by
      by_cases hp : least ≤ p
      · rw [show (least - p).toNat = 0 by omega, cut_zero, Nat.shiftLeft_eq]
        have : m * 2 ^ (p - least).toNat ≤ 2 ^ (L + 1) * 2 ^ (p - least).toNat := Nat.mul_le_mul_right _ (Nat.le_of_lt hmL)
        rw [← Nat.pow_add] at this
        exact Nat.le_trans this (Nat.pow_le_pow_right (by decide) (by omega))
      · rw [show (p - least).toNat = 0 by omega]
        refine Nat.le_trans (cut_le _ _ _) ?_
        have : (m <<< 0) / 2 ^ (least - p).toNat < 2 ^ frac := by
          rw [Nat.shiftLeft_zero, Nat.div_lt_iff_lt_mul (Nat.pow_pos (by decide)), ← Nat.pow_add]
          exact Nat.lt_of_lt_of_le hmL (Nat.pow_le_pow_right (by decide) (by omega))
        omega
    rw [show (least - least).toNat = 0 by omega, Nat.zero_mul, Nat.zero_add]
    refine Nat.le_trans key ?_
    have : 1 * 2 ^ frac ≤ (B - least - frac + 1).toNat * 2 ^ frac := Nat.mul_le_mul_right _ (by omega)
    omega
theorem read64_le (neg : Bool) (r K : Nat) (hr : r ≤ K * 4503599627370496) (hK : K < 2047) :
    ∃ m e, Ieee.double.read (Ieee.double.word neg r) = .number neg m e ∧ (m = 0 ∨ e + (m.log2 : Int) ≤ (K : Int) - 1023) ∧ m < 9007199254740992 ∧ -1074 ≤ e := by
  unfold Ieee.Format.read Ieee.Format.word
  have c1 : Ieee.double.signWeight = 9223372036854775808 := by decide
  have c2 : Ieee.double.binade = 4503599627370496 := by decide
  have c3 : Ieee.double.infRung = 9218868437227405312 := by decide
  have c4 : Ieee.double.leastPlace = -1074 := by decide
  simp only [c1, c2, c3, c4]
  have hm : (if neg = true then 9223372036854775808 + r else r) % 9223372036854775808 = r := by split <;> omega
  have hs : ((if neg = true then 9223372036854775808 + r else r) / 9223372036854775808 % 2 == 1) = neg := by
    cases neg
    · rw [if_neg (by decide), Nat.div_eq_of_lt (by omega)]; rfl
    · rw [if_pos rfl, Nat.add_div_left _ (by decide), Nat.div_eq_of_lt (by omega)]; rfl
  rw [hm, hs]
  split
  · rename_i h1
    refine ⟨_, _, rfl, ?_, by omega, by omega⟩
    by_cases h0 : r = 0
    · exact .inl h0
    · right
      have := (Nat.log2_lt h0).2 (show r < 2 ^ 52 by omega)
      omega
  · rename_i h1
    rw [if_pos (by omega)]
    refine ⟨_, _, rfl, .inr ?_, by omega, by omega⟩
    have h2 := (Nat.log2_lt (show 4503599627370496 + r % 4503599627370496 ≠ 0 by omega)).2 (show 4503599627370496 + r % 4503599627370496 < 2 ^ 53 by omega)
    have h3 : r / 4503599627370496 ≤ K := by
      rw [Nat.div_le_iff_le_mul (by decide)]
      omega
    have h4 : 1 ≤ r / 4503599627370496 := by
      rw [Nat.le_div_iff_mul_le (by decide)]
      omega
    omega
theorem fconv_small {y : Nat} {s : Bool} {m : Nat} {e : Int} (hd : FloatKind.f64.decode y = .number s m e) (h : m = 0 ∨ e + (m.log2 : Int) < 127) : ∃ r, fconv .f64 y .f32 = some r := by
  unfold fconv
  rw [if_neg (by decide), hd]
  rw [if_neg (show ¬ ((Ieee.Datum.number s m e).isNaN = true) from fun h => by cases h)]
  unfold floatToFloatBits
  rw [if_neg (by decide), hd]
  dsimp only
  have hn : (FloatKind.f32.decode (FloatKind.f32.encode (.number s m e))).isInfinity = false := by
    show (Ieee.single.read (Ieee.single.nearest s m e)).isInfinity = false
    obtain ⟨r, h1, h2⟩ := near_le Ieee.single s m e 127 (by decide) h
    rw [h1]
    have h2 : r ≤ 254 * 8388608 := h2
    unfold Ieee.Format.read Ieee.Format.word
    have c1 : Ieee.single.signWeight = 2147483648 := by decide
    have c2 : Ieee.single.binade = 8388608 := by decide
    have c3 : Ieee.single.infRung = 2139095040 := by decide
    simp only [c1, c2, c3]
    have hm : (if s = true then 2147483648 + r else r) % 2147483648 = r := by split <;> omega
    rw [hm]
    split
    · rfl
    · rw [if_pos (by omega)]; rfl
  rw [hn]
  exact ⟨_, rfl⟩
theorem rootFrom_sq (n : Nat) : ∀ todo root, root * root ≤ n → Ieee.Datum.rootFrom n todo root * Ieee.Datum.rootFrom n todo root ≤ n
  | 0, root, h => h
  | todo + 1, root, h => by
    unfold Ieee.Datum.rootFrom
    dsimp only
    split
    · rename_i h1; exact rootFrom_sq n todo _ h1
    · exact rootFrom_sq n todo _ h
theorem up_num {x : Nat} (h : isN .f32 x = false) : (∃ s, FloatKind.f64.decode (up x) = .infinity s) ∨ ∃ s m e, FloatKind.f64.decode (up x) = .number s m e ∧ (m = 0 ∨ e + (m.log2 : Int) ≤ 128) := by
  have hx := fconv_eq x
  unfold fconv at hx
  rw [if_neg (by decide)] at hx
  unfold isN at h
  rw [if_neg (by rw [h]; decide)] at hx
  unfold floatToFloatBits at hx
  rw [if_neg (by decide)] at hx
  cases hd : FloatKind.f32.decode x with
  | nan s f => rw [hd] at h; cases h
  | infinity s =>
    rw [hd] at hx
    simp only [Option.some.injEq] at hx
    left
    rw [← hx]
    cases s
    · exact ⟨false, by decide⟩
    · exact ⟨true, by decide⟩
  | number s m e =>
    rw [hd] at hx
    simp only at hx
    split at hx
    · cases hx
    · simp only [Option.some.injEq] at hx
      right
      have hb : m < 2 ^ 24 ∧ e ≤ 104 := by
        have hd' : Ieee.single.read x = .number s m e := hd
        unfold Ieee.Format.read at hd'
        have c1 : Ieee.single.signWeight = 2147483648 := by decide
        have c2 : Ieee.single.binade = 8388608 := by decide
        have c3 : Ieee.single.infRung = 2139095040 := by decide
        have c4 : Ieee.single.leastPlace = -149 := by decide
        simp only [c1, c2, c3, c4] at hd'
        split at hd'
        · simp only [Ieee.Datum.number.injEq] at hd'; omega
        · split at hd'
          · simp only [Ieee.Datum.number.injEq] at hd'; omega
          · split at hd' <;> cases hd'
      have hl : m = 0 ∨ e + (m.log2 : Int) < 128 := by
        by_cases h0 : m = 0
        · exact .inl h0
        · have := (Nat.log2_lt h0).2 hb.1
          omega
      obtain ⟨r, h1, h2⟩ := near_le Ieee.double s m e 128 (by decide) hl
      have h2 : r ≤ 1151 * 4503599627370496 := h2
      obtain ⟨m', e', h3, h4, _⟩ := read64_le s r 1151 h2 (by decide)
      refine ⟨s, m', e', ?_, by omega⟩
      rw [← hx]
      show Ieee.double.read (Ieee.double.nearest s m e) = _
      rw [h1, h3]
theorem log_sq {w n : Nat} (hw : w ≠ 0) (h : w * w ≤ n) : 2 * w.log2 ≤ n.log2 := by
  have hn : n ≠ 0 := by
    intro h0
    subst h0
    have : 0 < w * w := Nat.mul_pos (by omega) (by omega)
    omega
  have h1 : 2 ^ w.log2 ≤ w := Nat.log2_self_le hw
  rw [Nat.le_log2 hn]
  rw [show 2 * w.log2 = w.log2 + w.log2 by omega, Nat.pow_add]
  exact Nat.le_trans (Nat.mul_le_mul h1 h1) h
theorem log_odd {w b : Nat} (hw : w ≠ 0) (hb : b ≤ 1) : (2 * w + b).log2 = w.log2 + 1 := by
  have h1 : 2 ^ w.log2 ≤ w := Nat.log2_self_le hw
  have h2 : w < 2 ^ (w.log2 + 1) := Nat.lt_log2_self
  rw [Nat.log2_eq_iff (by omega)]
  rw [Nat.pow_succ, Nat.pow_succ] at *
  omega
theorem log_shl {m k : Nat} (hm : m ≠ 0) : (m <<< k).log2 = m.log2 + k := by
  have h1 : 2 ^ m.log2 ≤ m := Nat.log2_self_le hm
  have h2 : m < 2 ^ (m.log2 + 1) := Nat.lt_log2_self
  have h3 : 0 < 2 ^ k := Nat.pow_pos (by decide)
  rw [Nat.shiftLeft_eq, Nat.log2_eq_iff (Nat.ne_of_gt (Nat.mul_pos (by omega) h3))]
  rw [Nat.pow_add, show m.log2 + k + 1 = (m.log2 + 1) + k by omega, Nat.pow_add]
  exact ⟨Nat.mul_le_mul_right _ h1, Nat.mul_lt_mul_of_pos_right h2 h3⟩
theorem root_small (x : Nat) : ∃ r, fconv .f64 (fsqrt (up x)) .f32 = some r := by
  cases hx : isN .f32 x with
  | true =>
    have hu : up x = qnan .f64 := by
      have h := fconv_eq x
      unfold fconv at h
      unfold isN at hx
      rw [if_neg (by decide), if_pos hx] at h
      exact (Option.some.inj h).symm
    rw [hu]
    exact Option.isSome_iff_exists.1 (by decide +kernel)
  | false =>
    rcases up_num hx with ⟨s, hd⟩ | ⟨s, m, e, hd, hb⟩
    · have hd' : Ieee.double.read (up x) = .infinity s := hd
      unfold fsqrt
      show ∃ r, fconv .f64 ((Ieee.double.sqrt (up x)).getD _) .f32 = some r
      unfold Ieee.Format.sqrt
      rw [hd']
      cases s
      · exact Option.isSome_iff_exists.1 (by decide +kernel)
      · exact Option.isSome_iff_exists.1 (by decide +kernel)
    · have hd' : Ieee.double.read (up x) = .number s m e := hd
      have hs : FloatKind.f64.format.sqrt (up x) = ((Ieee.Datum.number s m e).root 54).map Ieee.double.write := by
        show Ieee.double.sqrt (up x) = _
        unfold Ieee.Format.sqrt
        rw [hd']
        rfl
      unfold fsqrt
      rw [hs]
      unfold Ieee.Datum.root
      dsimp only
      by_cases h0 : m = 0
      · rw [if_pos h0]
        subst h0
        have hz : Ieee.double.write (.number s 0 e) = Ieee.double.word s 0 := by
          show Ieee.double.nearest s 0 e = _
          unfold Ieee.Format.nearest
          rw [if_pos rfl]
        show ∃ r, fconv .f64 (Ieee.double.write (.number s 0 e)) .f32 = some r
        rw [hz]
        cases s
        · exact Option.isSome_iff_exists.1 (by decide +kernel)
        · exact Option.isSome_iff_exists.1 (by decide +kernel)
      · rw [if_neg h0]
        cases s with
        | true =>
          rw [if_pos rfl]
          exact Option.isSome_iff_exists.1 (by decide +kernel)
        | false =>
          rw [if_neg (by decide)]
          have hb : e + (m.log2 : Int) ≤ 128 := hb.resolve_left h0
          generalize hmore : (2 * 54 - m.log2 + ((e - ((2 * 54 - m.log2 : Nat) : Int)) % 2).toNat : Nat) = more
          have heven : (e - (more : Int)) % 2 = 0 := by omega
          generalize hw : Ieee.Datum.rootFrom (m <<< more) ((m <<< more).log2 / 2 + 1) 0 = w
          have hsq : w * w ≤ m <<< more := by rw [← hw]; exact rootFrom_sq _ _ _ (by simp)
          generalize hodd : (w * w != m <<< more).toNat = b
          have hb1 : b ≤ 1 := by rw [← hodd]; cases (w * w != m <<< more) <;> decide
          show ∃ r, fconv .f64 (Ieee.double.nearest false (2 * w + b) ((e - (more : Int)) / 2 - 1)) .f32 = some r
          have hval : (2 * w + b) = 0 ∨ ((e - (more : Int)) / 2 - 1) + ((2 * w + b).log2 : Int) < 66 := by
            by_cases hw0 : w = 0
            · subst hw0
              by_cases hb0 : b = 0
              · left; omega
              · right
                have : b = 1 := by omega
                subst this
                have : (2 * 0 + 1).log2 = 0 := by decide
                omega
            · right
              rw [log_odd hw0 hb1]
              have h1 := log_sq hw0 hsq
              rw [log_shl h0] at h1
              omega
          obtain ⟨r, h1, h2⟩ := near_le Ieee.double false _ _ 66 (by decide) hval
          rw [h1]
          have h2 : r ≤ 1089 * 4503599627370496 := h2
          obtain ⟨m', e', h3, h4, _⟩ := read64_le false r 1089 h2 (by decide)
          exact fconv_small (s := false) (m := m') (e := e') h3 (by omega)
def rootF (x : Nat) : Nat := (fconv .f64 (fsqrt (up x)) .f32).getD 0
theorem rootF_eq (x : Nat) : fconv .f64 (fsqrt (up x)) .f32 = some (rootF x) := by
  obtain ⟨r, h⟩ := root_small x
  unfold rootF
  rw [h]; rfl
end Go.Proofs.Ytpeplbbphpamhaa.Ab

namespace Go.Proofs.Ytpeplbbphpamhaa.Ab
set_option linter.unusedVariables false
set_option linter.unusedSimpArgs false
open Go
structure Fm (f : Ieee.Format) (F : Nat) (L : Int) (Z : Nat) : Prop where
  frac : f.fractionBits = F
  least : f.leastPlace = L
  bin : f.binade = 2 ^ F
  inf : f.infRung = Z * 2 ^ F
  sgn : Z * 2 ^ F < f.signWeight
  two : 2 < Z
theorem fm32 : Fm Ieee.single 23 (-149) 255 := ⟨by decide, by decide, by decide, by decide, by decide, by decide⟩
theorem fm64 : Fm Ieee.double 52 (-1074) 2047 := ⟨by decide, by decide, by decide, by decide, by decide, by decide⟩
theorem read_of_word {f : Ieee.Format} (s : Bool) {r : Nat} (h : r < f.signWeight) : f.read (f.word s r) =
    if r < f.binade then .number s r f.leastPlace else if r < f.infRung then .number s (f.binade + r % f.binade) (f.leastPlace + ((r / f.binade - 1 : Nat) : Int)) else if r = f.infRung then .infinity s else .nan s (r - f.infRung) := by
  unfold Ieee.Format.read Ieee.Format.word
  have hm : (if s = true then f.signWeight + r else r) % f.signWeight = r := by
    cases s
    · rw [if_neg (by decide), Nat.mod_eq_of_lt h]
    · rw [if_pos rfl, Nat.add_mod_left, Nat.mod_eq_of_lt h]
  have hs : ((if s = true then f.signWeight + r else r) / f.signWeight % 2 == 1) = s := by
    cases s
    · rw [if_neg (by decide), Nat.div_eq_of_lt h]; rfl
    · rw [if_pos rfl, Nat.add_div_left _ (by omega), Nat.div_eq_of_lt h]; rfl
  rw [hm, hs]
theorem cut_err (s : Bool) (n d : Nat) : 2 * (((Ieee.Toward.even.cut s n d * 2 ^ d : Nat) : Int) - (n : Int)).natAbs ≤ 2 ^ d := by
  unfold Ieee.Toward.cut
  simp only [Nat.one_shiftLeft]
  by_cases hd : d ≤ n.log2 + 2
  · rw [Nat.min_eq_left hd]
    have hpos : 0 < 2 ^ d := Nat.pow_pos (by decide)
    generalize hg : 2 ^ d = g at hpos
    have hn := Nat.div_add_mod n g
    have hr := Nat.mod_lt n hpos
    generalize n / g = lo at hn
    generalize n % g = r at hn hr
    have hn' : n = lo * g + r := by rw [Nat.mul_comm]; exact hn.symm
    generalize hlg : lo * g = q at hn'
    by_cases hm : (decide (g < 2 * r) || (g == 2 * r && lo % 2 == 1)) = true
    · rw [hm]
      have h2 : g ≤ 2 * r := by
        rw [Bool.or_eq_true] at hm
        rcases hm with hm | hm
        · have := of_decide_eq_true hm; omega
        · rw [Bool.and_eq_true] at hm
          have := eq_of_beq hm.1
          omega
      have e : (lo + Bool.toNat true) * g = q + g := by rw [← hlg]; show (lo + 1) * g = _; rw [Nat.add_mul, Nat.one_mul]
      rw [e]
      omega
    · have hm : (decide (g < 2 * r) || (g == 2 * r && lo % 2 == 1)) = false := by simpa using hm
      rw [hm]
      have h2 : ¬ g < 2 * r := by
        rw [Bool.or_eq_false_iff] at hm
        exact of_decide_eq_false hm.1
      have e : (lo + Bool.toNat false) * g = q := by rw [← hlg]; rfl
      rw [e]
      omega
  · rw [Nat.min_eq_right (by omega)]
    have h1 : n < 2 ^ (n.log2 + 1) := Nat.lt_log2_self
    have h2 : 2 ^ (n.log2 + 2) = 2 * 2 ^ (n.log2 + 1) := by rw [show n.log2 + 2 = (n.log2 + 1) + 1 by omega, Nat.pow_succ, Nat.mul_comm]
    have h3 : 2 ^ (n.log2 + 2) ≤ 2 ^ d := Nat.pow_le_pow_right (by decide) (by omega)
    generalize 2 ^ (n.log2 + 2) = g at h2 h3
    generalize 2 ^ (n.log2 + 1) = c at h1 h2
    have hlo : n / g = 0 := Nat.div_eq_of_lt (by omega)
    have hr : n % g = n := Nat.mod_eq_of_lt (by omega)
    rw [hlo, hr]
    have e1 : decide (g < 2 * n) = false := decide_eq_false (by omega)
    have e2 : (g == 2 * n) = false := by
      cases hb : g == 2 * n with
      | false => rfl
      | true => have := eq_of_beq hb; omega
    rw [e1, e2]
    show 2 * ((((0 + 0) * 2 ^ d : Nat) : Int) - (n : Int)).natAbs ≤ 2 ^ d
    generalize 2 ^ d = D at h3
    rw [Nat.zero_add, Nat.zero_mul]
    omega
theorem read_rung {f : Ieee.Format} {F : Nat} {L : Int} {Z : Nat} (h : Fm f F L Z) (s : Bool) {l K : Nat} (hK : K ≤ 2 * 2 ^ F) (hl : l = 0 ∨ 2 ^ F ≤ K) (hZ : l + 2 < Z) :
    ∃ (m : Nat) (j : Nat), f.read (f.word s (l * 2 ^ F + K)) = .number s m (L + (j : Int)) ∧ m * 2 ^ j = K * 2 ^ l := by
  have hpos : 0 < 2 ^ F := Nat.pow_pos (by decide)
  have hsg := h.sgn
  have hz : (l + 2) * 2 ^ F + 2 ^ F ≤ Z * 2 ^ F := by
    rw [← Nat.succ_mul]
    exact Nat.mul_le_mul_right _ hZ
  rw [Nat.add_mul] at hz
  have hlt : l * 2 ^ F + K < f.infRung := by rw [h.inf]; omega
  rw [read_of_word s (by rw [h.inf] at hlt; omega), h.bin, h.least]
  by_cases h1 : K < 2 ^ F
  · have h0 : l = 0 := by omega
    subst h0
    rw [Nat.zero_mul, Nat.zero_add, if_pos h1]
    exact ⟨K, 0, by simp, rfl⟩
  · have hge : ¬ l * 2 ^ F + K < 2 ^ F := by have := Nat.zero_le (l * 2 ^ F); omega
    rw [if_neg hge, if_pos hlt]
    by_cases h2 : K < 2 * 2 ^ F
    · have e1 : (l * 2 ^ F + K) / 2 ^ F = l + 1 := by
        rw [show l * 2 ^ F + K = (l + 1) * 2 ^ F + (K - 2 ^ F) by rw [Nat.add_mul, Nat.one_mul]; omega, Nat.mul_comm, Nat.mul_add_div hpos, Nat.div_eq_of_lt (by omega), Nat.add_zero]
      have e2 : (l * 2 ^ F + K) % 2 ^ F = K - 2 ^ F := by
        rw [show l * 2 ^ F + K = (l + 1) * 2 ^ F + (K - 2 ^ F) by rw [Nat.add_mul, Nat.one_mul]; omega, Nat.mul_comm, Nat.mul_add_mod, Nat.mod_eq_of_lt (by omega)]
      rw [e1, e2]
      exact ⟨K, l, by rw [show 2 ^ F + (K - 2 ^ F) = K by omega, show l + 1 - 1 = l by omega], rfl⟩
    · have hK2 : K = 2 * 2 ^ F := by omega
      subst hK2
      have e0 : l * 2 ^ F + 2 * 2 ^ F = 2 ^ F * (l + 2) := by rw [← Nat.add_mul, Nat.mul_comm]
      rw [e0, Nat.mul_div_cancel_left _ hpos, Nat.mul_mod_right, Nat.add_zero]
      refine ⟨2 ^ F, l + 1, by rw [show l + 2 - 1 = l + 1 by omega], ?_⟩
      rw [Nat.pow_succ, Nat.mul_comm 2 (2 ^ F), Nat.mul_assoc, Nat.mul_comm (2 ^ l) 2]
theorem near_err {f : Ieee.Format} {F : Nat} {L : Int} {Z : Nat} (h : Fm f F L Z) (s : Bool) {m : Nat} {p B Q : Int} (hQ : Q ≤ p) (hQL : Q ≤ L) (hB : m = 0 ∨ p + (m.log2 : Int) < B) (hZ : B - (F : Int) - L + 2 ≤ (Z : Int)) :
    ∃ (m' : Nat) (p' : Int), f.read (f.nearest s m p) = .number s m' p' ∧ L ≤ p' ∧ 2 * (((m' * 2 ^ (p' - Q).toNat : Nat) : Int) - ((m * 2 ^ (p - Q).toNat : Nat) : Int)).natAbs ≤ 2 ^ (max (B - 1 - (F : Int)) L - Q).toNat := by
  have h2 := h.two
  by_cases hm : m = 0
  · subst hm
    unfold Ieee.Format.nearest
    rw [if_pos rfl]
    obtain ⟨m', j, h3, h4⟩ := read_rung h s (l := 0) (K := 0) (Nat.zero_le _) (.inl rfl) (by omega)
    rw [Nat.zero_mul, Nat.zero_add] at h3
    have hm' : m' = 0 := by
      rw [Nat.zero_mul] at h4
      rcases Nat.mul_eq_zero.1 h4 with h5 | h5
      · exact h5
      · have := Nat.pow_pos (n := j) (show 0 < 2 by decide); omega
    subst hm'
    refine ⟨0, _, h3, by omega, ?_⟩
    rw [Nat.zero_mul, Nat.zero_mul]
    simp
  · have hB := hB.resolve_left hm
    unfold Ieee.Format.nearest
    rw [if_neg hm, h.frac, h.least, h.bin, h.inf]
    dsimp only
    generalize hlast : max (p + (m.log2 : Int) - (F : Int)) L = last
    have hl1 : L ≤ last := by omega
    have hl2 : last ≤ max (B - 1 - (F : Int)) L := by omega
    obtain ⟨l, hl⟩ : ∃ l : Nat, last = L + (l : Int) := ⟨(last - L).toNat, by omega⟩
    have e1 : (last - L).toNat = l := by omega
    rw [e1]
    have hlog1 : 2 ^ m.log2 ≤ m := Nat.log2_self_le hm
    have hlog2 : m < 2 ^ (m.log2 + 1) := Nat.lt_log2_self
    generalize hkept : Ieee.Toward.even.cut s (m <<< (p - last).toNat) (last - p).toNat = K
    have herr : 2 * (((K * 2 ^ (last - Q).toNat : Nat) : Int) - ((m * 2 ^ (p - Q).toNat : Nat) : Int)).natAbs ≤ 2 ^ (last - Q).toNat ∧ K ≤ 2 * 2 ^ F ∧ (l = 0 ∨ 2 ^ F ≤ K) := by
      by_cases hle : last ≤ p
      · rw [show (last - p).toNat = 0 by omega, cut_zero, Nat.shiftLeft_eq] at hkept
        have e2 : K * 2 ^ (last - Q).toNat = m * 2 ^ (p - Q).toNat := by
          rw [← hkept, Nat.mul_assoc, ← Nat.pow_add, show (p - last).toNat + (last - Q).toNat = (p - Q).toNat by omega]
        rw [e2, Int.sub_self]
        refine ⟨by simp, ?_, ?_⟩
        · have h3 : K < 2 ^ (m.log2 + 1) * 2 ^ (p - last).toNat := by rw [← hkept]; exact Nat.mul_lt_mul_of_pos_right hlog2 (Nat.pow_pos (by decide))
          rw [← Nat.pow_add] at h3
          have h4 : 2 ^ (m.log2 + 1 + (p - last).toNat) ≤ 2 ^ (F + 1) := Nat.pow_le_pow_right (by decide) (by omega)
          rw [Nat.pow_succ, Nat.mul_comm] at h4
          omega
        · by_cases h0 : l = 0
          · exact .inl h0
          · right
            have h3 : 2 ^ m.log2 * 2 ^ (p - last).toNat ≤ K := by rw [← hkept]; exact Nat.mul_le_mul_right _ hlog1
            rw [← Nat.pow_add, show m.log2 + (p - last).toNat = F by omega] at h3
            exact h3
      · rw [show (p - last).toNat = 0 by omega, Nat.shiftLeft_zero] at hkept
        have hc := cut_err s m (last - p).toNat
        rw [hkept] at hc
        generalize hd : (last - p).toNat = d at hc hkept
        have e2 : 2 ^ (last - Q).toNat = 2 ^ d * 2 ^ (p - Q).toNat := by rw [← Nat.pow_add, show d + (p - Q).toNat = (last - Q).toNat by omega]
        refine ⟨?_, ?_, ?_⟩
        · rw [e2, ← Nat.mul_assoc, Int.natCast_mul (K * 2 ^ d), Int.natCast_mul m, ← Int.sub_mul, Int.natAbs_mul, Int.natAbs_natCast, ← Nat.mul_assoc]
          exact Nat.mul_le_mul_right _ hc
        · have hle2 := cut_le s m d
          rw [hkept] at hle2
          have h3 : m / 2 ^ d < 2 ^ (F + 1) := by
            rw [Nat.div_lt_iff_lt_mul (Nat.pow_pos (by decide)), ← Nat.pow_add]
            exact Nat.lt_of_lt_of_le hlog2 (Nat.pow_le_pow_right (by decide) (by omega))
          rw [Nat.pow_succ, Nat.mul_comm] at h3
          omega
        · by_cases h0 : l = 0
          · exact .inl h0
          · right
            have hld : m.log2 = F + d := by omega
            have h3 : 2 ^ F * 2 ^ d ≤ m := by rw [← Nat.pow_add, ← hld]; exact hlog1
            have hdp : 0 < 2 ^ d := Nat.pow_pos (by decide)
            generalize 2 ^ d = D at hc h3 hdp
            generalize 2 ^ F = G at h3
            refine Nat.le_of_not_lt fun hlt => ?_
            have h4 : (K + 1) * D ≤ G * D := Nat.mul_le_mul_right _ hlt
            rw [Nat.add_mul, Nat.one_mul] at h4
            omega
    obtain ⟨h3, h4, h5⟩ := herr
    have hl3 : l + 2 < Z := by omega
    obtain ⟨m', j, h6, h7⟩ := read_rung h s h4 h5 hl3
    have hmin : min (l * 2 ^ F + K) (Z * 2 ^ F) = l * 2 ^ F + K := by
      apply Nat.min_eq_left
      have : (l + 2) * 2 ^ F ≤ Z * 2 ^ F := Nat.mul_le_mul_right _ (by omega)
      rw [Nat.add_mul] at this
      omega
    rw [hmin]
    refine ⟨m', L + (j : Int), h6, by omega, ?_⟩
    have e3 : m' * 2 ^ (L + (j : Int) - Q).toNat = K * 2 ^ (last - Q).toNat := by
      rw [show (L + (j : Int) - Q).toNat = j + (L - Q).toNat by omega, Nat.pow_add, ← Nat.mul_assoc, h7, Nat.mul_assoc, ← Nat.pow_add, show l + (L - Q).toNat = (last - Q).toNat by omega]
    rw [e3]
    refine Nat.le_trans h3 (Nat.pow_le_pow_right (by decide) (by omega))
theorem near_err2 {f : Ieee.Format} {F : Nat} {L : Int} {Z : Nat} (h : Fm f F L Z) (s : Bool) {m : Nat} {p B Q : Int} (hQ : Q ≤ p) (hQL : Q ≤ L) (hm : m ≠ 0) (hB : m = 0 ∨ p + (m.log2 : Int) < B) (hZ : B - (F : Int) - L + 2 ≤ (Z : Int)) :
    ∃ (m' : Nat) (p' : Int) (K : Nat), f.read (f.nearest s m p) = .number s m' p' ∧ L ≤ p' ∧ m' * 2 ^ (p' - Q).toNat = K * 2 ^ (max (p + (m.log2 : Int) - (F : Int)) L - Q).toNat ∧
      2 * (((K * 2 ^ (max (p + (m.log2 : Int) - (F : Int)) L - Q).toNat : Nat) : Int) - ((m * 2 ^ (p - Q).toNat : Nat) : Int)).natAbs ≤ 2 ^ (max (p + (m.log2 : Int) - (F : Int)) L - Q).toNat := by
  have h2 := h.two
  have hB := hB.resolve_left hm
  unfold Ieee.Format.nearest
  rw [if_neg hm, h.frac, h.least, h.bin, h.inf]
  dsimp only
  generalize hlast : max (p + (m.log2 : Int) - (F : Int)) L = last
  have hl1 : L ≤ last := by omega
  have hl2 : last ≤ max (B - 1 - (F : Int)) L := by omega
  obtain ⟨l, hl⟩ : ∃ l : Nat, last = L + (l : Int) := ⟨(last - L).toNat, by omega⟩
  have e1 : (last - L).toNat = l := by omega
  rw [e1]
  have hlog1 : 2 ^ m.log2 ≤ m := Nat.log2_self_le hm
  have hlog2 : m < 2 ^ (m.log2 + 1) := Nat.lt_log2_self
  generalize hkept : Ieee.Toward.even.cut s (m <<< (p - last).toNat) (last - p).toNat = K
  have herr : 2 * (((K * 2 ^ (last - Q).toNat : Nat) : Int) - ((m * 2 ^ (p - Q).toNat : Nat) : Int)).natAbs ≤ 2 ^ (last - Q).toNat ∧ K ≤ 2 * 2 ^ F ∧ (l = 0 ∨ 2 ^ F ≤ K) := by
    by_cases hle : last ≤ p
    · rw [show (last - p).toNat = 0 by omega, cut_zero, Nat.shiftLeft_eq] at hkept
      have e2 : K * 2 ^ (last - Q).toNat = m * 2 ^ (p - Q).toNat := by
        rw [← hkept, Nat.mul_assoc, ← Nat.pow_add, show (p - last).toNat + (last - Q).toNat = (p - Q).toNat by omega]
      rw [e2, Int.sub_self]
      refine ⟨by simp, ?_, ?_⟩
      · have h3 : K < 2 ^ (m.log2 + 1) * 2 ^ (p - last).toNat := by rw [← hkept]; exact Nat.mul_lt_mul_of_pos_right hlog2 (Nat.pow_pos (by decide))
        rw [← Nat.pow_add] at h3
        have h4 : 2 ^ (m.log2 + 1 + (p - last).toNat) ≤ 2 ^ (F + 1) := Nat.pow_le_pow_right (by decide) (by omega)
        rw [Nat.pow_succ, Nat.mul_comm] at h4
        omega
      · by_cases h0 : l = 0
        · exact .inl h0
        · right
          have h3 : 2 ^ m.log2 * 2 ^ (p - last).toNat ≤ K := by rw [← hkept]; exact Nat.mul_le_mul_right _ hlog1
          rw [← Nat.pow_add, show m.log2 + (p - last).toNat = F by omega] at h3
          exact h3
    · rw [show (p - last).toNat = 0 by omega, Nat.shiftLeft_zero] at hkept
      have hc := cut_err s m (last - p).toNat
      rw [hkept] at hc
      generalize hd : (last - p).toNat = d at hc hkept
      have e2 : 2 ^ (last - Q).toNat = 2 ^ d * 2 ^ (p - Q).toNat := by rw [← Nat.pow_add, show d + (p - Q).toNat = (last - Q).toNat by omega]
      refine ⟨?_, ?_, ?_⟩
      · rw [e2, ← Nat.mul_assoc, Int.natCast_mul (K * 2 ^ d), Int.natCast_mul m, ← Int.sub_mul, Int.natAbs_mul, Int.natAbs_natCast, ← Nat.mul_assoc]
        exact Nat.mul_le_mul_right _ hc
      · have hle2 := cut_le s m d
        rw [hkept] at hle2
        have h3 : m / 2 ^ d < 2 ^ (F + 1) := by
          rw [Nat.div_lt_iff_lt_mul (Nat.pow_pos (by decide)), ← Nat.pow_add]
          exact Nat.lt_of_lt_of_le hlog2 (Nat.pow_le_pow_right (by decide) (by omega))
        rw [Nat.pow_succ, Nat.mul_comm] at h3
        omega
      · by_cases h0 : l = 0
        · exact .inl h0
        · right
          have hld : m.log2 = F + d := by omega
          have h3 : 2 ^ F * 2 ^ d ≤ m := by rw [← Nat.pow_add, ← hld]; exact hlog1
          have hdp : 0 < 2 ^ d := Nat.pow_pos (by decide)
          generalize 2 ^ d = D at hc h3 hdp
          generalize 2 ^ F = G at h3
          refine Nat.le_of_not_lt fun hlt => ?_
          have h4 : (K + 1) * D ≤ G * D := Nat.mul_le_mul_right _ hlt
          rw [Nat.add_mul, Nat.one_mul] at h4
          omega
  obtain ⟨h3, h4, h5⟩ := herr
  have hl3 : l + 2 < Z := by omega
  obtain ⟨m', j, h6, h7⟩ := read_rung h s h4 h5 hl3
  have hmin : min (l * 2 ^ F + K) (Z * 2 ^ F) = l * 2 ^ F + K := by
    apply Nat.min_eq_left
    have : (l + 2) * 2 ^ F ≤ Z * 2 ^ F := Nat.mul_le_mul_right _ (by omega)
    rw [Nat.add_mul] at this
    omega
  rw [hmin]
  refine ⟨m', L + (j : Int), K, h6, by omega, ?_, h3⟩
  rw [show (L + (j : Int) - Q).toNat = j + (L - Q).toNat by omega, Nat.pow_add, ← Nat.mul_assoc, h7, Nat.mul_assoc, ← Nat.pow_add, show l + (L - Q).toNat = (last - Q).toNat by omega]
theorem near_ex {f : Ieee.Format} {F : Nat} {L : Int} {Z : Nat} (h : Fm f F L Z) (s : Bool) {m : Nat} {p B Q : Int} (hQ : Q ≤ p) (hQL : Q ≤ L) (hB : m = 0 ∨ p + (m.log2 : Int) < B) (hZ : B - (F : Int) - L + 2 ≤ (Z : Int))
    {V k : Nat} (hV : V < 2 ^ (F + 1)) (hk : (L - Q).toNat ≤ k) (he : m * 2 ^ (p - Q).toNat = V * 2 ^ k) :
    ∃ (m' : Nat) (p' : Int), f.read (f.nearest s m p) = .number s m' p' ∧ L ≤ p' ∧ m' * 2 ^ (p' - Q).toNat = V * 2 ^ k := by
  by_cases hm : m = 0
  · subst hm
    obtain ⟨m', p', h1, h2, h3⟩ := near_err h s hQ hQL hB hZ
    unfold Ieee.Format.nearest at h1
    rw [if_pos rfl] at h1
    have hw := read_of_word (f := f) s (r := 0) (by have := h.sgn; have := h.two; have := Nat.pow_pos (n := F) (show 0 < 2 by decide); have := Nat.mul_pos (show 0 < Z by omega) this; omega)
    rw [if_pos (by rw [h.bin]; exact Nat.pow_pos (by decide)), h.least] at hw
    rw [hw] at h1
    cases h1
    refine ⟨0, L, ?_, Int.le_refl _, by rw [Nat.zero_mul] at he ⊢; exact he⟩
    unfold Ieee.Format.nearest
    rw [if_pos rfl]
    exact hw
  · obtain ⟨m', p', K, h1, h2, h3, h4⟩ := near_err2 h s hQ hQL hm hB hZ
    refine ⟨m', p', h1, h2, ?_⟩
    rw [h3]
    generalize hx : (max (p + (m.log2 : Int) - (F : Int)) L - Q).toNat = x at h4
    have hxk : x ≤ k := by
      have h5 : 2 ^ (m.log2 + (p - Q).toNat) ≤ V * 2 ^ k := by
        rw [← he, Nat.pow_add]
        exact Nat.mul_le_mul_right _ (Nat.log2_self_le hm)
      have h6 : V * 2 ^ k < 2 ^ (F + 1 + k) := by rw [Nat.pow_add]; exact Nat.mul_lt_mul_of_pos_right hV (Nat.pow_pos (by decide))
      have h7 := (Nat.pow_lt_pow_iff_right (by decide : 1 < 2)).1 (Nat.lt_of_le_of_lt h5 h6)
      omega
    obtain ⟨y, rfl⟩ : ∃ y, k = y + x := ⟨k - x, by omega⟩
    rw [he, Nat.pow_add, ← Nat.mul_assoc] at h4
    rw [Nat.pow_add, ← Nat.mul_assoc]
    generalize V * 2 ^ y = q at h4
    have hpos : 0 < 2 ^ x := Nat.pow_pos (by decide)
    generalize 2 ^ x = X at h4 hpos
    rcases Nat.lt_trichotomy K q with h8 | h8 | h8
    · have h9 : (K + 1) * X ≤ q * X := Nat.mul_le_mul_right _ h8
      rw [Nat.add_mul, Nat.one_mul] at h9
      generalize K * X = u at h4 h9
      generalize q * X = v at h4 h9
      omega
    · rw [h8]
    · have h9 : (q + 1) * X ≤ K * X := Nat.mul_le_mul_right _ h8
      rw [Nat.add_mul, Nat.one_mul] at h9
      generalize K * X = u at h4 h9
      generalize q * X = v at h4 h9
      omega
def Is (f : Ieee.Format) (L : Int) (x : Nat) (v : Int) : Prop := ∃ s m e, f.read x = .number s m e ∧ L ≤ e ∧ v = Ieee.signed s m (e - L).toNat
theorem signed_eq (s : Bool) (m k : Nat) : Ieee.signed s m k = if s = true then -((m * 2 ^ k : Nat) : Int) else ((m * 2 ^ k : Nat) : Int) := by unfold Ieee.signed; rw [Nat.shiftLeft_eq]
end Go.Proofs.Ytpeplbbphpamhaa.Ab

namespace Go.Proofs.Ytpeplbbphpamhaa.Ab
set_option linter.unusedVariables false
set_option linter.unusedSimpArgs false
theorem div_pos' {b d : Rat} (hb : 0 < b) (hd : 0 < d) : 0 < b / d := by
  have h1 : (b / d) * d = b := by grind
  refine Rat.not_le.1 fun h => ?_
  have h2 : b / d * d ≤ 0 * d := Rat.mul_le_mul_of_nonneg_right h (by grind)
  grind
theorem div_mono {b d e : Rat} (hb : 0 < b) (he : 0 < e) (h : e ≤ d) : b / d ≤ b / e := by
  have hd : 0 < d := by grind
  have h1 : (b / d) * d = b := by grind
  have h2 : (b / e) * e = b := by grind
  have h3 : 0 < b / e := div_pos' hb he
  generalize b / d = x at h1
  generalize b / e = y at h2 h3
  refine Rat.not_lt.1 fun h4 => ?_
  have h5 : y * d < x * d := Rat.mul_lt_mul_of_pos_right h4 hd
  have h6 : y * e ≤ y * d := Rat.mul_le_mul_of_nonneg_left h (by grind)
  grind
theorem div_neg_mono {b d e : Rat} (hb : 0 < b) (he : d < 0) (h : e ≤ d) : b / d ≤ b / e := by
  have h1 := div_mono hb (show 0 < -d by grind) (show -d ≤ -e by grind)
  have h2 : b / (-d) = -(b / d) := by grind
  have h3 : b / (-e) = -(b / e) := by grind
  grind
theorem div_neg' {b d : Rat} (hb : 0 < b) (hd : d < 0) : b / d < 0 := by
  have h1 := div_pos' hb (show 0 < -d by grind)
  have h2 : b / (-d) = -(b / d) := by grind
  grind
abbrev Pv := Option Rat
def stp (b c : Rat) : Pv → Pv
  | none => some c
  | some d => if d = 0 then none else some (c - b / d)
def ngv : Pv → Bool
  | none => true
  | some d => decide (d < 0)
def cnt (b : Rat) : Pv → List Rat → Nat
  | _, [] => 0
  | s, c :: cs => (ngv (stp b c s)).toNat + cnt b (stp b c s) cs
def gev : Pv → Pv → Prop
  | _, none => True
  | none, some _ => False
  | some d, some e => e ≤ d
def ordv (s t : Pv) : Prop := (ngv s = true ∧ ngv t = false) ∨ (ngv s = ngv t ∧ gev s t)
def keyv (k : Nat) (s : Pv) (l : Nat) (t : Pv) : Prop := k < l ∨ (k = l ∧ ordv s t)
def leL : List Rat → List Rat → Prop
  | [], [] => True
  | c :: cs, d :: ds => c ≤ d ∧ leL cs ds
  | _, _ => False
theorem stp_ge {b c c' : Rat} (hb : 0 < b) (h : c' ≤ c) {s t : Pv} (ho : ordv s t) : gev (stp b c s) (stp b c' t) := by
  cases s with
  | none =>
    cases t with
    | none => exact h
    | some e =>
      rcases ho with ⟨_, h2⟩ | ⟨_, h2⟩
      · have he : ¬ e < 0 := by simpa [ngv] using h2
        by_cases h0 : e = 0
        · simp only [stp, if_pos h0]; trivial
        · simp only [stp, if_neg h0, gev]
          have := div_pos' hb (show 0 < e by grind)
          grind
      · exact h2.elim
  | some d =>
    by_cases hd0 : d = 0
    · cases t with
      | none =>
        rcases ho with ⟨h1, _⟩ | ⟨h1, _⟩
        · simp [ngv, hd0] at h1
        · simp [ngv, hd0] at h1
      | some e =>
        rcases ho with ⟨h1, _⟩ | ⟨h1, h2⟩
        · simp [ngv, hd0] at h1
        · have he : ¬ e < 0 := by simpa [ngv, hd0] using h1
          have h3 : e ≤ d := h2
          have h0 : e = 0 := by grind
          simp only [stp, if_pos h0]; trivial
    · cases t with
      | none =>
        have hd : d < 0 := by
          rcases ho with ⟨_, h1⟩ | ⟨h1, _⟩
          · simp [ngv] at h1
          · simpa [ngv] using h1
        simp only [stp, if_neg hd0, gev]
        have := div_neg' hb hd
        grind
      | some e =>
        by_cases h0 : e = 0
        · simp only [stp, if_pos h0]; trivial
        · simp only [stp, if_neg h0, if_neg hd0, gev]
          rcases ho with ⟨h1, h2⟩ | ⟨h1, h2⟩
          · have hd : d < 0 := by simpa [ngv] using h1
            have he : ¬ e < 0 := by simpa [ngv] using h2
            have := div_neg' hb hd
            have := div_pos' hb (show 0 < e by grind)
            grind
          · have h3 : e ≤ d := h2
            by_cases hd : d < 0
            · have := div_neg_mono hb hd h3
              grind
            · have he : ¬ e < 0 := by
                have : ngv (some e) = false := by rw [← h1]; simp [ngv, hd]
                simpa [ngv] using this
              have := div_mono hb (show 0 < e by grind) h3
              grind
theorem ge_ng {s t : Pv} (h : gev s t) (hs : ngv s = true) : ngv t = true := by
  cases t with
  | none => rfl
  | some e =>
    cases s with
    | none => exact h.elim
    | some d =>
      have h1 : e ≤ d := h
      have h2 : d < 0 := by simpa [ngv] using hs
      have : e < 0 := by grind
      simp [ngv, this]
theorem key_step {b c c' : Rat} (hb : 0 < b) (h : c' ≤ c) {k l : Nat} {s t : Pv} (hk : keyv k s l t) :
    keyv (k + (ngv (stp b c s)).toNat) (stp b c s) (l + (ngv (stp b c' t)).toNat) (stp b c' t) := by
  rcases hk with hk | ⟨rfl, ho⟩
  · cases h1 : ngv (stp b c s) <;> cases h2 : ngv (stp b c' t)
    · exact .inl (by simp; omega)
    · exact .inl (by simp; omega)
    · by_cases h3 : k + 1 < l
      · exact .inl (by simp; omega)
      · refine .inr ⟨by simp; omega, .inl ⟨h1, h2⟩⟩
    · exact .inl (by simp; omega)
  · have hg := stp_ge hb h ho
    cases h1 : ngv (stp b c s) <;> cases h2 : ngv (stp b c' t)
    · exact .inr ⟨by simp, .inr ⟨by rw [h1, h2], hg⟩⟩
    · exact .inl (by simp)
    · rw [ge_ng hg h1] at h2; cases h2
    · exact .inr ⟨by simp, .inr ⟨by rw [h1, h2], hg⟩⟩
theorem cnt_key {b : Rat} (hb : 0 < b) : ∀ (cs cs' : List Rat) (s t : Pv) (k l : Nat), leL cs' cs → keyv k s l t → k + cnt b s cs ≤ l + cnt b t cs'
  | [], [], s, t, k, l, _, hk => by
    rcases hk with hk | ⟨rfl, _⟩
    · simp only [cnt]; omega
    · exact Nat.le_refl _
  | c :: cs, c' :: cs', s, t, k, l, hl, hk => by
    simp only [cnt]
    have := cnt_key hb cs cs' _ _ _ _ hl.2 (key_step hb hl.1 hk)
    omega
theorem cnt_mono {b : Rat} (hb : 0 < b) {cs cs' : List Rat} (h : leL cs' cs) : cnt b none cs ≤ cnt b none cs' := by
  have := cnt_key hb cs cs' none none 0 0 h (.inr ⟨rfl, .inr ⟨rfl, trivial⟩⟩)
  omega
def sgP : Nat → Rat
  | 0 => 1
  | k + 1 => - sgP k
theorem sgn_sq : ∀ k, sgP k * sgP k = 1
  | 0 => by decide +kernel
  | k + 1 => by have := sgn_sq k; show (- sgP k) * (- sgP k) = 1; grind
def pl (b : Rat) : Rat → Rat → List Rat → Rat
  | p, _, [] => p
  | p, q, c :: cs => pl b (c * p - b * q) p cs
def pinv (k : Nat) (s : Pv) (p q : Rat) : Prop := match s with
  | none => q = 0 ∧ 0 < sgP k * p
  | some d => p = d * q ∧ (if d = 0 then 0 < sgP k * q else 0 < sgP k * p)
theorem pinv_weak {k : Nat} {s : Pv} {p q : Rat} (h : pinv k s p q) : 0 ≤ sgP k * p := by
  cases s with
  | none => have := h.2; grind
  | some d =>
    have h1 := h.1
    have h2 := h.2
    by_cases h0 : d = 0
    · have hp : p = 0 := by rw [h0] at h1; grind
      rw [hp]; grind
    · rw [if_neg h0] at h2; grind
theorem some_inv {k : Nat} {c p : Rat} (h : 0 < sgP k * p) : pinv (k + (ngv (some c)).toNat) (some c) (c * p) p := by
  refine ⟨rfl, ?_⟩
  by_cases hc : c = 0
  · rw [if_pos hc]
    simpa [ngv, hc] using h
  · rw [if_neg hc]
    by_cases h1 : c < 0
    · simp only [ngv, h1, decide_true, Bool.toNat_true]
      show 0 < (- sgP k) * (c * p)
      have := Rat.mul_pos h (show 0 < -c by grind)
      grind
    · simp only [ngv, h1, decide_false, Bool.toNat_false]
      have := Rat.mul_pos h (show 0 < c by grind)
      grind
theorem pinv_step {b c : Rat} (hb : 0 < b) {k : Nat} {s : Pv} {p q : Rat} (h : pinv k s p q) : pinv (k + (ngv (stp b c s)).toNat) (stp b c s) (c * p - b * q) p := by
  cases s with
  | none =>
    have h1 := h.1
    have h2 := h.2
    have e : c * p - b * q = c * p := by grind
    rw [e]
    exact some_inv h2
  | some d =>
    have h1 := h.1
    have h2 := h.2
    by_cases h0 : d = 0
    · rw [if_pos h0] at h2
      simp only [stp, if_pos h0]
      refine ⟨by grind, ?_⟩
      show 0 < (- sgP k) * _
      have := Rat.mul_pos h2 hb
      have hp : p = 0 := by grind
      subst hp
      grind
    · rw [if_neg h0] at h2
      simp only [stp, if_neg h0]
      have e : c * p - b * q = (c - b / d) * p := by grind
      rw [e]
      exact some_inv h2
theorem pl_sign {b : Rat} (hb : 0 < b) : ∀ (cs : List Rat) (k : Nat) (s : Pv) (p q : Rat), pinv k s p q → 0 ≤ sgP (k + cnt b s cs) * pl b p q cs
  | [], k, s, p, q, h => pinv_weak h
  | c :: cs, k, s, p, q, h => by
    have := pl_sign hb cs _ _ _ _ (pinv_step (c := c) hb h)
    simp only [cnt, pl]
    rw [← Nat.add_assoc]
    exact this
theorem pinv0 : pinv 0 none 1 0 := ⟨rfl, by decide +kernel⟩
theorem det_sign {b : Rat} (hb : 0 < b) (cs : List Rat) : 0 ≤ sgP (cnt b none cs) * pl b 1 0 cs := by
  have := pl_sign hb cs 0 none 1 0 pinv0
  rw [Nat.zero_add] at this
  exact this
def wpos (b δ : Rat) : Rat → Rat → Rat → Rat → List Rat → Prop
  | _, _, _, _, [] => True
  | p, q, p', q', c :: cs => 0 < (c * p - b * q) * p' - p * ((c - δ) * p' - b * q') ∧ wpos b δ (c * p - b * q) p ((c - δ) * p' - b * q') p' cs
theorem sgn_pm (k : Nat) : sgP k = 1 ∨ sgP k = -1 := by
  induction k with
  | zero => exact .inl rfl
  | succ k ih => rcases ih with h | h <;> simp only [sgP, h] <;> decide +kernel
theorem mul_nn {x y : Rat} (h : 0 ≤ x) (k : 0 ≤ y) : 0 ≤ x * y := Rat.mul_nonneg h k
theorem jump {b δ : Rat} (hb : 0 < b) : ∀ (cs : List Rat) (k k' : Nat) (s s' : Pv) (p q p' q' : Rat), pinv k s p q → pinv k' s' p' q' → (k' = k ∨ k' = k + 1) → wpos b δ p q p' q' cs →
    (k' + cnt b s' (cs.map (· - δ)) = k + cnt b s cs ∨ k' + cnt b s' (cs.map (· - δ)) = k + cnt b s cs + 1)
  | [], k, k', s, s', p, q, p', q', _, _, h, _ => h
  | c :: cs, k, k', s, s', p, q, p', q', h1, h2, h, hw => by
    obtain ⟨w1, w2⟩ := hw
    have i1 := pinv_step (c := c) hb h1
    have i2 := pinv_step (c := c - δ) hb h2
    simp only [List.map_cons, cnt]
    rw [← Nat.add_assoc, ← Nat.add_assoc]
    refine jump hb cs _ _ _ _ _ _ _ _ i1 i2 ?_ w2
    have a1 := pinv_weak h1
    have a2 := pinv_weak h2
    have b1 := pinv_weak i1
    have b2 := pinv_weak i2
    generalize c * p - b * q = u at *
    generalize (c - δ) * p' - b * q' = v at *
    generalize ngv (stp b c s) = x at *
    generalize ngv (stp b (c - δ) s') = y at *
    rcases h with rfl | rfl
    · cases x <;> cases y
      · exact .inl rfl
      · exact .inr rfl
      · exfalso
        have b1 : 0 ≤ (- sgP k') * u := b1
        have b2 : 0 ≤ sgP k' * v := b2
        rcases sgn_pm k' with e | e <;> rw [e] at a1 a2 b1 b2
        · have := mul_nn b1 a2; have := mul_nn a1 b2; grind
        · have := mul_nn b1 a2; have := mul_nn a1 b2; grind
      · exact .inl rfl
    · cases x <;> cases y
      · exact .inr rfl
      · exfalso
        have b1 : 0 ≤ sgP k * u := b1
        have b2 : 0 ≤ (- - sgP k) * v := b2
        have a2 : 0 ≤ (- sgP k) * p' := a2
        rcases sgn_pm k with e | e <;> rw [e] at a1 a2 b1 b2
        · have := mul_nn b1 a2; have := mul_nn a1 b2; grind
        · have := mul_nn b1 a2; have := mul_nn a1 b2; grind
      · exact .inl rfl
      · exact .inr rfl
def absR (x : Rat) : Rat := if 0 ≤ x then x else -x
theorem le_both {x k : Rat} : absR x ≤ k ↔ (-k ≤ x ∧ x ≤ k) := by unfold absR; split <;> grind
theorem abs_mulR {x y k l : Rat} (hx : absR x ≤ k) (hy : absR y ≤ l) : absR (x * y) ≤ k * l := by
  rw [le_both] at hx hy ⊢
  have h1 := mul_nn (show 0 ≤ k - x by grind) (show 0 ≤ l + y by grind)
  have h2 := mul_nn (show 0 ≤ k + x by grind) (show 0 ≤ l - y by grind)
  have h3 := mul_nn (show 0 ≤ k - x by grind) (show 0 ≤ l - y by grind)
  have h4 := mul_nn (show 0 ≤ k + x by grind) (show 0 ≤ l + y by grind)
  grind
theorem abs_addR {x y k l : Rat} (hx : absR x ≤ k) (hy : absR y ≤ l) : absR (x + y) ≤ k + l := by
  rw [le_both] at *; grind
theorem abs_subR {x y k l : Rat} (hx : absR x ≤ k) (hy : absR y ≤ l) : absR (x - y) ≤ k + l := by
  rw [le_both] at *; grind
structure near (b δ K w p q p' q' : Rat) : Prop where
  k0 : 1 ≤ K
  hp : absR p ≤ K
  hq : absR q ≤ K
  hp' : absR p' ≤ K
  hq' : absR q' ≤ K
  dp : absR (p - p') ≤ K * δ
  dq : absR (q - q') ≤ K * δ
  hw : δ * w ≤ p * q' - q * p'
theorem near_step {b δ K w p q p' q' c : Rat} (h : near b δ K w p q p' q') (hb : 0 ≤ b ∧ b ≤ 4) (hδ : 0 ≤ δ) (hc : absR c ≤ 32) (hc' : absR (c - δ) ≤ 32) {τ : Rat} (hτ : K * δ * (K * δ) ≤ 4 * τ) :
    near b δ (64 * K) (b * w - τ) (c * p - b * q) p ((c - δ) * p' - b * q') p' := by
  obtain ⟨h0, h1, h2, h3, h4, h5, h6, h7⟩ := h
  have hb' : absR b ≤ 4 := by rw [le_both]; grind
  have hKδ : 0 ≤ K * δ := mul_nn (by grind) hδ
  refine ⟨by grind, ?_, ?_, ?_, ?_, ?_, ?_, ?_⟩
  · have := abs_subR (abs_mulR hc h1) (abs_mulR hb' h2); grind
  · grind
  · have := abs_subR (abs_mulR hc' h3) (abs_mulR hb' h4); grind
  · grind
  · have e : c * p - b * q - ((c - δ) * p' - b * q') = c * (p - p') + (δ * p' - b * (q - q')) := by grind
    rw [e]
    have i1 : absR δ ≤ δ := by rw [le_both]; grind
    have := abs_addR (abs_mulR hc h5) (abs_subR (abs_mulR i1 h3) (abs_mulR hb' h6))
    grind
  · have := h5; grind
  · have e : (c * p - b * q) * p' - p * ((c - δ) * p' - b * q') = δ * (p * p') + b * (p * q' - q * p') := by grind
    rw [e]
    have hpp : - τ ≤ p * p' := by
      have s1 : (p - p') * (p - p') ≤ 4 * τ := by
        have := abs_mulR h5 h5
        rw [le_both] at this
        grind
      have s2 : 0 ≤ (p + p') * (p + p') := by
        rcases (Std.le_total (a := (0 : Rat)) (b := p + p')) with h | h
        · exact mul_nn h h
        · have := mul_nn (show 0 ≤ -(p + p') by grind) (show 0 ≤ -(p + p') by grind); grind
      grind
    have i1 := mul_nn hδ (show 0 ≤ p * p' + τ by grind)
    have i2 := mul_nn hb.1 (show 0 ≤ p * q' - q * p' - δ * w by grind)
    grind
theorem near_wpos {b δ τ : Rat} (hb : 1 / 16 ≤ b ∧ b ≤ 4) (hδ : 0 < δ) (hδ' : δ * 2 ^ 70 ≤ 1) (hτ : τ * 2 ^ 46 = 1) : ∀ (cs : List Rat) (K w p q p' q' : Rat), near b δ K w p q p' q' → K * 64 ^ cs.length ≤ 2 ^ 48 → 32 ^ cs.length ≤ w * 2 ^ 45 →
    (∀ c ∈ cs, absR c ≤ 32 ∧ absR (c - δ) ≤ 32) → wpos b δ p q p' q' cs
  | [], _, _, _, _, _, _, _, _, _, _ => trivial
  | c :: cs, K, w, p, q, p', q', h, hK, hw, hc => by
    obtain ⟨c1, c2⟩ := hc c (List.mem_cons_self ..)
    rw [List.length_cons] at hK hw
    have e1 : (64 : Rat) ^ (cs.length + 1) = 64 * 64 ^ cs.length := by grind
    have e2 : (32 : Rat) ^ (cs.length + 1) = 32 * 32 ^ cs.length := by grind
    rw [e1] at hK
    rw [e2] at hw
    have p1 : (1 : Rat) ≤ 64 ^ cs.length := by
      generalize cs.length = n
      induction n with
      | zero => decide +kernel
      | succ n ih => rw [Rat.pow_succ]; grind
    have p2 : (1 : Rat) ≤ 32 ^ cs.length := by
      generalize cs.length = n
      induction n with
      | zero => decide +kernel
      | succ n ih => rw [Rat.pow_succ]; grind
    generalize (64 : Rat) ^ cs.length = A at *
    generalize (32 : Rat) ^ cs.length = B at *
    have hk0 := h.k0
    have hK' : K * δ * (K * δ) ≤ 4 * τ := by
      have k1 : K ≤ 2 ^ 42 := by
        have := mul_nn (show 0 ≤ K by grind) (show 0 ≤ A - 1 by grind)
        grind
      have k2 : K * δ ≤ 2 ^ 42 * δ := Rat.mul_le_mul_of_nonneg_right k1 (by grind)
      have k3 : 0 ≤ K * δ := mul_nn (by grind) (by grind)
      have k4 := mul_nn k3 (show 0 ≤ 2 ^ 42 * δ - K * δ by grind)
      have k5 := mul_nn (show 0 ≤ 2 ^ 42 * δ by grind) (show 0 ≤ 2 ^ 42 * δ - K * δ by grind)
      have k6 := mul_nn (show 0 ≤ δ by grind) (show 0 ≤ 1 - δ * 2 ^ 70 by grind)
      grind
    have hn := near_step h ⟨by grind, hb.2⟩ (Rat.le_of_lt hδ) c1 c2 hK'
    have hw2 : w / 32 ≤ b * w - τ := by
      have := mul_nn (show 0 ≤ w by grind) (show 0 ≤ b - 1 / 16 by grind)
      grind
    refine ⟨?_, near_wpos hb hδ hδ' hτ cs (64 * K) (b * w - τ) _ _ _ _ hn (by grind) (by grind) fun x hx => hc x (List.mem_cons_of_mem _ hx)⟩
    have := hn.hw
    have := Rat.mul_pos hδ (show 0 < b * w - τ by grind)
    grind
theorem cnt_close {b δ : Rat} (hb : 1 / 16 ≤ b ∧ b ≤ 4) (hδ : 0 < δ) (hδ' : δ * 2 ^ 70 ≤ 1) {cs : List Rat} (hn : cs.length ≤ 8) (hc : ∀ c ∈ cs, absR c ≤ 32 ∧ absR (c - δ) ≤ 32) :
    cnt b none (cs.map (· - δ)) = cnt b none cs ∨ cnt b none (cs.map (· - δ)) = cnt b none cs + 1 := by
  have hb0 : 0 < b := by grind
  have hw : wpos b δ 1 0 1 0 cs := by
    cases cs with
    | nil => trivial
    | cons c cs =>
      obtain ⟨c1, c2⟩ := hc c (List.mem_cons_self ..)
      have hn0 : near b δ 64 1 (c * 1 - b * 0) 1 ((c - δ) * 1 - b * 0) 1 := by
        rw [le_both] at c1 c2
        refine ⟨by decide +kernel, ?_, ?_, ?_, ?_, ?_, ?_, ?_⟩ <;> first | (rw [le_both]; constructor <;> grind) | grind
      refine ⟨by grind, near_wpos hb hδ hδ' (τ := 1 / 2 ^ 46) (by grind) cs 64 1 _ _ _ _ hn0 ?_ ?_ fun x hx => hc x (List.mem_cons_of_mem _ hx)⟩
      · rw [List.length_cons] at hn
        have : ∀ n, n ≤ 7 → (64 : Rat) * 64 ^ n ≤ 2 ^ 48 := by decide +kernel
        exact this _ (by omega)
      · rw [List.length_cons] at hn
        have : ∀ n, n ≤ 7 → (32 : Rat) ^ n ≤ 1 * 2 ^ 45 := by decide +kernel
        exact this _ (by omega)
  have := jump hb0 cs 0 0 none none 1 0 1 0 pinv0 pinv0 (.inl rfl) hw
  simpa using this
def sh (a : List Rat) (e : Rat) : List Rat := a.map (· - e)
def cn (b : Rat) (a : List Rat) (e : Rat) : Nat := cnt b none (sh a e)
theorem sh_add (a : List Rat) (e δ : Rat) : (sh a e).map (· - δ) = sh a (e + δ) := by
  unfold sh
  rw [List.map_map]
  congr 1
  funext x
  show x - e - δ = x - (e + δ)
  grind
theorem ivt {b δ : Rat} (hb : 1 / 16 ≤ b ∧ b ≤ 4) (hδ : 0 < δ) (hδ' : δ * 2 ^ 70 ≤ 1) {a : List Rat} (hn : a.length ≤ 8) (ha : ∀ c ∈ a, absR c ≤ 8) {j : Nat} : ∀ (N : Nat) (e : Rat), -20 ≤ e → e + N * δ ≤ 20 → cn b a e ≤ j → j ≤ cn b a (e + N * δ) →
    ∃ z, e ≤ z ∧ z ≤ e + N * δ ∧ cn b a z = j
  | 0, e, h1, h2, h3, h4 => by
    have e0 : e + (0 : Nat) * δ = e := by grind
    rw [e0] at h4
    exact ⟨e, Rat.le_refl, by grind, by omega⟩
  | N + 1, e, h1, h2, h3, h4 => by
    have hN : (0 : Rat) ≤ N := by exact_mod_cast Nat.zero_le N
    have hNδ : 0 ≤ N * δ := mul_nn hN (by grind)
    have e1 : ((N + 1 : Nat) : Rat) = N + 1 := by push_cast; rfl
    have e2 : e + ((N + 1 : Nat) : Rat) * δ = e + δ + N * δ := by rw [e1]; grind
    rw [e2] at h2 h4 ⊢
    by_cases h5 : cn b a e = j
    · exact ⟨e, Rat.le_refl, by grind, h5⟩
    · have hcl := cnt_close hb hδ hδ' (cs := sh a e) (by unfold sh; simpa using hn) (by
        intro c hc
        unfold sh at hc
        obtain ⟨x, hx, rfl⟩ := List.mem_map.1 hc
        have := ha x hx
        rw [le_both] at *
        rw [le_both]
        grind)
      rw [sh_add] at hcl
      have hcl : cn b a (e + δ) = cn b a e ∨ cn b a (e + δ) = cn b a e + 1 := hcl
      obtain ⟨z, z1, z2, z3⟩ := ivt hb hδ hδ' hn ha N (e + δ) (by grind) h2 (by omega) h4
      exact ⟨z, by grind, z2, z3⟩
theorem cn_mono {b : Rat} (hb : 0 < b) (a : List Rat) {e f : Rat} (h : e ≤ f) : cn b a e ≤ cn b a f := by
  refine cnt_mono hb ?_
  unfold sh
  induction a with
  | nil => trivial
  | cons x a ih => exact ⟨by grind, ih⟩
theorem reach {x δ : Rat} (hδ : 0 < δ) : ∃ N : Nat, x ≤ N * δ ∧ N * δ ≤ absR x + δ := by
  by_cases hx : x ≤ 0
  · exact ⟨0, by grind, by unfold absR; split <;> grind⟩
  · refine ⟨(x / δ).ceil.toNat, ?_, ?_⟩
    all_goals
      have h1 : 0 < x / δ := div_pos' (by grind) hδ
      have h2 := Rat.le_ceil (x := x / δ)
      have h3 := Rat.ceil_lt (x := x / δ)
      have h4 : 0 ≤ (x / δ).ceil := by
        have : (0 : Rat) < ((x / δ).ceil : Rat) := by grind
        have : 0 < (x / δ).ceil := by exact_mod_cast this
        omega
      have h5 : (((x / δ).ceil.toNat : Nat) : Rat) = ((x / δ).ceil : Rat) := by
        have := Int.toNat_of_nonneg h4
        exact_mod_cast congrArg (fun i : Int => (i : Rat)) this
      rw [h5]
      have e0 : x / δ * δ = x := by grind
    · have := Rat.mul_le_mul_of_nonneg_right h2 (show 0 ≤ δ by grind)
      grind
    · have := Rat.mul_le_mul_of_nonneg_right (Rat.le_of_lt h3) (show 0 ≤ δ by grind)
      unfold absR
      split <;> grind
def dd (x f : Nat → Rat) : Nat → Nat → Rat
  | 0, i => f i
  | m + 1, i => (dd x f m (i + 1) - dd x f m i) / (x (i + m + 1) - x i)
theorem dd_sign {x f : Nat → Rat} {n : Nat} (hx : ∀ i j, i < j → j < n → x i < x j) (s : Rat) (hf : ∀ j, j < n → 0 ≤ s * (sgP j * f j)) : ∀ m i, i + m < n → 0 ≤ s * (sgP (i + m) * dd x f m i)
  | 0, i, h => hf i h
  | m + 1, i, h => by
    have h1 := dd_sign hx s hf m (i + 1) (by omega)
    have h2 := dd_sign hx s hf m i (by omega)
    have h3 := hx i (i + m + 1) (by omega) (by omega)
    rw [show i + 1 + m = i + m + 1 by omega] at h1
    show 0 ≤ s * (sgP (i + m + 1) * ((dd x f m (i + 1) - dd x f m i) / (x (i + m + 1) - x i)))
    have hd : 0 < x (i + m + 1) - x i := by grind
    generalize x (i + m + 1) - x i = d at hd
    have e : s * (sgP (i + m + 1) * ((dd x f m (i + 1) - dd x f m i) / d)) = (s * (sgP (i + m + 1) * dd x f m (i + 1)) + s * (sgP (i + m) * dd x f m i)) / d := by
      have : sgP (i + m + 1) = - sgP (i + m) := rfl
      grind
    rw [e]
    have h12 : 0 ≤ s * (sgP (i + m + 1) * dd x f m (i + 1)) + s * (sgP (i + m) * dd x f m i) := by grind
    generalize s * (sgP (i + m + 1) * dd x f m (i + 1)) + s * (sgP (i + m) * dd x f m i) = y at *
    have hy : 0 ≤ y := by grind
    refine Rat.not_lt.1 fun h4 => ?_
    have h5 : y / d * d = y := by grind
    have h6 := Rat.mul_pos (show 0 < -(y / d) by grind) hd
    grind
theorem dd_lin {x f g : Nat → Rat} (a b : Rat) : ∀ m i, dd x (fun k => a * f k - b * g k) m i = a * dd x f m i - b * dd x g m i
  | 0, i => rfl
  | m + 1, i => by
    show (dd x (fun k => a * f k - b * g k) m (i + 1) - dd x (fun k => a * f k - b * g k) m i) / _ = a * (_ / _) - b * (_ / _)
    rw [dd_lin, dd_lin]
    generalize x (i + m + 1) - x i = d
    grind
theorem dd_mul {x f : Nat → Rat} {n : Nat} (hx : ∀ i j, i < j → j < n → x i < x j) : ∀ m i, i + m + 1 < n → dd x (fun k => x k * f k) (m + 1) i = x i * dd x f (m + 1) i + dd x f m (i + 1)
  | 0, i, h => by
    have h3 := hx i (i + 1) (by omega) (by omega)
    show (x (i + 1) * f (i + 1) - x i * f i) / (x (i + 1) - x i) = x i * ((f (i + 1) - f i) / (x (i + 1) - x i)) + f (i + 1)
    have : x (i + 1) - x i ≠ 0 := by grind
    grind
  | m + 1, i, h => by
    have h1 := dd_mul (f := f) hx m (i + 1) (by omega)
    have h2 := dd_mul (f := f) hx m i (by omega)
    have h3 := hx i (i + (m + 1) + 1) (by omega) (by omega)
    have h4 := hx (i + 1) (i + 1 + m + 1) (by omega) (by omega)
    show (dd x (fun k => x k * f k) (m + 1) (i + 1) - dd x (fun k => x k * f k) (m + 1) i) / (x (i + (m + 1) + 1) - x i) = x i * ((dd x f (m + 1) (i + 1) - dd x f (m + 1) i) / (x (i + (m + 1) + 1) - x i)) + dd x f (m + 1) (i + 1)
    rw [h1, h2]
    have hA : dd x f (m + 1) (i + 1) = (dd x f m (i + 1 + 1) - dd x f m (i + 1)) / (x (i + 1 + m + 1) - x (i + 1)) := rfl
    rw [show i + (m + 1) + 1 = i + 1 + m + 1 by omega] at h3 ⊢
    generalize dd x f (m + 1) (i + 1) = A at hA ⊢
    generalize dd x f m (i + 1 + 1) = B at hA ⊢
    generalize dd x f (m + 1) i = C
    generalize dd x f m (i + 1) = D at hA ⊢
    generalize x (i + 1 + m + 1) = u at *
    generalize x (i + 1) = v at *
    generalize x i = w at *
    have hB : B - D = A * (u - v) := by
      have : u - v ≠ 0 := by grind
      grind
    have : u - w ≠ 0 := by grind
    have hB' : B = D + A * (u - v) := by grind
    subst hB'
    grind
def sumx (x : Nat → Rat) (i : Nat) : Nat → Rat
  | 0 => 0
  | k + 1 => x i + sumx x (i + 1) k
structure poly (x : Nat → Rat) (n : Nat) (f : Nat → Rat) (k : Nat) (t : Rat) : Prop where
  no : ∀ m i, i + m < n → k < m → dd x f m i = 0
  one : ∀ i, i + k < n → dd x f k i = sgP k
  sum : ∀ l i, k = l + 1 → i + l < n → dd x f l i = sgP k * (sumx x i k - t)
  zero : k = 0 → t = 0
theorem poly_step {x : Nat → Rat} {n : Nat} (hx : ∀ i j, i < j → j < n → x i < x j) {f g : Nat → Rat} {k : Nat} {t : Rat} (hf : poly x n f k t) (hg : ∀ m i, i + m < n → k ≤ m → dd x g m i = 0) (a b : Rat) :
    poly x n (fun i => (a - x i) * f i - b * g i) (k + 1) (t + a) := by
  have e : (fun i => (a - x i) * f i - b * g i) = fun i => 1 * (a * f i - 1 * (x i * f i)) - b * g i := by funext i; grind
  rw [e]
  refine ⟨?_, ?_, ?_, fun h => absurd h (by omega)⟩
  · intro m i h1 h2
    obtain ⟨m, rfl⟩ : ∃ l, m = l + 1 := ⟨m - 1, by omega⟩
    rw [dd_lin (f := fun k => a * f k - 1 * (x k * f k)), dd_lin, dd_mul hx m i (by omega), hf.no _ _ h1 (by omega), hf.no _ _ (by omega) (by omega), hg _ _ h1 (by omega)]
    grind
  · intro i h1
    rw [dd_lin (f := fun k => a * f k - 1 * (x k * f k)), dd_lin, dd_mul hx k i (by omega), hf.no _ _ h1 (by omega), hf.one _ (by omega), hg _ _ h1 (by omega)]
    show _ = - sgP k
    grind
  · intro l i h0 h1
    obtain rfl : l = k := by omega
    rw [dd_lin (f := fun k => a * f k - 1 * (x k * f k)), dd_lin, hf.one _ h1, hg _ _ h1 (Nat.le_refl _)]
    cases l with
    | zero =>
      show 1 * (a * 1 - 1 * (x i * f i)) - b * 0 = (-1) * (x i + 0 - (t + a))
      have h2 : f i = 1 := hf.one i (by omega)
      have h3 : t = 0 := hf.zero rfl
      grind
    | succ m =>
      rw [dd_mul hx m i (by omega), hf.one _ h1, hf.sum m (i + 1) rfl (by omega)]
      show _ = (- sgP (m + 1)) * (x i + sumx x (i + 1) (m + 1) - (t + a))
      grind
def suml : Rat → List Rat → Rat
  | t, [] => t
  | t, c :: cs => suml (t + c) cs
theorem pl_poly {x : Nat → Rat} {n : Nat} (hx : ∀ i j, i < j → j < n → x i < x j) (b : Rat) : ∀ (a : List Rat) (f g : Nat → Rat) (k : Nat) (t : Rat), poly x n f k t → (∀ m i, i + m < n → k ≤ m → dd x g m i = 0) →
    poly x n (fun i => pl b (f i) (g i) (sh a (x i))) (k + a.length) (suml t a)
  | [], f, g, k, t, hf, _ => hf
  | c :: a, f, g, k, t, hf, hg => by
    have h1 := pl_poly hx b a _ _ (k + 1) (t + c) (poly_step hx hf hg c b) (fun m i h1 h2 => hf.no m i h1 (by omega))
    rw [List.length_cons, show k + (a.length + 1) = k + 1 + a.length by omega]
    exact h1
theorem dd_one {x : Nat → Rat} (c : Rat) : ∀ m i, dd x (fun _ => c) (m + 1) i = 0
  | 0, i => by show (c - c) / _ = 0; grind
  | m + 1, i => by show (dd x (fun _ => c) (m + 1) (i + 1) - dd x (fun _ => c) (m + 1) i) / _ = 0; rw [dd_one, dd_one]; grind
theorem dd_zero {x : Nat → Rat} : ∀ m i, dd x (fun _ => 0) m i = 0
  | 0, i => rfl
  | m + 1, i => by show (dd x (fun _ => 0) m (i + 1) - dd x (fun _ => 0) m i) / _ = 0; rw [dd_zero, dd_zero]; grind
theorem trace_sgn {b : Rat} (a : List Rat) {x : Nat → Rat} (hx : ∀ i j, i < j → j < a.length → x i < x j) (s : Rat) (ha : 0 < a.length) (hs : ∀ j, j < a.length → 0 ≤ s * (sgP j * pl b 1 0 (sh a (x j)))) :
    s * (sumx x 0 a.length - suml 0 a) ≤ 0 := by
  have h0 : poly x a.length (fun _ => 1) 0 0 := by
    refine ⟨?_, fun i h => rfl, fun l i h => absurd h (by omega), fun _ => rfl⟩
    intro m i _ h
    obtain ⟨m, rfl⟩ : ∃ l, m = l + 1 := ⟨m - 1, by omega⟩
    exact dd_one 1 m i
  have h1 := pl_poly hx b a (fun _ => 1) (fun _ => 0) 0 0 h0 (fun m i _ _ => dd_zero m i)
  rw [Nat.zero_add] at h1
  generalize hn : a.length = n at *
  obtain ⟨m, rfl⟩ : ∃ l, n = l + 1 := ⟨n - 1, by omega⟩
  have h2 := h1.sum m 0 rfl (by omega)
  have h3 := dd_sign hx s hs m 0 (by omega)
  rw [h2, Nat.zero_add] at h3
  have h4 := sgn_sq m
  have h5 : sgP (m + 1) = - sgP m := rfl
  rw [h5] at h3
  generalize sumx x 0 (m + 1) - suml 0 a = y at *
  have e : s * (sgP m * ((- sgP m) * y)) = - (s * y) * (sgP m * sgP m) := by grind
  rw [e, h4] at h3
  grind
theorem sumx_le {x y : Nat → Rat} {n : Nat} {ε : Rat} : ∀ k i, i + k ≤ n → (∀ j, j < n → x j ≤ y j + ε) → sumx x i k ≤ sumx y i k + k * ε
  | 0, i, _, _ => by show (0 : Rat) ≤ 0 + (0 : Nat) * ε; grind
  | k + 1, i, h, hx => by
    have h1 := sumx_le k (i + 1) (by omega) hx
    have h2 := hx i (by omega)
    show x i + sumx x (i + 1) k ≤ y i + sumx y (i + 1) k + ((k + 1 : Nat) : Rat) * ε
    have e : ((k + 1 : Nat) : Rat) = k + 1 := by push_cast; rfl
    rw [e]
    grind
theorem trace {b ε δ : Rat} (hb : 1 / 16 ≤ b ∧ b ≤ 4) (hδ : 0 < δ) (hδ' : δ * 2 ^ 70 ≤ 1) (hε : 0 ≤ ε ∧ ε ≤ 1) {a : List Rat} (hn : a.length ≤ 8) (h0 : 0 < a.length) (ha : ∀ c ∈ a, absR c ≤ 8) {E : Nat → Rat}
    (hE : ∀ k, k < a.length → absR (E k) ≤ 15 ∧ cn b a (E k - ε) ≤ k ∧ k + 1 ≤ cn b a (E k + ε)) :
    absR (sumx E 0 a.length - suml 0 a) ≤ a.length * (ε + δ) := by
  have hb0 : 0 < b := by grind
  have hmeet : ∀ k, k < a.length → ∀ j, k ≤ j → j ≤ k + 1 → ∃ z, E k - ε ≤ z ∧ z ≤ E k + ε + δ ∧ cn b a z = j := by
    intro k hk j h1 h2
    obtain ⟨e1, e2, e3⟩ := hE k hk
    rw [le_both] at e1
    obtain ⟨N, n1, n2⟩ := reach (x := 2 * ε) hδ
    have hab : absR (2 * ε) = 2 * ε := by unfold absR; split <;> grind
    rw [hab] at n2
    have hδ1 : δ ≤ 1 := by grind
    have h3 := cn_mono hb0 a (show E k + ε ≤ E k - ε + N * δ by grind)
    obtain ⟨z, z1, z2, z3⟩ := ivt hb hδ hδ' hn ha (j := j) N (E k - ε) (by grind) (by grind) (by omega) (by omega)
    exact ⟨z, z1, by grind, z3⟩
  have hinc : ∀ (x : Nat → Rat) (d : Nat), (∀ k, k < a.length → cn b a (x k) = k + d) → ∀ i j, i < j → j < a.length → x i < x j := by
    intro x d hx i j hij hj
    refine Rat.not_le.1 fun h => ?_
    have := cn_mono hb0 a h
    rw [hx i (by omega), hx j hj] at this
    omega
  have hpick : ∀ d, d ≤ 1 → ∃ x : Nat → Rat, ∀ k, k < a.length → E k - ε ≤ x k ∧ x k ≤ E k + ε + δ ∧ cn b a (x k) = k + d := by
    intro d hd
    have : ∀ k, ∃ z, k < a.length → E k - ε ≤ z ∧ z ≤ E k + ε + δ ∧ cn b a z = k + d := by
      intro k
      by_cases hk : k < a.length
      · obtain ⟨z, hz⟩ := hmeet k hk (k + d) (by omega) (by omega)
        exact ⟨z, fun _ => hz⟩
      · exact ⟨0, fun h => absurd h hk⟩
    exact ⟨fun k => Classical.choose (this k), fun k hk => Classical.choose_spec (this k) hk⟩
  obtain ⟨x, hx⟩ := hpick 0 (by omega)
  obtain ⟨y, hy⟩ := hpick 1 (by omega)
  have t1 := trace_sgn (b := b) a (hinc x 0 fun k hk => (hx k hk).2.2) 1 h0 (by
    intro j hj
    have := det_sign hb0 (sh a (x j))
    rw [show cnt b none (sh a (x j)) = j + 0 from (hx j hj).2.2] at this
    simpa using this)
  have t2 := trace_sgn (b := b) a (hinc y 1 fun k hk => (hy k hk).2.2) (-1) h0 (by
    intro j hj
    have := det_sign hb0 (sh a (y j))
    rw [show cnt b none (sh a (y j)) = j + 1 from (hy j hj).2.2] at this
    have e : sgP (j + 1) = - sgP j := rfl
    rw [e] at this
    grind)
  have s1 := sumx_le (n := a.length) (x := E) (y := x) (ε := ε + δ) a.length 0 (by omega) (fun j hj => by have := (hx j hj).1; grind)
  have s2 := sumx_le (n := a.length) (x := y) (y := E) (ε := ε + δ) a.length 0 (by omega) (fun j hj => by have := (hy j hj).2.1; grind)
  rw [le_both]
  grind
end Go.Proofs.Ytpeplbbphpamhaa.Ab

namespace Go.Proofs.Ytpeplbbphpamhaa.Ab
set_option linter.unusedVariables false
set_option linter.unusedSimpArgs false
open Go
def tw (k : Int) : Rat := (2 : Rat) ^ k
theorem tw_pos (k : Int) : 0 < tw k := Rat.zpow_pos (by decide +kernel)
theorem tw_add (a b : Int) : tw (a + b) = tw a * tw b := Rat.zpow_add (by decide +kernel) a b
theorem tw_nat (n : Nat) : tw (n : Int) = ((2 ^ n : Nat) : Rat) := by
  unfold tw
  rw [Rat.zpow_natCast]
  push_cast
  rfl
theorem tw_split {q p : Int} (h : q ≤ p) : tw p = tw q * ((2 ^ (p - q).toNat : Nat) : Rat) := by
  rw [← tw_nat, ← tw_add]
  congr 1
  omega
theorem tw_mono {a b : Int} (h : a ≤ b) : tw a ≤ tw b := by
  rw [tw_split h]
  have h1 : (1 : Rat) ≤ ((2 ^ (b - a).toNat : Nat) : Rat) := by
    have : 1 ≤ 2 ^ (b - a).toNat := Nat.pow_pos (by decide)
    exact_mod_cast this
  have := mul_nn (Rat.le_of_lt (tw_pos a)) (show 0 ≤ ((2 ^ (b - a).toNat : Nat) : Rat) - 1 by grind)
  grind
def sg (s : Bool) : Rat := if s then -1 else 1
def dv (s : Bool) (m : Nat) (e : Int) : Rat := sg s * ((m : Rat) * tw e)
def Vw (f : Ieee.Format) (x : Nat) (r : Rat) : Prop := ∃ s m e, f.read x = .number s m e ∧ r = dv s m e
theorem nat_le {a b : Nat} (h : (a : Rat) ≤ b) : a ≤ b := by exact_mod_cast h
theorem le_nat {a b : Nat} (h : a ≤ b) : (a : Rat) ≤ b := by exact_mod_cast h
theorem mul_cancel {a b c : Rat} (h : a * c ≤ b * c) (hc : 0 < c) : a ≤ b := Rat.le_of_mul_le_mul_right h hc
theorem nn_nat (n : Nat) : (0 : Rat) ≤ n := by exact_mod_cast Nat.zero_le n
structure Mag (F : Nat) (L : Int) (E R : Rat) (K : Nat) (l : Int) : Prop where
  le : L ≤ l
  eq : R = K * tw l
  err : 2 * absR (R - E) ≤ tw l
  full : l = L ∨ ((2 ^ F : Nat) : Rat) * tw l ≤ E
theorem near_mag {f : Ieee.Format} {F : Nat} {L : Int} {Z : Nat} (h : Fm f F L Z) (s : Bool) {m : Nat} {p B : Int} (hm : m ≠ 0) (hB : p + (m.log2 : Int) < B) (hZ : B - (F : Int) - L + 2 ≤ (Z : Int)) :
    ∃ (m' : Nat) (p' : Int) (K : Nat) (l : Int), f.read (f.nearest s m p) = .number s m' p' ∧ l = max (p + (m.log2 : Int) - (F : Int)) L ∧ Mag F L (m * tw p) (m' * tw p') K l := by
  obtain ⟨m', p', K, h1, h2, h3, h4⟩ := near_err2 h s (Q := min p L) (by omega) (by omega) hm (.inr hB) hZ
  refine ⟨m', p', K, max (p + (m.log2 : Int) - (F : Int)) L, h1, rfl, ?_⟩
  generalize hl : max (p + (m.log2 : Int) - (F : Int)) L = l at *
  generalize hq : min p L = q at *
  have hqp : q ≤ p := by omega
  have hql : q ≤ l := by omega
  have hqp' : q ≤ p' := by omega
  have e3 : (m' : Rat) * tw p' = K * tw l := by
    rw [tw_split hqp', tw_split hql]
    have : ((m' * 2 ^ (p' - q).toNat : Nat) : Rat) = ((K * 2 ^ (l - q).toNat : Nat) : Rat) := congrArg (fun n : Nat => (n : Rat)) h3
    rw [Rat.natCast_mul, Rat.natCast_mul] at this
    grind
  refine ⟨by omega, e3, ?_, ?_⟩
  · rw [e3, tw_split hqp, tw_split hql]
    have hp := tw_pos q
    have h5 : -((2 ^ (l - q).toNat : Nat) : Int) ≤ 2 * (((K * 2 ^ (l - q).toNat : Nat) : Int) - ((m * 2 ^ (p - q).toNat : Nat) : Int)) ∧ 2 * (((K * 2 ^ (l - q).toNat : Nat) : Int) - ((m * 2 ^ (p - q).toNat : Nat) : Int)) ≤ ((2 ^ (l - q).toNat : Nat) : Int) := by omega
    obtain ⟨h5, h6⟩ := h5
    have h5 : (((-((2 ^ (l - q).toNat : Nat) : Int)) : Int) : Rat) ≤ ((2 * (((K * 2 ^ (l - q).toNat : Nat) : Int) - ((m * 2 ^ (p - q).toNat : Nat) : Int)) : Int) : Rat) := Rat.intCast_le_intCast.2 h5
    have h6 : ((2 * (((K * 2 ^ (l - q).toNat : Nat) : Int) - ((m * 2 ^ (p - q).toNat : Nat) : Int)) : Int) : Rat) ≤ (((2 ^ (l - q).toNat : Nat) : Int) : Rat) := Rat.intCast_le_intCast.2 h6
    rw [Rat.intCast_mul, Rat.intCast_sub, Rat.intCast_natCast, Rat.intCast_natCast, Rat.natCast_mul, Rat.natCast_mul] at h5 h6
    rw [Rat.intCast_neg, Rat.intCast_natCast] at h5
    rw [Rat.intCast_natCast] at h6
    have h2c : ((2 : Int) : Rat) = 2 := rfl
    rw [h2c] at h5 h6
    generalize ((2 ^ (l - q).toNat : Nat) : Rat) = X at *
    generalize ((2 ^ (p - q).toNat : Nat) : Rat) = Y at *
    generalize tw q = t at *
    have i1 := mul_nn (Rat.le_of_lt hp) (show 0 ≤ 2 * (K * X - m * Y) + X by grind)
    have i2 := mul_nn (Rat.le_of_lt hp) (show 0 ≤ X - 2 * (K * X - m * Y) by grind)
    have : absR (K * (t * X) - m * (t * Y)) ≤ t * X / 2 := by rw [le_both]; grind
    grind
  · by_cases h0 : l = L
    · exact .inl h0
    · right
      have h5 : l = p + (m.log2 : Int) - (F : Int) := by omega
      have h6 : 2 ^ m.log2 ≤ m := Nat.log2_self_le hm
      have h7 := le_nat h6
      have h8 : ((2 ^ F : Nat) : Rat) * tw l = ((2 ^ m.log2 : Nat) : Rat) * tw p := by
        rw [← tw_nat, ← tw_nat, ← tw_add, ← tw_add]
        congr 1
        omega
      rw [h8]
      exact Rat.mul_le_mul_of_nonneg_right h7 (Rat.le_of_lt (tw_pos p))
theorem mag_lo {F : Nat} {L : Int} {E R : Rat} {K : Nat} {l : Int} (h : Mag F L E R K l) {W : Nat} {k : Int} (hW : W < 2 ^ (F + 1)) (hk : L ≤ k) (hE : W * tw k ≤ E) : W * tw k ≤ R := by
  obtain ⟨h1, h2, h3, h4⟩ := h
  have key : ∀ W' : Nat, W' * tw l ≤ E → W' * tw l ≤ R := by
    intro W' hW'
    rw [h2]
    refine Rat.mul_le_mul_of_nonneg_right (le_nat (Nat.le_of_not_lt fun hlt => ?_)) (Rat.le_of_lt (tw_pos l))
    have h5 : ((K : Nat) : Rat) + 1 ≤ W' := by
      have : ((K + 1 : Nat) : Rat) ≤ W' := le_nat hlt
      push_cast at this
      exact this
    have h6 := mul_nn (Rat.le_of_lt (tw_pos l)) (show 0 ≤ (W' : Rat) - (K + 1) by grind)
    have h7 := tw_pos l
    have h8 : absR (R - E) ≤ tw l / 2 := by grind
    rw [le_both] at h8
    grind
  by_cases hkl : l ≤ k
  · rw [tw_split hkl] at hE ⊢
    have := key (W * 2 ^ (k - l).toNat) (by rw [Rat.natCast_mul]; grind)
    rw [Rat.natCast_mul] at this
    grind
  · have h4 := h4.resolve_left (by omega)
    have h5 := key (2 ^ F) h4
    refine Rat.le_trans ?_ h5
    have h6 : (W : Rat) ≤ ((2 ^ (F + 1) : Nat) : Rat) := le_nat (Nat.le_of_lt hW)
    have h7 : tw l = tw k * ((2 ^ (l - k).toNat : Nat) : Rat) := tw_split (by omega)
    have h8 : (2 : Rat) ≤ ((2 ^ (l - k).toNat : Nat) : Rat) := by
      have : 2 ^ 1 ≤ 2 ^ (l - k).toNat := Nat.pow_le_pow_right (by decide) (by omega)
      exact le_nat this
    have h9 : ((2 ^ (F + 1) : Nat) : Rat) = 2 * ((2 ^ F : Nat) : Rat) := by rw [Nat.pow_succ, Rat.natCast_mul]; grind
    have hp := tw_pos k
    have hf := nn_nat (2 ^ F)
    rw [h7]
    rw [h9] at h6
    generalize ((2 ^ (l - k).toNat : Nat) : Rat) = X at *
    generalize ((2 ^ F : Nat) : Rat) = Y at *
    have i1 := mul_nn (Rat.le_of_lt hp) (show 0 ≤ 2 * Y - W by grind)
    have i2 := mul_nn (mul_nn (Rat.le_of_lt hp) hf) (show 0 ≤ X - 2 by grind)
    grind
theorem mag_hi {F : Nat} {L : Int} {E R : Rat} {K : Nat} {l : Int} (h : Mag F L E R K l) {W : Nat} {k : Int} (hW : W < 2 ^ (F + 1)) (hk : L ≤ k) (hE : E ≤ W * tw k) : R ≤ W * tw k := by
  obtain ⟨h1, h2, h3, h4⟩ := h
  have key : ∀ W' : Nat, E ≤ W' * tw l → R ≤ W' * tw l := by
    intro W' hW'
    rw [h2]
    refine Rat.mul_le_mul_of_nonneg_right (le_nat (Nat.le_of_not_lt fun hlt => ?_)) (Rat.le_of_lt (tw_pos l))
    have h5 : ((W' : Nat) : Rat) + 1 ≤ K := by
      have : ((W' + 1 : Nat) : Rat) ≤ K := le_nat hlt
      push_cast at this
      exact this
    have h6 := mul_nn (Rat.le_of_lt (tw_pos l)) (show 0 ≤ (K : Rat) - (W' + 1) by grind)
    have h7 := tw_pos l
    have h8 : absR (R - E) ≤ tw l / 2 := by grind
    rw [le_both] at h8
    grind
  by_cases hkl : l ≤ k
  · rw [tw_split hkl] at hE ⊢
    have := key (W * 2 ^ (k - l).toNat) (by rw [Rat.natCast_mul]; grind)
    rw [Rat.natCast_mul] at this
    grind
  · exfalso
    have h4 := h4.resolve_left (by omega)
    have h6 : (W : Rat) + 1 ≤ ((2 ^ (F + 1) : Nat) : Rat) := by
      have : ((W + 1 : Nat) : Rat) ≤ ((2 ^ (F + 1) : Nat) : Rat) := le_nat hW
      push_cast at this ⊢
      exact this
    have h7 : tw l = tw k * ((2 ^ (l - k).toNat : Nat) : Rat) := tw_split (by omega)
    have h8 : (2 : Rat) ≤ ((2 ^ (l - k).toNat : Nat) : Rat) := by
      have : 2 ^ 1 ≤ 2 ^ (l - k).toNat := Nat.pow_le_pow_right (by decide) (by omega)
      exact le_nat this
    have h9 : ((2 ^ (F + 1) : Nat) : Rat) = 2 * ((2 ^ F : Nat) : Rat) := by rw [Nat.pow_succ, Rat.natCast_mul]; grind
    have hp := tw_pos k
    have hf := nn_nat (2 ^ F)
    rw [h7] at h4
    rw [h9] at h6
    generalize ((2 ^ (l - k).toNat : Nat) : Rat) = X at *
    generalize ((2 ^ F : Nat) : Rat) = Y at *
    have i1 := mul_nn (Rat.le_of_lt hp) (show 0 ≤ 2 * Y - (W + 1) by grind)
    have i2 := mul_nn (mul_nn (Rat.le_of_lt hp) hf) (show 0 ≤ X - 2 by grind)
    grind
theorem mag_err {F : Nat} {L : Int} {E R : Rat} {K : Nat} {l : Int} (h : Mag F L E R K l) (hE : 0 ≤ E) : absR (R - E) ≤ E * tw (-(F : Int) - 1) + tw (L - 1) := by
  obtain ⟨h1, h2, h3, h4⟩ := h
  have ht : tw (-1) = 1 / 2 := by decide +kernel
  have e1 : tw (-(F : Int) - 1) = tw (-(F : Int)) * (1 / 2) := by rw [← ht, ← tw_add]; rfl
  have e2 : tw (L - 1) = tw L * (1 / 2) := by rw [← ht, ← tw_add]; rfl
  have e3 : ((2 ^ F : Nat) : Rat) * tw (-(F : Int)) = 1 := by
    rw [← tw_nat, ← tw_add, show (F : Int) + -(F : Int) = 0 by omega]
    decide +kernel
  have p1 := tw_pos (-(F : Int))
  have p2 := tw_pos L
  rw [e1, e2]
  rcases h4 with h4 | h4
  · subst h4
    have := mul_nn hE (Rat.le_of_lt p1)
    grind
  · have h5 := Rat.mul_le_mul_of_nonneg_right h4 (Rat.le_of_lt p1)
    have h6 : ((2 ^ F : Nat) : Rat) * tw l * tw (-(F : Int)) = tw l := by
      have : ((2 ^ F : Nat) : Rat) * tw l * tw (-(F : Int)) = (((2 ^ F : Nat) : Rat) * tw (-(F : Int))) * tw l := by grind
      rw [this, e3]
      grind
    rw [h6] at h5
    grind
theorem mag_mul {F : Nat} {L : Int} {E R : Rat} {K : Nat} {l : Int} (h : Mag F L E R K l) {k : Int} {j : Nat} (hE : E = j * tw k) : ∃ i : Nat, R = i * tw k := by
  obtain ⟨h1, h2, h3, h4⟩ := h
  by_cases hkl : k ≤ l
  · exact ⟨K * 2 ^ (l - k).toNat, by rw [h2, tw_split hkl, Rat.natCast_mul]; grind⟩
  · refine ⟨j, ?_⟩
    have e1 : E = ((j * 2 ^ (k - l).toNat : Nat) : Rat) * tw l := by rw [hE, tw_split (show l ≤ k by omega), Rat.natCast_mul]; grind
    rw [← hE, e1, h2]
    have hp := tw_pos l
    have h5 : absR (R - E) ≤ tw l / 2 := by grind
    rw [le_both, h2, e1] at h5
    generalize j * 2 ^ (k - l).toNat = J at *
    congr 2
    rcases Nat.lt_trichotomy K J with h6 | h6 | h6
    · have : ((K + 1 : Nat) : Rat) ≤ J := le_nat h6
      push_cast at this
      have := mul_nn (Rat.le_of_lt hp) (show 0 ≤ (J : Rat) - (K + 1) by grind)
      grind
    · exact h6
    · have : ((J + 1 : Nat) : Rat) ≤ K := le_nat h6
      push_cast at this
      have := mul_nn (Rat.le_of_lt hp) (show 0 ≤ (K : Rat) - (J + 1) by grind)
      grind
end Go.Proofs.Ytpeplbbphpamhaa.Ab

namespace Go.Proofs.Ytpeplbbphpamhaa.Ab
set_option linter.unusedVariables false
set_option linter.unusedSimpArgs false
open Go
structure Rnd (F : Nat) (L : Int) (E R : Rat) : Prop where
  err : absR (R - E) ≤ absR E * tw (-(F : Int) - 1) + tw (L - 1)
  lo : ∀ s W k, W < 2 ^ (F + 1) → L ≤ k → dv s W k ≤ E → dv s W k ≤ R
  hi : ∀ s W k, W < 2 ^ (F + 1) → L ≤ k → E ≤ dv s W k → R ≤ dv s W k
  mul : ∀ k (j : Int), E = j * tw k → ∃ i : Int, R = i * tw k
theorem sg_pm (s : Bool) : sg s = 1 ∨ sg s = -1 := by cases s; exact .inl rfl; exact .inr rfl
theorem absR_nn (x : Rat) : 0 ≤ absR x := by unfold absR; split <;> grind
theorem absR_of_nn {x : Rat} (h : 0 ≤ x) : absR x = x := by unfold absR; rw [if_pos h]
theorem absR_neg (x : Rat) : absR (-x) = absR x := by unfold absR; split <;> split <;> grind
theorem mt_nn (m : Nat) (p : Int) : 0 ≤ (m : Rat) * tw p := mul_nn (nn_nat m) (Rat.le_of_lt (tw_pos p))
theorem rnd_mag {F : Nat} {L : Int} {E R : Rat} {K : Nat} {l : Int} (h : Mag F L E R K l) (hE : 0 ≤ E) (hE0 : E ≠ 0) (hR : 0 ≤ R) (s : Bool) (hint : ∀ k (j : Int), E = j * tw k → ∃ i : Nat, R = i * tw k) : Rnd F L (sg s * E) (sg s * R) := by
  refine ⟨?_, ?_, ?_, ?_⟩
  · have := mag_err h hE
    rcases sg_pm s with e | e <;> rw [e]
    · have e1 : (1 : Rat) * R - 1 * E = R - E := by grind
      rw [e1, show (1 : Rat) * E = E by grind, absR_of_nn hE]; exact this
    · have e1 : (-1 : Rat) * R - -1 * E = -(R - E) := by grind
      rw [e1, absR_neg, show (-1 : Rat) * E = -E by grind, absR_neg, absR_of_nn hE]; exact this
  · intro t W k hW hk hle
    unfold dv at *
    have h0 := mt_nn W k
    cases s <;> cases t <;> simp only [sg, if_true, if_false, Bool.false_eq_true] at *
    · have := mag_lo h hW hk (by grind); grind
    · grind
    · grind
    · have := mag_hi h hW hk (by grind); grind
  · intro t W k hW hk hle
    unfold dv at *
    have h0 := mt_nn W k
    cases s <;> cases t <;> simp only [sg, if_true, if_false, Bool.false_eq_true] at *
    · have := mag_hi h hW hk (by grind); grind
    · grind
    · grind
    · have := mag_lo h hW hk (by grind); grind
  · intro k j hj
    cases s <;> simp only [sg, if_true, if_false, Bool.false_eq_true] at *
    · obtain ⟨i, hi⟩ := hint k j (by grind)
      exact ⟨i, by rw [hi, Rat.intCast_natCast]; grind⟩
    · obtain ⟨i, hi⟩ := hint k (-j) (by rw [Rat.intCast_neg]; grind)
      exact ⟨-i, by rw [hi, Rat.intCast_neg, Rat.intCast_natCast]; grind⟩
theorem int_nat {E : Rat} (hE : 0 ≤ E) {k : Int} {j : Int} (h : E = j * tw k) : E = (j.toNat : Nat) * tw k := by
  rw [h]
  have hj : 0 ≤ j := by
    refine Int.not_lt.1 fun hlt => ?_
    have h1 : (j : Rat) < 0 := by exact_mod_cast hlt
    have := Rat.mul_pos (show 0 < -(j : Rat) by grind) (tw_pos k)
    grind
  have : ((j.toNat : Nat) : Rat) = (j : Rat) := by
    have := Int.toNat_of_nonneg hj
    exact_mod_cast congrArg (fun i : Int => (i : Rat)) this
  rw [this]
theorem near_rnd {f : Ieee.Format} {F : Nat} {L : Int} {Z : Nat} (h : Fm f F L Z) (s : Bool) {m : Nat} {p B : Int} (hB : (m : Rat) * tw p < tw B) (hZ : B - (F : Int) - L + 2 ≤ (Z : Int)) :
    ∃ R, Vw f (f.nearest s m p) R ∧ Rnd F L (dv s m p) R := by
  by_cases hm : m = 0
  · subst hm
    have e : dv s 0 p = 0 := by unfold dv; have : ((0 : Nat) : Rat) = 0 := rfl; rw [this]; grind
    refine ⟨0, ⟨s, 0, L, ?_, ?_⟩, ?_⟩
    · unfold Ieee.Format.nearest
      rw [if_pos rfl]
      have hw := read_of_word (f := f) s (r := 0) (by have := h.sgn; have := h.two; have := Nat.pow_pos (n := F) (show 0 < 2 by decide); have := Nat.mul_pos (show 0 < Z by omega) this; omega)
      rw [if_pos (by rw [h.bin]; exact Nat.pow_pos (by decide)), h.least] at hw
      exact hw
    · unfold dv; have : ((0 : Nat) : Rat) = 0 := rfl; rw [this]; grind
    · rw [e]
      refine ⟨?_, fun _ _ _ _ _ h => h, fun _ _ _ _ _ h => h, fun k j hj => ⟨j, hj⟩⟩
      have := tw_pos (L - 1)
      have := tw_pos (-(F : Int) - 1)
      rw [le_both, absR_of_nn (by decide +kernel)]
      grind
  · have hlog : p + (m.log2 : Int) < B := by
      refine Int.not_le.1 fun hle => ?_
      have h1 := tw_mono hle
      rw [tw_add, tw_nat] at h1
      have h2 := le_nat (Nat.log2_self_le hm)
      have h3 := Rat.mul_le_mul_of_nonneg_right h2 (Rat.le_of_lt (tw_pos p))
      grind
    obtain ⟨m', p', K, l, h1, _, h2⟩ := near_mag h s hm hlog hZ
    have h0 := mt_nn m p
    have hne : (m : Rat) * tw p ≠ 0 := by
      have : (0 : Rat) < m := by exact_mod_cast Nat.pos_of_ne_zero hm
      have := Rat.mul_pos this (tw_pos p)
      grind
    refine ⟨_, ⟨s, m', p', h1, rfl⟩, rnd_mag h2 h0 hne (mt_nn m' p') s fun k j hj => mag_mul h2 (int_nat h0 hj)⟩
theorem signed_dv (s : Bool) (m : Nat) {b i : Int} (h : b ≤ i) : ((Ieee.signed s m (i - b).toNat : Int) : Rat) * tw b = dv s m i := by
  rw [signed_eq]
  unfold dv
  rw [tw_split h]
  cases s <;> simp only [sg, if_true, if_false, Bool.false_eq_true]
  · rw [Rat.intCast_natCast, Rat.natCast_mul]; grind
  · rw [Rat.intCast_neg, Rat.intCast_natCast, Rat.natCast_mul]; grind
theorem dv_abs (s : Bool) (m : Nat) (e : Int) : absR (dv s m e) = m * tw e := by
  unfold dv
  have := mt_nn m e
  cases s <;> simp only [sg, if_true, if_false, Bool.false_eq_true] <;> unfold absR <;> split <;> grind
theorem total_dv {t : Int} {z : Bool} {b : Int} : dv (if t = 0 then z else decide (t < 0)) t.natAbs b = (t : Rat) * tw b := by
  unfold dv
  by_cases h0 : t = 0
  · subst h0
    have : (((0 : Int).natAbs : Nat) : Rat) = 0 := rfl
    rw [this]
    have : ((0 : Int) : Rat) = 0 := rfl
    rw [this]
    grind
  · rw [if_neg h0]
    by_cases h1 : t < 0
    · have e : ((t.natAbs : Nat) : Rat) = -(t : Rat) := by
        have h2 : ((t.natAbs : Nat) : Int) = -t := by omega
        rw [← Rat.intCast_natCast, h2, Rat.intCast_neg]
      rw [e]
      simp only [h1, decide_true, sg, if_true]
      grind
    · have e : ((t.natAbs : Nat) : Rat) = (t : Rat) := by
        have h2 : ((t.natAbs : Nat) : Int) = t := by omega
        rw [← Rat.intCast_natCast, h2]
      rw [e]
      simp only [h1, decide_false, sg, if_false, Bool.false_eq_true]
      grind
theorem sum_rnd {f : Ieee.Format} {F : Nat} {L : Int} {Z : Nat} (h : Fm f F L Z) {s t : Bool} {m n : Nat} {i j B : Int} (hB : absR (dv s m i + dv t n j) < tw B) (hZ : B - (F : Int) - L + 2 ≤ (Z : Int)) :
    ∃ r R, ((Ieee.Datum.number s m i).sum (.number t n j)).map f.write = some r ∧ Vw f r R ∧ Rnd F L (dv s m i + dv t n j) R := by
  unfold Ieee.Datum.sum
  dsimp only
  generalize hb : min i j = base
  have e : dv s m i + dv t n j = ((Ieee.signed s m (i - base).toNat + Ieee.signed t n (j - base).toNat : Int) : Rat) * tw base := by
    rw [← signed_dv s m (show base ≤ i by omega), ← signed_dv t n (show base ≤ j by omega), Rat.intCast_add]
    grind
  rw [e] at hB ⊢
  generalize Ieee.signed s m (i - base).toNat + Ieee.signed t n (j - base).toNat = total at *
  rw [← total_dv (z := s && t)] at hB ⊢
  rw [dv_abs] at hB
  obtain ⟨R, h1, h2⟩ := near_rnd h (if total = 0 then s && t else decide (total < 0)) hB hZ
  exact ⟨_, R, rfl, h1, h2⟩
theorem add_rnd {f : Ieee.Format} {F : Nat} {L : Int} {Z : Nat} (h : Fm f F L Z) {x y : Nat} {a b : Rat} {B : Int} (hx : Vw f x a) (hy : Vw f y b) (hB : absR (a + b) < tw B) (hZ : B - (F : Int) - L + 2 ≤ (Z : Int)) :
    ∃ r R, f.add x y = some r ∧ Vw f r R ∧ Rnd F L (a + b) R := by
  obtain ⟨s, m, i, h1, rfl⟩ := hx
  obtain ⟨t, n, j, h2, rfl⟩ := hy
  unfold Ieee.Format.add
  rw [h1, h2]
  exact sum_rnd h hB hZ
theorem dv_not (t : Bool) (n : Nat) (j : Int) : dv (!t) n j = - dv t n j := by
  unfold dv
  cases t <;> simp only [sg, Bool.not_false, Bool.not_true, if_true, if_false, Bool.false_eq_true] <;> grind
theorem sub_rnd {f : Ieee.Format} {F : Nat} {L : Int} {Z : Nat} (h : Fm f F L Z) {x y : Nat} {a b : Rat} {B : Int} (hx : Vw f x a) (hy : Vw f y b) (hB : absR (a - b) < tw B) (hZ : B - (F : Int) - L + 2 ≤ (Z : Int)) :
    ∃ r R, f.sub x y = some r ∧ Vw f r R ∧ Rnd F L (a - b) R := by
  obtain ⟨s, m, i, h1, rfl⟩ := hx
  obtain ⟨t, n, j, h2, rfl⟩ := hy
  have e : dv s m i - dv t n j = dv s m i + dv (!t) n j := by rw [dv_not]; grind
  rw [e] at hB ⊢
  unfold Ieee.Format.sub
  rw [h1, h2]
  exact sum_rnd h hB hZ
theorem sg_xor (s t : Bool) : sg (s ^^ t) = sg s * sg t := by cases s <;> cases t <;> decide +kernel
theorem mul_rnd {f : Ieee.Format} {F : Nat} {L : Int} {Z : Nat} (h : Fm f F L Z) {x y : Nat} {a b : Rat} {B : Int} (hx : Vw f x a) (hy : Vw f y b) (hB : absR (a * b) < tw B) (hZ : B - (F : Int) - L + 2 ≤ (Z : Int)) :
    ∃ r R, f.mul x y = some r ∧ Vw f r R ∧ Rnd F L (a * b) R := by
  obtain ⟨s, m, i, h1, rfl⟩ := hx
  obtain ⟨t, n, j, h2, rfl⟩ := hy
  unfold Ieee.Format.mul
  rw [h1, h2]
  unfold Ieee.Datum.product
  dsimp only
  have e : dv s m i * dv t n j = dv (s ^^ t) (m * n) (i + j) := by
    unfold dv
    rw [sg_xor, tw_add, Rat.natCast_mul]
    grind
  rw [e] at hB ⊢
  rw [dv_abs] at hB
  obtain ⟨R, h3, h4⟩ := near_rnd h (s ^^ t) hB hZ
  exact ⟨_, R, rfl, h3, h4⟩
end Go.Proofs.Ytpeplbbphpamhaa.Ab

namespace Go.Proofs.Ytpeplbbphpamhaa.Ab
set_option linter.unusedVariables false
set_option linter.unusedSimpArgs false
open Go
theorem mag_sticky {F : Nat} {L : Int} {q g : Nat} {T R : Rat} {K : Nat} {l p : Int} (hg : g ≤ 1) (h1 : 2 * (q : Rat) ≤ T) (h2 : T ≤ 2 * q + 2) (h3 : g = 0 → T = 2 * q) (hl : p + 2 ≤ l) (h : Mag F L (((2 * q + g : Nat) : Rat) * tw p) R K l) : Mag F L (T * tw p) R K l := by
  obtain ⟨a1, a2, a3, a4⟩ := h
  obtain ⟨X, hX⟩ : ∃ X : Nat, 2 ^ (l - p).toNat = 4 * X := ⟨2 ^ ((l - p).toNat - 2), by rw [show (4 : Nat) = 2 ^ 2 by decide, ← Nat.pow_add]; congr 1; omega⟩
  have hp := tw_pos p
  have e1 : tw l = tw p * ((4 * X : Nat) : Rat) := by rw [tw_split (show p ≤ l by omega), hX]
  have e2 : R = ((K * (4 * X) : Nat) : Rat) * tw p := by rw [a2, e1, Rat.natCast_mul]; grind
  have c1 : absR (R - ((2 * q + g : Nat) : Rat) * tw p) ≤ tw l / 2 := by grind
  rw [le_both, e2, e1] at c1
  have n1 : K * (4 * X) ≤ 2 * q + g + 2 * X := by
    refine nat_le (mul_cancel (c := tw p) ?_ hp)
    have : ((2 * q + g + 2 * X : Nat) : Rat) = ((2 * q + g : Nat) : Rat) + 2 * (X : Rat) := by push_cast; rfl
    rw [this]
    have : ((4 * X : Nat) : Rat) = 4 * (X : Rat) := by push_cast; rfl
    rw [this] at c1
    grind
  have n2 : 2 * q + g ≤ K * (4 * X) + 2 * X := by
    refine nat_le (mul_cancel (c := tw p) ?_ hp)
    have : ((K * (4 * X) + 2 * X : Nat) : Rat) = ((K * (4 * X) : Nat) : Rat) + 2 * (X : Rat) := by push_cast; rfl
    rw [this]
    have : ((4 * X : Nat) : Rat) = 4 * (X : Rat) := by push_cast; rfl
    rw [this] at c1
    grind
  generalize hY : K * (4 * X) = Y at *
  have hY4 : ∃ y, Y = 4 * y := ⟨K * X, by rw [← hY]; exact Nat.mul_left_comm K 4 X⟩
  obtain ⟨y, hy⟩ := hY4
  have hX4 : ((4 * X : Nat) : Rat) = 4 * (X : Rat) := by push_cast; rfl
  refine ⟨a1, a2, ?_, ?_⟩
  · have m1 : Y ≤ 2 * q + 2 * X := by omega
    have m1 : (Y : Rat) ≤ 2 * q + 2 * X := by have := le_nat m1; push_cast at this; exact this
    have m2 : T ≤ Y + 2 * X := by
      rcases Nat.eq_zero_or_pos g with h0 | h0
      · have := h3 h0
        have m3 : 2 * q ≤ Y + 2 * X := by omega
        have := le_nat m3
        push_cast at this
        grind
      · have m3 : 2 * q + 2 ≤ Y + 2 * X := by omega
        have := le_nat m3
        push_cast at this
        grind
    have i1 := mul_nn (Rat.le_of_lt hp) (show 0 ≤ Y + 2 * X - T by grind)
    have i2 := mul_nn (Rat.le_of_lt hp) (show 0 ≤ T + 2 * X - Y by grind)
    have : absR (R - T * tw p) ≤ tw l / 2 := by rw [le_both, e2, e1, hX4]; grind
    grind
  · rcases a4 with a4 | a4
    · exact .inl a4
    · right
      rw [e1] at a4 ⊢
      have n3 : 2 ^ F * (4 * X) ≤ 2 * q + g := by
        refine nat_le (mul_cancel (c := tw p) ?_ hp)
        rw [Rat.natCast_mul]
        grind
      have n4 : 2 ^ F * (4 * X) ≤ 2 * q := by
        rw [show 2 ^ F * (4 * X) = 2 * (2 * (2 ^ F * X)) by rw [Nat.mul_left_comm]; omega] at n3 ⊢
        omega
      have n5 := le_nat n4
      rw [Rat.natCast_mul] at n5
      have : ((2 * q : Nat) : Rat) = 2 * (q : Rat) := by push_cast; rfl
      rw [this] at n5
      have i1 := mul_nn (Rat.le_of_lt hp) (show 0 ≤ T - ((2 ^ F : Nat) : Rat) * ((4 * X : Nat) : Rat) by grind)
      grind
theorem log_even {q g : Nat} (hg : g ≤ 1) (hq : 0 < q) : 2 ^ (2 * q + g).log2 ≤ 2 * q := by
  have h1 : 2 ^ (2 * q + g).log2 ≤ 2 * q + g := Nat.log2_self_le (by omega)
  have h2 : 1 ≤ (2 * q + g).log2 := (Nat.le_log2 (by omega)).2 (by omega)
  obtain ⟨k, hk⟩ : ∃ k, (2 * q + g).log2 = k + 1 := ⟨(2 * q + g).log2 - 1, by omega⟩
  rw [hk, Nat.pow_succ] at h1 ⊢
  omega
theorem div_rnd {f : Ieee.Format} {F : Nat} {L : Int} {Z : Nat} (h : Fm f F L Z) {x y : Nat} {a b : Rat} {B : Int} (hx : Vw f x a) (hy : Vw f y b) (hb : b ≠ 0) (hB : absR (a / b) < tw B) (hZ : B - (F : Int) - L + 2 ≤ (Z : Int)) :
    ∃ r R, f.div x y = some r ∧ Vw f r R ∧ Rnd F L (a / b) R := by
  obtain ⟨s, m, i, h1, rfl⟩ := hx
  obtain ⟨t, n, j, h2, rfl⟩ := hy
  have hn : n ≠ 0 := by
    intro h0
    subst h0
    refine hb ?_
    unfold dv
    have : ((0 : Nat) : Rat) = 0 := rfl
    rw [this]
    grind
  unfold Ieee.Format.div
  rw [h1, h2, h.frac]
  unfold Ieee.Datum.quotient
  dsimp only
  rw [if_neg hn]
  generalize hmore : F + 2 + n.log2 - m.log2 = more
  have hnp : (0 : Rat) < n := by exact_mod_cast Nat.pos_of_ne_zero hn
  have ej := tw_pos j
  have hE : dv s m i / dv t n j = sg (s ^^ t) * ((2 * ((m * 2 ^ more : Nat) : Rat) / n) * tw (i - j - more - 1)) := by
    have e1 : tw i = 2 * ((2 ^ more : Nat) : Rat) * tw (i - j - more - 1) * tw j := by
      rw [← tw_nat, show (2 : Rat) = tw 1 by decide +kernel, ← tw_add, ← tw_add, ← tw_add]
      congr 1
      omega
    unfold dv
    rw [sg_xor, e1, Rat.natCast_mul]
    have hne : (n : Rat) ≠ 0 := by grind
    have hje : tw j ≠ 0 := by grind
    rcases sg_pm t with e | e <;> rw [e] <;> grind
  rw [hE] at hB ⊢
  by_cases hm : m = 0
  · subst hm
    have e0 : 2 * (((0 * 2 ^ more : Nat) : Nat) : Rat) / n * tw (i - j - more - 1) = 0 := by
      rw [Nat.zero_mul]
      have : ((0 : Nat) : Rat) = 0 := rfl
      rw [this]
      grind
    have e1 : 2 * (0 <<< more / n) + (0 <<< more % n != 0).toNat = 0 := by rw [Nat.zero_shiftLeft, Nat.zero_div, Nat.zero_mod]; rfl
    rw [e1, e0]
    obtain ⟨R, h3, h4⟩ := near_rnd h (s ^^ t) (m := 0) (p := i - j - more - 1) (B := B) (by
      have : ((0 : Nat) : Rat) = 0 := rfl
      rw [this]
      have := tw_pos B
      grind) hZ
    refine ⟨_, R, rfl, h3, ?_⟩
    have e2 : sg (s ^^ t) * 0 = dv (s ^^ t) 0 (i - j - more - 1) := by
      unfold dv
      have : ((0 : Nat) : Rat) = 0 := rfl
      rw [this]
      grind
    rw [e2]
    exact h4
  · rw [Nat.shiftLeft_eq]
    have hD : 2 ^ (F + 2 + n.log2) ≤ m * 2 ^ more := by
      refine Nat.le_trans (Nat.pow_le_pow_right (by decide) (show F + 2 + n.log2 ≤ m.log2 + more by omega)) ?_
      rw [Nat.pow_add]
      exact Nat.mul_le_mul_right _ (Nat.log2_self_le hm)
    generalize m * 2 ^ more = D at *
    have hq : 2 ^ (F + 1) ≤ D / n := by
      rw [Nat.le_div_iff_mul_le (Nat.pos_of_ne_zero hn)]
      refine Nat.le_trans (Nat.mul_le_mul_left _ (Nat.le_of_lt (show n < 2 ^ (n.log2 + 1) from Nat.lt_log2_self))) ?_
      rw [← Nat.pow_add, show F + 1 + (n.log2 + 1) = F + 2 + n.log2 by omega]
      exact hD
    have hg : (D % n != 0).toNat ≤ 1 := by cases (D % n != 0) <;> decide
    have hg0 : (D % n != 0).toNat = 0 → D % n = 0 := by
      intro h0
      cases h3 : D % n != 0 with
      | true => rw [h3] at h0; cases h0
      | false => simpa using h3
    have hdm := Nat.div_add_mod D n
    have hml := Nat.mod_lt D (Nat.pos_of_ne_zero hn)
    generalize (D % n != 0).toNat = g at *
    generalize D / n = q at *
    generalize D % n = r at *
    generalize i - j - (more : Int) - 1 = p at *
    have hDn : (D : Rat) = n * q + r := by rw [← hdm]; push_cast; rfl
    have hrn : (r : Rat) < n := by exact_mod_cast hml
    have hr0 := nn_nat r
    have t0 : 2 * (D : Rat) / n * n = 2 * (n * q + r) := by rw [hDn]; grind
    generalize hT : 2 * (D : Rat) / n = T at *
    have t1 : 2 * (q : Rat) ≤ T := mul_cancel (c := n) (by grind) hnp
    have t2 : T ≤ 2 * q + 2 := mul_cancel (c := n) (by grind) hnp
    have t3 : g = 0 → T = 2 * q := by
      intro h0
      have h3 := hg0 h0
      have h4 : (r : Rat) = 0 := by rw [h3]; rfl
      have := mul_cancel (a := T) (b := 2 * q) (c := n) (by grind) hnp
      grind
    have hq1 : 1 ≤ 2 ^ (F + 1) := Nat.pow_pos (by decide)
    have hTp : 0 ≤ T * tw p := mul_nn (by have := nn_nat q; grind) (Rat.le_of_lt (tw_pos p))
    have hq1' : (1 : Rat) ≤ q := by have := le_nat (Nat.le_trans hq1 hq); push_cast at this; exact this
    have hTne : T * tw p ≠ 0 := by
      have := Rat.mul_pos (show 0 < T by grind) (tw_pos p)
      grind
    have hB' : T * tw p < tw B := by
      rcases sg_pm (s ^^ t) with e | e <;> rw [e] at hB
      · rw [show (1 : Rat) * (T * tw p) = T * tw p by grind, absR_of_nn hTp] at hB; exact hB
      · rw [show (-1 : Rat) * (T * tw p) = -(T * tw p) by grind, absR_neg, absR_of_nn hTp] at hB; exact hB
    have hlog : p + ((2 * q + g).log2 : Int) < B := by
      refine Int.not_le.1 fun hle => ?_
      have k1 := tw_mono hle
      rw [tw_add, tw_nat] at k1
      have k2 := le_nat (log_even hg (show 0 < q by omega))
      have k3 := Rat.mul_le_mul_of_nonneg_right k2 (Rat.le_of_lt (tw_pos p))
      have k4 : ((2 * q : Nat) : Rat) = 2 * (q : Rat) := by push_cast; rfl
      rw [k4] at k3
      have k5 := Rat.mul_le_mul_of_nonneg_right t1 (Rat.le_of_lt (tw_pos p))
      grind
    obtain ⟨m', p', K, l, k1, k2, k3⟩ := near_mag h (s ^^ t) (show 2 * q + g ≠ 0 by omega) hlog hZ
    have hlp : p + 2 ≤ l := by
      have : F + 2 ≤ (2 * q + g).log2 := (Nat.le_log2 (by omega)).2 (by
        rw [show F + 2 = (F + 1) + 1 by omega, Nat.pow_succ]
        omega)
      omega
    have k4 := mag_sticky hg t1 t2 t3 hlp k3
    refine ⟨_, _, rfl, ⟨s ^^ t, m', p', k1, rfl⟩, rnd_mag k4 hTp hTne (mt_nn m' p') (s ^^ t) fun k j hj => mag_mul k4 (int_nat hTp hj)⟩
end Go.Proofs.Ytpeplbbphpamhaa.Ab

namespace Go.Proofs.Ytpeplbbphpamhaa.Ab
set_option linter.unusedVariables false
set_option linter.unusedSimpArgs false
open Go
def gU : Nat := 2 ^ 146
def wU : Nat := gU * 2 ^ 127
abbrev I32 (x : Nat) (v : Int) : Prop := Is Ieee.single (-149) x v
structure Quad (a b c d : Nat) (x y z w : Int) : Prop where
  ia : I32 a x
  ib : I32 b y
  ic : I32 c z
  id : I32 d w
  ba : x.natAbs ≤ 33 * gU
  bb : y.natAbs ≤ 23 * gU
  bc : z.natAbs ≤ 45 * gU
  bd : w.natAbs ≤ 33 * gU
  det : (x * w - y * z - ((64 * (gU * gU) : Nat) : Int)).natAbs ≤ 128 * wU
end Go.Proofs.Ytpeplbbphpamhaa.Ab

namespace Go.Proofs.Ytpeplbbphpamhaa.Ab
set_option linter.unusedVariables false
set_option linter.unusedSimpArgs false
open Go
abbrev V32 (x : Nat) (r : Rat) : Prop := Vw Ieee.single x r
abbrev V64 (x : Nat) (r : Rat) : Prop := Vw Ieee.double x r
abbrev R32 (E R : Rat) : Prop := Rnd 23 (-149) E R
abbrev R64 (E R : Rat) : Prop := Rnd 52 (-1074) E R
theorem fadd {x y : Nat} {a b : Rat} (hx : V32 x a) (hy : V32 y b) (hB : absR (a + b) < tw 127) : ∃ R, V32 (fop .add .f32 x y) R ∧ R32 (a + b) R := by
  obtain ⟨r, R, h1, h2, h3⟩ := add_rnd fm32 hx hy hB (by decide)
  refine ⟨R, ?_, h3⟩
  show Vw _ ((Ieee.single.add x y).getD (qnan .f32)) R
  rw [h1]
  exact h2
theorem fsub {x y : Nat} {a b : Rat} (hx : V32 x a) (hy : V32 y b) (hB : absR (a - b) < tw 127) : ∃ R, V32 (fop .sub .f32 x y) R ∧ R32 (a - b) R := by
  obtain ⟨r, R, h1, h2, h3⟩ := sub_rnd fm32 hx hy hB (by decide)
  refine ⟨R, ?_, h3⟩
  show Vw _ ((Ieee.single.sub x y).getD (qnan .f32)) R
  rw [h1]
  exact h2
theorem fmul {x y : Nat} {a b : Rat} (hx : V32 x a) (hy : V32 y b) (hB : absR (a * b) < tw 127) : ∃ R, V32 (fop .mul .f32 x y) R ∧ R32 (a * b) R := by
  obtain ⟨r, R, h1, h2, h3⟩ := mul_rnd fm32 hx hy hB (by decide)
  refine ⟨R, ?_, h3⟩
  show Vw _ ((Ieee.single.mul x y).getD (qnan .f32)) R
  rw [h1]
  exact h2
theorem fdiv {x y : Nat} {a b : Rat} (hx : V32 x a) (hy : V32 y b) (hb : b ≠ 0) (hB : absR (a / b) < tw 127) : ∃ R, V32 (fop .quo .f32 x y) R ∧ R32 (a / b) R := by
  obtain ⟨r, R, h1, h2, h3⟩ := div_rnd fm32 hx hy hb hB (by decide)
  refine ⟨R, ?_, h3⟩
  show Vw _ ((Ieee.single.div x y).getD (qnan .f32)) R
  rw [h1]
  exact h2
theorem dadd {x y : Nat} {a b : Rat} (hx : V64 x a) (hy : V64 y b) (hB : absR (a + b) < tw 900) : ∃ R, V64 (fop .add .f64 x y) R ∧ R64 (a + b) R := by
  obtain ⟨r, R, h1, h2, h3⟩ := add_rnd fm64 hx hy hB (by decide)
  refine ⟨R, ?_, h3⟩
  show Vw _ ((Ieee.double.add x y).getD (qnan .f64)) R
  rw [h1]
  exact h2
theorem dsub {x y : Nat} {a b : Rat} (hx : V64 x a) (hy : V64 y b) (hB : absR (a - b) < tw 900) : ∃ R, V64 (fop .sub .f64 x y) R ∧ R64 (a - b) R := by
  obtain ⟨r, R, h1, h2, h3⟩ := sub_rnd fm64 hx hy hB (by decide)
  refine ⟨R, ?_, h3⟩
  show Vw _ ((Ieee.double.sub x y).getD (qnan .f64)) R
  rw [h1]
  exact h2
theorem read_lt {x : Nat} {s : Bool} {m : Nat} {e : Int} (h : Ieee.single.read x = .number s m e) : m < 16777216 ∧ -149 ≤ e ∧ e ≤ 104 := by
  unfold Ieee.Format.read at h
  have c1 : Ieee.single.signWeight = 2147483648 := by decide
  have c2 : Ieee.single.binade = 8388608 := by decide
  have c3 : Ieee.single.infRung = 2139095040 := by decide
  have c4 : Ieee.single.leastPlace = -149 := by decide
  rw [c1, c2, c3, c4] at h
  dsimp only at h
  split at h
  · cases h; omega
  · split at h
    · cases h
      omega
    · split at h <;> cases h
theorem r_lo {E R w : Rat} {y : Nat} (h : R32 E R) (hy : V32 y w) (hw : w ≤ E) : w ≤ R := by
  obtain ⟨s, m, e, h1, rfl⟩ := hy
  have := read_lt h1
  exact h.lo s m e (by omega) this.2.1 hw
theorem r_hi {E R w : Rat} {y : Nat} (h : R32 E R) (hy : V32 y w) (hw : E ≤ w) : R ≤ w := by
  obtain ⟨s, m, e, h1, rfl⟩ := hy
  have := read_lt h1
  exact h.hi s m e (by omega) this.2.1 hw
theorem tiny64 : tw (-1074 - 1) ≤ 1 / 2 ^ 300 := by decide +kernel
theorem u64_eq : tw (-((52 : Nat) : Int) - 1) = 1 / 2 ^ 53 := by decide +kernel
theorem d_err {E R : Rat} (h : R64 E R) : absR (R - E) ≤ absR E / 2 ^ 53 + 1 / 2 ^ 300 := by
  have := h.err
  have := tiny64
  rw [u64_eq] at *
  grind
theorem dv_one (k : Int) : dv false 1 k = tw k := by
  unfold dv
  have : ((1 : Nat) : Rat) = 1 := rfl
  rw [this]
  show 1 * (1 * tw k) = tw k
  grind
theorem dv_mone (k : Int) : dv true 1 k = - tw k := by
  unfold dv
  have : ((1 : Nat) : Rat) = 1 := rfl
  rw [this]
  show -1 * (1 * tw k) = - tw k
  grind
theorem r_ge_tw {E R : Rat} (h : R32 E R) {k : Int} (hk : -149 ≤ k) (hE : tw k ≤ E) : tw k ≤ R := by
  have := h.lo false 1 k (by decide) hk (by rw [dv_one]; exact hE)
  rw [dv_one] at this
  exact this
theorem r_le_tw {E R : Rat} (h : R32 E R) {k : Int} (hk : -149 ≤ k) (hE : E ≤ tw k) : R ≤ tw k := by
  have := h.hi false 1 k (by decide) hk (by rw [dv_one]; exact hE)
  rw [dv_one] at this
  exact this
theorem r_le_mtw {E R : Rat} (h : R32 E R) {k : Int} (hk : -149 ≤ k) (hE : E ≤ - tw k) : R ≤ - tw k := by
  have := h.hi true 1 k (by decide) hk (by rw [dv_mone]; exact hE)
  rw [dv_mone] at this
  exact this
theorem r_ge_mtw {E R : Rat} (h : R32 E R) {k : Int} (hk : -149 ≤ k) (hE : - tw k ≤ E) : - tw k ≤ R := by
  have := h.lo true 1 k (by decide) hk (by rw [dv_mone]; exact hE)
  rw [dv_mone] at this
  exact this
theorem v0 : V32 0 0 := ⟨false, 0, -149, by decide, by decide +kernel⟩
theorem r_nn {E R : Rat} (h : R32 E R) (hE : 0 ≤ E) : 0 ≤ R := r_lo h v0 hE
theorem r_np {E R : Rat} (h : R32 E R) (hE : E ≤ 0) : R ≤ 0 := r_hi h v0 hE
theorem r_zero {R : Rat} (h : R32 0 R) : R = 0 := by
  have := r_nn h Rat.le_refl
  have := r_np h Rat.le_refl
  grind
theorem order_v {f : Ieee.Format} {x y : Nat} {a b : Rat} (hx : Vw f x a) (hy : Vw f y b) : f.order x y = some (if a < b then .lt else if a = b then .eq else .gt) := by
  obtain ⟨s, m, i, h1, rfl⟩ := hx
  obtain ⟨t, n, j, h2, rfl⟩ := hy
  unfold Ieee.Format.order
  rw [h1, h2]
  unfold Ieee.Datum.order
  dsimp only
  generalize hb : min i j = base
  rw [← signed_dv s m (show base ≤ i by omega), ← signed_dv t n (show base ≤ j by omega)]
  have hp := tw_pos base
  generalize Ieee.signed s m (i - base).toNat = u
  generalize Ieee.signed t n (j - base).toNat = v
  congr 1
  rcases Int.lt_trichotomy u v with h | h | h
  · have h3 : (u : Rat) < v := by exact_mod_cast h
    rw [Int.compare_eq_lt.2 h, if_pos (Rat.mul_lt_mul_of_pos_right h3 hp)]
  · subst h
    rw [Int.compare_eq_eq.2 rfl, if_neg (by grind), if_pos rfl]
  · have h3 : (v : Rat) < u := by exact_mod_cast h
    have := Rat.mul_lt_mul_of_pos_right h3 hp
    rw [Int.compare_eq_gt.2 h, if_neg (by grind), if_neg (by grind)]
theorem ltB_v {x y : Nat} {a b : Rat} (hx : V32 x a) (hy : V32 y b) : ltB x y = decide (a < b) := by
  unfold ltB
  rw [show FloatKind.f32.format.order x y = _ from order_v hx hy]
  by_cases h : a < b
  · simp [h]
  · by_cases h2 : a = b
    · subst h2; simp
    · simp [h, h2]
theorem eqB_v {x y : Nat} {a b : Rat} (hx : V32 x a) (hy : V32 y b) : eqB x y = decide (a = b) := by
  unfold eqB
  rw [show FloatKind.f32.format.order x y = _ from order_v hx hy]
  by_cases h : a < b
  · have : ¬ a = b := by grind
    simp [h, this]
  · by_cases h2 : a = b
    · subst h2; simp
    · simp [h, h2]
theorem gtD_v {x y : Nat} {a b : Rat} (hx : V64 x a) (hy : V64 y b) : gtD x y = decide (b < a) := by
  unfold gtD
  rw [show FloatKind.f64.format.order x y = _ from order_v hx hy]
  by_cases h : a < b
  · have : ¬ b < a := by grind
    simp [h, this]
  · by_cases h2 : a = b
    · subst h2; simp
    · have : b < a := by grind
      simp [h, h2, this]
theorem finB_v {x : Nat} {a : Rat} (hx : V32 x a) : finB x = true := by
  have e : a - a = 0 := by grind
  obtain ⟨R, h1, h2⟩ := fsub hx hx (by rw [e, absR_of_nn Rat.le_refl]; exact tw_pos 127)
  rw [e] at h2
  have := r_zero h2
  subst this
  unfold finB
  rw [show FloatKind.f32.format.order (fop .sub .f32 x x) 0 = _ from order_v h1 v0]
  rfl
theorem nat_of_dv {s : Bool} {m m' : Nat} {e e' : Int} (h : (m : Rat) * tw e = m' * tw e') : dv s m e = dv s m' e' := by unfold dv; rw [h]
theorem up_v {x : Nat} {a : Rat} (hx : V32 x a) : V64 (up x) a := by
  obtain ⟨s, m, e, h, rfl⟩ := hx
  have hu := fconv_eq x
  have hd : FloatKind.f32.decode x = .number s m e := h
  unfold fconv at hu
  rw [if_neg (by decide), hd, if_neg (show ¬ ((Ieee.Datum.number s m e).isNaN = true) from fun h => by cases h)] at hu
  unfold floatToFloatBits at hu
  rw [if_neg (by decide), hd] at hu
  simp only at hu
  split at hu
  · cases hu
  · rw [← Option.some.inj hu]
    obtain ⟨h1, h2, h3⟩ := read_lt h
    have hl : m = 0 ∨ e + (m.log2 : Int) < 200 := by
      by_cases hm : m = 0
      · exact .inl hm
      · right
        have := (Nat.log2_lt hm).2 (show m < 2 ^ 24 from h1)
        omega
    obtain ⟨m', p', k1, k2, k3⟩ := near_ex fm64 s (p := e) (Q := -1074) (B := 200) (by omega) (by decide) hl (by decide) (V := m) (k := (e - -1074).toNat) (Nat.lt_trans h1 (by decide)) (by omega) rfl
    refine ⟨s, m', p', k1, nat_of_dv ?_⟩
    have := congrArg (fun n : Nat => (n : Rat) * tw (-1074)) k3
    rw [tw_split (show (-1074 : Int) ≤ e by omega), tw_split k2]
    simp only [Rat.natCast_mul] at this
    grind
theorem down_v {y r : Nat} {a : Rat} (hy : V64 y a) (hr : fconv .f64 y .f32 = some r) (hB : absR a < tw 127) : ∃ R, V32 r R ∧ R32 a R := by
  obtain ⟨s, m, e, h, rfl⟩ := hy
  have hd : FloatKind.f64.decode y = .number s m e := h
  unfold fconv at hr
  rw [if_neg (by decide), hd, if_neg (show ¬ ((Ieee.Datum.number s m e).isNaN = true) from fun h => by cases h)] at hr
  unfold floatToFloatBits at hr
  rw [if_neg (by decide), hd] at hr
  simp only at hr
  split at hr
  · cases hr
  · rw [← Option.some.inj hr]
    rw [dv_abs] at hB
    exact near_rnd fm32 s hB (by decide)
theorem rootFrom_gt (n : Nat) : ∀ todo root, root * root ≤ n → n < (root + 2 ^ todo) * (root + 2 ^ todo) → n < (Ieee.Datum.rootFrom n todo root + 1) * (Ieee.Datum.rootFrom n todo root + 1)
  | 0, root, _, h => h
  | todo + 1, root, h0, h => by
    unfold Ieee.Datum.rootFrom
    dsimp only
    rw [Nat.one_shiftLeft]
    split
    · rename_i h1
      refine rootFrom_gt n todo _ h1 ?_
      rw [Nat.pow_succ] at h
      rw [show root + 2 ^ todo + 2 ^ todo = root + 2 ^ todo * 2 by omega]
      exact h
    · rename_i h1
      exact rootFrom_gt n todo _ h0 (by omega)
theorem root_a {w g N : Rat} (hw : 0 ≤ w) (hg0 : 0 ≤ g) (hg1 : g ≤ 1) (h1 : w * w ≤ N) (h2 : N < (w + 1) * (w + 1)) : absR ((w + g / 2) * (w + g / 2) - N) ≤ 2 * w + 1 := by
  obtain ⟨e, rfl⟩ : ∃ e, g = 2 * e := ⟨g / 2, by grind⟩
  have h3 : 2 * e / 2 = e := by grind
  rw [h3]
  have g1 := mul_nn (show 0 ≤ e by grind) (show 0 ≤ 1 - 2 * e by grind)
  have g2 := mul_nn hw (show 0 ≤ 1 - 2 * e by grind)
  have g3 := mul_nn hw (show 0 ≤ e by grind)
  have g4 := mul_nn (show 0 ≤ e by grind) (show 0 ≤ e by grind)
  rw [le_both]
  constructor <;> grind
theorem sqrt_v {x : Nat} {a : Rat} (hx : V64 x a) (h0 : tw (-200) ≤ a) (h1 : a ≤ tw 200) : ∃ R, V64 (fsqrt x) R ∧ 0 < R ∧ absR (R * R - a) ≤ a / 2 ^ 40 := by
  obtain ⟨s, m, i, h, rfl⟩ := hx
  have hp := tw_pos (-200)
  have hmt := mt_nn m i
  have hs : s = false := by
    cases s with
    | false => rfl
    | true => unfold dv at h0; simp only [sg, if_true] at h0; grind
  subst hs
  have ea : dv false m i = m * tw i := by unfold dv; simp only [sg, if_false, Bool.false_eq_true]; grind
  rw [ea] at h0 h1 ⊢
  have hm : m ≠ 0 := by
    intro hm
    subst hm
    have : ((0 : Nat) : Rat) = 0 := rfl
    rw [this] at h0
    grind
  have hfr : Ieee.double.fractionBits + 2 = 54 := by decide
  have e : fsqrt x = Ieee.double.write (.number false (2 * Ieee.Datum.rootFrom (m <<< (2 * 54 - m.log2 + ((i - ((2 * 54 - m.log2 : Nat) : Int)) % 2).toNat)) ((m <<< (2 * 54 - m.log2 + ((i - ((2 * 54 - m.log2 : Nat) : Int)) % 2).toNat)).log2 / 2 + 1) 0 + (Ieee.Datum.rootFrom (m <<< (2 * 54 - m.log2 + ((i - ((2 * 54 - m.log2 : Nat) : Int)) % 2).toNat)) ((m <<< (2 * 54 - m.log2 + ((i - ((2 * 54 - m.log2 : Nat) : Int)) % 2).toNat)).log2 / 2 + 1) 0 * Ieee.Datum.rootFrom (m <<< (2 * 54 - m.log2 + ((i - ((2 * 54 - m.log2 : Nat) : Int)) % 2).toNat)) ((m <<< (2 * 54 - m.log2 + ((i - ((2 * 54 - m.log2 : Nat) : Int)) % 2).toNat)).log2 / 2 + 1) 0 != m <<< (2 * 54 - m.log2 + ((i - ((2 * 54 - m.log2 : Nat) : Int)) % 2).toNat)).toNat) ((i - ((2 * 54 - m.log2 + ((i - ((2 * 54 - m.log2 : Nat) : Int)) % 2).toNat : Nat) : Int)) / 2 - 1)) := by
    unfold fsqrt
    show (Ieee.double.sqrt x).getD _ = _
    unfold Ieee.Format.sqrt
    rw [h, hfr]
    unfold Ieee.Datum.root
    dsimp only
    rw [if_neg hm, if_neg (by decide)]
    rfl
  rw [e]
  generalize hmore : (2 * 54 - m.log2 + ((i - ((2 * 54 - m.log2 : Nat) : Int)) % 2).toNat : Nat) = more
  have heven : (i - (more : Int)) % 2 = 0 := by omega
  have hn : 2 ^ 108 ≤ m <<< more := by
    rw [Nat.shiftLeft_eq]
    refine Nat.le_trans (Nat.pow_le_pow_right (by decide) (show 108 ≤ m.log2 + more by omega)) ?_
    rw [Nat.pow_add]
    exact Nat.mul_le_mul_right _ (Nat.log2_self_le hm)
  have hna : (m : Rat) * tw i = ((m <<< more : Nat) : Rat) * (tw ((i - more) / 2) * tw ((i - more) / 2)) := by
    rw [Nat.shiftLeft_eq, Rat.natCast_mul, ← tw_nat, ← tw_add, Rat.mul_assoc, ← tw_add]
    congr 2
    omega
  rw [hna] at h0 h1 ⊢
  generalize hN : m <<< more = N at *
  generalize (i - (more : Int)) / 2 = k at *
  have hsq : Ieee.Datum.rootFrom N (N.log2 / 2 + 1) 0 * Ieee.Datum.rootFrom N (N.log2 / 2 + 1) 0 ≤ N := rootFrom_sq _ _ _ (by omega)
  have hgt : N < (Ieee.Datum.rootFrom N (N.log2 / 2 + 1) 0 + 1) * (Ieee.Datum.rootFrom N (N.log2 / 2 + 1) 0 + 1) := by
    refine rootFrom_gt N _ 0 (by omega) ?_
    rw [Nat.zero_add, ← Nat.pow_add]
    exact Nat.lt_of_lt_of_le Nat.lt_log2_self (Nat.pow_le_pow_right (by decide) (by omega))
  generalize Ieee.Datum.rootFrom N (N.log2 / 2 + 1) 0 = w at *
  have hg : (w * w != N).toNat ≤ 1 := by cases (w * w != N) <;> decide
  generalize (w * w != N).toNat = g at *
  have hw : 2 ^ 53 ≤ w := by
    refine Nat.le_of_not_lt fun hlt => ?_
    have h3 : (w + 1) * (w + 1) ≤ 2 ^ 53 * 2 ^ 53 := Nat.mul_le_mul (by omega) (by omega)
    have h4 : 2 ^ 53 * 2 ^ 53 ≤ 2 ^ 108 := by decide
    omega
  have hwr := le_nat hw
  have hsq' := le_nat hsq
  rw [Rat.natCast_mul] at hsq'
  have hgt' : (N : Rat) < ((w : Rat) + 1) * (w + 1) := by
    have : (N : Rat) < (((w + 1) * (w + 1) : Nat) : Rat) := by exact_mod_cast hgt
    rw [Rat.natCast_mul] at this
    push_cast at this
    exact this
  have hg0 := nn_nat g
  have hg1 : (g : Rat) ≤ 1 := by have := le_nat hg; exact this
  have hM : ((2 * w + g : Nat) : Rat) = 2 * w + g := by push_cast; rfl
  have hk := tw_pos k
  have hk1 : tw (k - 1) = tw k / 2 := by
    have := tw_add (k - 1) 1
    rw [show k - 1 + 1 = k by omega, show tw 1 = 2 by decide +kernel] at this
    grind
  have hW53 : ((2 ^ 53 : Nat) : Rat) = 9007199254740992 := by decide +kernel
  rw [hW53] at hwr
  have hS : ((2 * w + g : Nat) : Rat) * tw (k - 1) = (w + g / 2) * tw k := by rw [hM, hk1]; grind
  have hSpos : 0 < ((w : Rat) + g / 2) * tw k := Rat.mul_pos (by grind) hk
  have hww : (w : Rat) ≤ w * w := by
    have := mul_nn (show (0 : Rat) ≤ w by grind) (show (0 : Rat) ≤ w - 1 by grind)
    grind
  have hcmp := root_a (show (0 : Rat) ≤ w by grind only) hg0 hg1 hsq' hgt'
  have hrel : (2 * (w : Rat) + 1) * 2 ^ 50 ≤ w * w := by
    have := mul_nn (show (0 : Rat) ≤ w by grind) (show (0 : Rat) ≤ w - 9007199254740992 by grind)
    grind
  have hkk : 0 < tw k * tw k := Rat.mul_pos hk hk
  have hA : absR (((w : Rat) + g / 2) * tw k * (((w : Rat) + g / 2) * tw k) - N * (tw k * tw k)) ≤ N * (tw k * tw k) / 2 ^ 50 := by
    rw [le_both] at hcmp ⊢
    have i1 := mul_nn (Rat.le_of_lt hkk) (show 0 ≤ ((w : Rat) + g / 2) * ((w : Rat) + g / 2) - N + (2 * w + 1) by grind)
    have i2 := mul_nn (Rat.le_of_lt hkk) (show 0 ≤ (2 * w + 1) - (((w : Rat) + g / 2) * ((w : Rat) + g / 2) - N) by grind)
    have i3 := mul_nn (Rat.le_of_lt hkk) (show 0 ≤ (N : Rat) - (2 * w + 1) * 2 ^ 50 by grind)
    grind
  generalize hSv : ((w : Rat) + g / 2) * tw k = S at *
  generalize (N : Rat) * (tw k * tw k) = a at *
  have hSlt : ((2 * w + g : Nat) : Rat) * tw (k - 1) < tw 101 := by
    rw [hS]
    refine Rat.not_le.1 fun hle => ?_
    have k1 := mul_nn (show 0 ≤ S - tw 101 by grind) (show 0 ≤ S + tw 101 by have := tw_pos 101; grind)
    have k2 : tw 101 * tw 101 = 4 * tw 200 := by rw [← tw_add]; decide +kernel
    have k3 := tw_pos 200
    rw [le_both] at hA
    grind
  obtain ⟨R, r1, r2⟩ := near_rnd fm64 false hSlt (by decide)
  refine ⟨R, r1, ?_⟩
  have r3 := d_err r2
  have eS : dv false (2 * w + g) (k - 1) = S := by unfold dv; simp only [sg, if_false, Bool.false_eq_true]; rw [hS]; grind
  rw [eS, absR_of_nn (Rat.le_of_lt hSpos)] at r3
  have hSge : 1 / 2 ^ 101 ≤ S := by
    refine Rat.not_lt.1 fun hlt => ?_
    have k1 := Rat.mul_pos (show 0 < 1 / 2 ^ 101 - S by grind) (show 0 < 1 / 2 ^ 101 + S by grind)
    have k2 : tw (-200) = 4 * (1 / 2 ^ 101 * (1 / 2 ^ 101)) := by decide +kernel
    rw [le_both] at hA
    grind
  have r4 : absR (R - S) ≤ S / 2 ^ 50 := by grind
  rw [le_both] at r4 hA
  refine ⟨by grind, ?_⟩
  rw [le_both]
  have i1 := mul_nn (show 0 ≤ S / 2 ^ 50 - (R - S) by grind) (show 0 ≤ R + S by grind)
  have i2 := mul_nn (show 0 ≤ S / 2 ^ 50 + (R - S) by grind) (show 0 ≤ R + S by grind)
  have i3 := mul_nn (Rat.le_of_lt hSpos) (show 0 ≤ 3 * S - (R + S) by grind)
  grind
end Go.Proofs.Ytpeplbbphpamhaa.Ab

namespace Go.Proofs.Ytpeplbbphpamhaa.Ab
set_option linter.unusedVariables false
set_option linter.unusedSimpArgs false
open Go
def LE1 (m : Nat) (p : Int) : Prop := m = 0 ∨ p ≤ 0 ∧ m ≤ 2 ^ (-p).toNat
theorem LE1.log {m : Nat} {p : Int} (h : LE1 m p) : m = 0 ∨ p + (m.log2 : Int) < 0 ∨ (p + (m.log2 : Int) = 0 ∧ m = 2 ^ m.log2) := by
  rcases h with h | ⟨h1, h2⟩
  · exact .inl h
  by_cases hm : m = 0
  · exact .inl hm
  right
  have h3 : 2 ^ m.log2 ≤ m := Nat.log2_self_le hm
  have h4 : m.log2 ≤ (-p).toNat := (Nat.pow_le_pow_iff_right (by decide)).1 (Nat.le_trans h3 h2)
  by_cases h5 : m.log2 = (-p).toNat
  · right
    refine ⟨by omega, ?_⟩
    rw [← h5] at h2
    omega
  · left
    omega
theorem near1 (neg : Bool) {m : Nat} {p : Int} (h : LE1 m p) : ∃ r, Ieee.double.nearest neg m p = Ieee.double.word neg r ∧ r ≤ 1023 * 4503599627370496 := by
  rcases h.log with h | h | ⟨h1, h2⟩
  · exact near_le Ieee.double neg m p 0 (by decide) (.inl h)
  · exact near_le Ieee.double neg m p 0 (by decide) (.inr h)
  · unfold Ieee.Format.nearest
    by_cases hm : m = 0
    · exact near_le Ieee.double neg m p 0 (by decide) (.inl hm)
    rw [if_neg hm]
    refine ⟨_, rfl, Nat.le_trans (Nat.min_le_left _ _) ?_⟩
    have c2 : Ieee.double.binade = 4503599627370496 := by decide
    have c4 : Ieee.double.leastPlace = -1074 := by decide
    have c5 : Ieee.double.fractionBits = 52 := by decide
    rw [c2, c4, c5]
    generalize hL : m.log2 = L at *
    have hmax : max (p + (L : Int) - (52 : Nat)) (-1074) = -52 := by omega
    rw [hmax, show ((-52 : Int) - (-1074)).toNat = 1022 by decide]
    have key : Ieee.Toward.even.cut neg (m <<< (p - (-52)).toNat) ((-52) - p).toNat ≤ 4503599627370496 := by
      by_cases hp : L ≤ 52
      · rw [show ((-52 : Int) - p).toNat = 0 by omega, cut_zero, Nat.shiftLeft_eq, h2, ← Nat.pow_add, show L + (p - (-52)).toNat = 52 by omega]
        decide
      · rw [show (p - (-52)).toNat = 0 by omega, Nat.shiftLeft_zero]
        have hd : ((-52 : Int) - p).toNat = L - 52 := by omega
        rw [hd, h2]
        unfold Ieee.Toward.cut
        have hlog : (2 ^ L).log2 = L := Nat.log2_two_pow
        rw [hlog, Nat.min_eq_left (by omega), Nat.one_shiftLeft]
        have hdiv : 2 ^ L / 2 ^ (L - 52) = 4503599627370496 := by
          rw [Nat.pow_div (by omega) (by decide), show L - (L - 52) = 52 by omega]
        have hmod : 2 ^ L % 2 ^ (L - 52) = 0 := Nat.mod_eq_zero_of_dvd (Nat.pow_dvd_pow 2 (by omega))
        dsimp only
        rw [hdiv, hmod]
        have hpos : 0 < 2 ^ (L - 52) := Nat.pow_pos (by decide)
        have e1 : decide (2 ^ (L - 52) < 2 * 0) = false := decide_eq_false (by omega)
        have e2 : (2 ^ (L - 52) == 2 * 0) = false := by simp
        simp [e1, e2]
    omega
theorem read1 (neg : Bool) {r : Nat} (hr : r ≤ 1023 * 4503599627370496) : ∃ m e, Ieee.double.read (Ieee.double.word neg r) = .number neg m e ∧ LE1 m e ∧ (r = 0 → m = 0) ∧ -1074 ≤ e := by
  unfold Ieee.Format.read Ieee.Format.word
  have c1 : Ieee.double.signWeight = 9223372036854775808 := by decide
  have c2 : Ieee.double.binade = 4503599627370496 := by decide
  have c3 : Ieee.double.infRung = 9218868437227405312 := by decide
  have c4 : Ieee.double.leastPlace = -1074 := by decide
  simp only [c1, c2, c3, c4]
  have hm : (if neg = true then 9223372036854775808 + r else r) % 9223372036854775808 = r := by split <;> omega
  have hs : ((if neg = true then 9223372036854775808 + r else r) / 9223372036854775808 % 2 == 1) = neg := by
    cases neg
    · rw [if_neg (by decide), Nat.div_eq_of_lt (by omega)]; rfl
    · rw [if_pos rfl, Nat.add_div_left _ (by decide), Nat.div_eq_of_lt (by omega)]; rfl
  rw [hm, hs]
  split
  · rename_i h1
    refine ⟨_, _, rfl, .inr ⟨by decide, ?_⟩, fun h => h, by decide⟩
    exact Nat.le_trans (Nat.le_of_lt h1) (by rw [show (4503599627370496 : Nat) = 2 ^ 52 by decide]; exact Nat.pow_le_pow_right (by decide) (by decide))
  · rename_i h1
    rw [if_pos (by omega)]
    refine ⟨_, _, rfl, .inr ⟨by omega, ?_⟩, fun h => by omega, by omega⟩
    by_cases hq : r / 4503599627370496 = 1023
    · have hmod : r % 4503599627370496 = 0 := by omega
      rw [hq, hmod]
      decide
    · have h2 : r % 4503599627370496 < 4503599627370496 := Nat.mod_lt _ (by decide)
      have h3 : 53 ≤ (-(-1074 + ((r / 4503599627370496 - 1 : Nat) : Int))).toNat := by omega
      refine Nat.le_trans (show 4503599627370496 + r % 4503599627370496 ≤ 2 ^ 53 by omega) (Nat.pow_le_pow_right (by decide) h3)
def PU (y : Nat) : Prop := ∃ m e, Ieee.double.read y = .number false m e ∧ LE1 m e
def NU (y : Nat) : Prop := ∃ s m e, Ieee.double.read y = .number s m e ∧ LE1 m e ∧ (s = true ∨ m = 0) ∧ -1074 ≤ e
theorem LE1.mul {m n : Nat} {i j : Int} (h : LE1 m i) (k : LE1 n j) : LE1 (m * n) (i + j) := by
  rcases h with rfl | ⟨h1, h2⟩
  · exact .inl (by simp)
  rcases k with rfl | ⟨k1, k2⟩
  · exact .inl (by simp)
  right
  refine ⟨by omega, ?_⟩
  rw [show (-(i + j)).toNat = (-i).toNat + (-j).toNat by omega, Nat.pow_add]
  exact Nat.mul_le_mul h2 k2
theorem mul_num {x y : Nat} {s t : Bool} {m n : Nat} {i j : Int} (hx : Ieee.double.read x = .number s m i) (hy : Ieee.double.read y = .number t n j) : fop .mul .f64 x y = Ieee.double.nearest (s ^^ t) (m * n) (i + j) := by
  unfold fop floatBits
  show (Ieee.double.mul x y).getD _ = _
  unfold Ieee.Format.mul
  rw [hx, hy]
  rfl
theorem PU.mul {x y : Nat} (hx : PU x) (hy : PU y) : PU (fop .mul .f64 x y) := by
  obtain ⟨m, i, h1, h2⟩ := hx
  obtain ⟨n, j, k1, k2⟩ := hy
  rw [mul_num h1 k1]
  obtain ⟨r, h3, h4⟩ := near1 (false ^^ false) (h2.mul k2)
  rw [h3]
  obtain ⟨m', e', h5, h6, _⟩ := read1 (false ^^ false) h4
  exact ⟨m', e', h5, h6⟩
theorem nu_of {s : Bool} {m : Nat} {p : Int} (h : LE1 m p) (hs : s = true ∨ m = 0) : NU (Ieee.double.nearest s m p) := by
  by_cases hm : m = 0
  · subst hm
    have hz : Ieee.double.nearest s 0 p = Ieee.double.word s 0 := by unfold Ieee.Format.nearest; rw [if_pos rfl]
    rw [hz]
    obtain ⟨m', e', h5, h6, h7, h8⟩ := read1 s (show 0 ≤ 1023 * 4503599627370496 by decide)
    exact ⟨s, m', e', h5, h6, .inr (h7 rfl), h8⟩
  · obtain ⟨r, h3, h4⟩ := near1 s h
    rw [h3]
    obtain ⟨m', e', h5, h6, _, h8⟩ := read1 s h4
    exact ⟨s, m', e', h5, h6, .inl (hs.resolve_right hm), h8⟩
theorem NU.mul {x y : Nat} (hx : NU x) (hy : PU y) : NU (fop .mul .f64 x y) := by
  obtain ⟨s, m, i, h1, h2, h3, _⟩ := hx
  obtain ⟨n, j, k1, k2⟩ := hy
  rw [mul_num h1 k1]
  refine nu_of (h2.mul k2) ?_
  rcases h3 with rfl | rfl
  · exact .inl rfl
  · exact .inr (by simp)
theorem quo_le (D n E : Nat) (hn : 0 < n) (h : D ≤ n * 2 ^ E) : 2 * (D / n) + (D % n != 0).toNat ≤ 2 ^ (E + 1) := by
  rw [Nat.pow_succ]
  by_cases hr : D % n = 0
  · rw [hr]
    have : D / n ≤ 2 ^ E := by
      rw [Nat.div_le_iff_le_mul hn]
      rw [Nat.mul_comm] at h
      omega
    simp
    omega
  · have hlt : D < n * 2 ^ E := by
      refine Nat.lt_of_le_of_ne h fun he => hr ?_
      rw [he]
      exact Nat.mul_mod_right _ _
    have : D / n < 2 ^ E := by rw [Nat.div_lt_iff_lt_mul hn, Nat.mul_comm]; exact hlt
    have hb : (D % n != 0).toNat ≤ 1 := by cases (D % n != 0) <;> decide
    omega
theorem NU.quo {x y : Nat} {s : Bool} {m n : Nat} {i j : Int} (hx : Ieee.double.read x = .number s m i) (hy : Ieee.double.read y = .number false n j) (hn : 0 < n) (hs : s = true ∨ m = 0)
    (h : ∃ a b : Nat, m * 2 ^ a ≤ n * 2 ^ b ∧ (a : Int) - i = (b : Int) - j) : NU (fop .quo .f64 x y) := by
  obtain ⟨a, b, h1, h2⟩ := h
  have e : fop .quo .f64 x y = Ieee.double.nearest (s ^^ false) (2 * ((m <<< (54 + n.log2 - m.log2)) / n) + ((m <<< (54 + n.log2 - m.log2)) % n != 0).toNat) (i - j - ((54 + n.log2 - m.log2 : Nat) : Int) - 1) := by
    unfold fop floatBits
    show (Ieee.double.div x y).getD _ = _
    unfold Ieee.Format.div
    rw [hx, hy]
    unfold Ieee.Datum.quotient
    dsimp only
    rw [if_neg (by omega)]
    rfl
  rw [e]
  by_cases hm : m = 0
  · subst hm
    have : 2 * ((0 <<< (54 + n.log2 - (0 : Nat).log2)) / n) + ((0 <<< (54 + n.log2 - (0 : Nat).log2)) % n != 0).toNat = 0 := by simp
    rw [this]
    exact nu_of (.inl rfl) (.inr rfl)
  have hs : s = true := hs.resolve_right hm
  subst hs
  generalize hmore : 54 + n.log2 - m.log2 = more
  have hE : 0 ≤ (more : Int) + j - i := by
    have h3 : 2 ^ m.log2 ≤ m := Nat.log2_self_le hm
    have h4 : n < 2 ^ (n.log2 + 1) := Nat.lt_log2_self
    have h5 : 2 ^ (m.log2 + a) < 2 ^ (n.log2 + 1 + b) := by
      rw [Nat.pow_add, Nat.pow_add]
      exact Nat.lt_of_le_of_lt (Nat.mul_le_mul_right _ h3) (Nat.lt_of_le_of_lt h1 (Nat.mul_lt_mul_of_pos_right h4 (Nat.pow_pos (by decide))))
    have h6 := (Nat.pow_lt_pow_iff_right (by decide)).1 h5
    omega
  have hD : m <<< more ≤ n * 2 ^ ((more : Int) + j - i).toNat := by
    rw [Nat.shiftLeft_eq]
    have hp : 0 < 2 ^ a := Nat.pow_pos (by decide)
    refine Nat.le_of_mul_le_mul_right (?_ : m * 2 ^ more * 2 ^ a ≤ n * 2 ^ ((more : Int) + j - i).toNat * 2 ^ a) hp
    calc m * 2 ^ more * 2 ^ a = m * 2 ^ a * 2 ^ more := by rw [Nat.mul_right_comm]
      _ ≤ n * 2 ^ b * 2 ^ more := Nat.mul_le_mul_right _ h1
      _ = n * (2 ^ (b + more)) := by rw [Nat.mul_assoc, Nat.pow_add]
      _ = n * (2 ^ (((more : Int) + j - i).toNat + a)) := by rw [show b + more = ((more : Int) + j - i).toNat + a by omega]
      _ = n * 2 ^ ((more : Int) + j - i).toNat * 2 ^ a := by rw [Nat.pow_add, Nat.mul_assoc]
  refine nu_of (.inr ⟨by omega, ?_⟩) (.inl rfl)
  rw [show (-(i - j - (more : Int) - 1)).toNat = ((more : Int) + j - i).toNat + 1 by omega]
  exact quo_le _ _ _ hn hD
theorem NU.one {x : Nat} (hx : NU x) : PU (fop .add .f64 4607182418800017408 x) := by
  obtain ⟨s, n, j, h1, h2, h3, hj⟩ := hx
  have hone : Ieee.double.read 4607182418800017408 = .number false 4503599627370496 (-52) := by decide +kernel
  have e : fop .add .f64 4607182418800017408 x = ((((Ieee.Datum.number false 4503599627370496 (-52)).sum (.number s n j))).map Ieee.double.write).getD (qnan .f64) := by
    unfold fop floatBits
    show (Ieee.double.add 4607182418800017408 x).getD _ = _
    unfold Ieee.Format.add
    rw [hone, h1]
  rw [e]
  unfold Ieee.Datum.sum
  dsimp only
  generalize hb : min (-52 : Int) j = base
  have hbase : base ≤ -52 := by omega
  have t1 : Ieee.signed false 4503599627370496 (-52 - base).toNat = ((2 ^ (-base).toNat : Nat) : Int) := by
    unfold Ieee.signed
    rw [if_neg (by decide), Nat.shiftLeft_eq, show (4503599627370496 : Nat) = 2 ^ 52 by decide, ← Nat.pow_add, show 52 + (-52 - base).toNat = (-base).toNat by omega]
  have t2 : ∃ c : Nat, Ieee.signed s n (j - base).toNat = -(c : Int) ∧ c ≤ 2 ^ (-base).toNat := by
    rcases h2 with rfl | ⟨k1, k2⟩
    · exact ⟨0, by unfold Ieee.signed; cases s <;> simp, Nat.zero_le _⟩
    · rcases h3 with rfl | rfl
      · refine ⟨n <<< (j - base).toNat, by unfold Ieee.signed; rw [if_pos rfl], ?_⟩
        rw [Nat.shiftLeft_eq, show (-base).toNat = (-j).toNat + (j - base).toNat by omega, Nat.pow_add]
        exact Nat.mul_le_mul_right _ k2
      · exact ⟨0, by unfold Ieee.signed; cases s <;> simp, Nat.zero_le _⟩
  obtain ⟨c, t2, t3⟩ := t2
  rw [t1, t2]
  generalize hT : 2 ^ (-base).toNat = T at t3
  have hneg : (if ((T : Nat) : Int) + -(c : Int) = 0 then (false && s) else decide (((T : Nat) : Int) + -(c : Int) < 0)) = false := by
    split
    · rfl
    · exact decide_eq_false (by omega)
  rw [hneg]
  show PU (Ieee.double.nearest false (((T : Nat) : Int) + -(c : Int)).natAbs base)
  rw [show (((T : Nat) : Int) + -(c : Int)).natAbs = T - c by omega]
  have hle : LE1 (T - c) base := .inr ⟨by omega, by rw [hT]; omega⟩
  obtain ⟨r, h3, h4⟩ := near1 false hle
  rw [h3]
  obtain ⟨m', e', h5, h6, _⟩ := read1 false h4
  exact ⟨m', e', h5, h6⟩
def eS (t p k : Nat) : Nat := fop .add .f64 4607182418800017408 (fop .quo .f64 (fop .mul .f64 t p) k)
end Go.Proofs.Ytpeplbbphpamhaa.Ab

namespace Go.Proofs.Ytpeplbbphpamhaa.Ab
set_option linter.unusedVariables false
set_option linter.unusedSimpArgs false
open Go
def L0 : Ieee.Datum → Prop
  | .nan _ _ => True
  | .infinity s => s = true
  | .number s m _ => s = true ∨ m = 0
end Go.Proofs.Ytpeplbbphpamhaa.Ab

namespace Go.Proofs.Ytpeplbbphpamhaa.Ab
set_option linter.unusedVariables false
set_option linter.unusedSimpArgs false
open Go
def Bel (B : Int) (x : Nat) : Prop := ∃ s m e, FloatKind.f32.format.read x = .number s m e ∧ (m = 0 ∨ e + (m.log2 : Int) < B)
theorem Bel.mono {A B : Int} {x : Nat} (h : Bel A x) (hAB : A ≤ B) : Bel B x := by
  obtain ⟨s, m, e, h, h2⟩ := h
  exact ⟨s, m, e, h, by omega⟩
end Go.Proofs.Ytpeplbbphpamhaa.Ab

namespace Go.Proofs.Ytpeplbbphpamhaa.Ab
set_option linter.unusedVariables false
set_option linter.unusedSimpArgs false
open Go
def BelD (B : Int) (x : Nat) : Prop := ∃ s m e, Ieee.double.read x = .number s m e ∧ (m = 0 ∨ e + (m.log2 : Int) < B)
theorem BelD.mono {A B : Int} {x : Nat} (h : BelD A x) (hAB : A ≤ B) : BelD B x := by
  obtain ⟨s, m, e, h, h2⟩ := h
  exact ⟨s, m, e, h, by omega⟩
theorem read_place {x : Nat} {s : Bool} {m : Nat} {e : Int} (h : Ieee.double.read x = .number s m e) : -1074 ≤ e ∧ m < 9007199254740992 ∧ (m < 4503599627370496 → e = -1074) ∧ e ≤ 971 := by
  unfold Ieee.Format.read at h
  have c1 : Ieee.double.signWeight = 9223372036854775808 := by decide
  have c2 : Ieee.double.binade = 4503599627370496 := by decide
  have c3 : Ieee.double.infRung = 9218868437227405312 := by decide
  have c4 : Ieee.double.leastPlace = -1074 := by decide
  rw [c1, c2, c3, c4] at h
  dsimp only at h
  split at h
  · cases h
    omega
  · split at h
    · cases h
      omega
    · split at h <;> cases h
end Go.Proofs.Ytpeplbbphpamhaa.Ab

namespace Go.Proofs.Ytpeplbbphpamhaa.Ab
set_option linter.unusedVariables false
set_option linter.unusedSimpArgs false
open Go
def tab_IsFinite : Fns := tabT []
theorem tabok_IsFinite : ∀ f, FnT Try.prog f (tab_IsFinite f) := tabT_nil
theorem run_IsFinite (N : Nat) (x : Nat) : run ty tab_IsFinite ann0 N Try.f17 [.fl .f32 x] []
    = some (.bool (eqB (fop .sub .f32 x x) 0), []) := by
  kernel_rfl
theorem ok_IsFinite : FnT Try.prog 17 (gT (gF1 finB)) := by
  refine fnT tabok_IsFinite Try.func17 rfl rfl ann0 fun vs h v h' e => ⟨0, ?_⟩
  rw [T.run_of] at e
  unfold gF1 at e
  split at e
  case h_2 => cases e
  rename_i x
  cases e
  refine Eq.trans (run_IsFinite 0 x) ?_
  rfl
def inB (n lo hi : Int) : Bool := decide (n ≥ lo) && decide (n ≤ hi)
def gIn : G := fun vs h => match vs, h with | [.int .i64 n, .int .i64 a, .int .i64 b], [] => some (.bool (inB n a b), []) | _, _ => none
def tab_within : Fns := tabT []
theorem tabok_within : ∀ f, FnT Try.prog f (tab_within f) := tabT_nil
theorem run_within (N : Nat) (n : Int) (a : Int) (b : Int) : run ty tab_within ann0 N Try.f16 [.int .i64 n, .int .i64 a, .int .i64 b] []
    = (match decide ((n : Int) ≥ a) with | true => some (.bool (decide ((n : Int) ≤ b)), []) | false => some (.bool false, [])) := by
  kernel_rfl
theorem ok_within : FnT Try.prog 16 (gT gIn) := by
  refine fnT tabok_within Try.func16 rfl rfl ann0 fun vs h v h' e => ⟨0, ?_⟩
  rw [T.run_of] at e
  unfold gIn at e
  split at e
  case h_2 => cases e
  rename_i n a b
  cases e
  refine Eq.trans (run_within 0 n a b) ?_
  unfold inB
  cases decide (n ≥ a) <;> rfl
def gIxT (f : FuncId) (p : Nat → Bool) : GT := fun vs h => match vs, h with
  | [.sl 0 0 n, .fn f'], [.at rw (.fl .f32 l)] => if f' = f then .ite (decide (l.length = n ∧ n < 2147483648)) (.ret (.int .i64 (ixOf p l)) [.at rw (.fl .f32 l)]) .no else .no
  | [.nil, .fn f'], [] => if f' = f then .ret (.int .i64 (-1)) [] else .no
  | _, _ => .no
def gCoT (f : FuncId) (p : Nat → Bool) : GT := fun vs h => match vs, h with
  | [.sl 0 0 n, .fn f'], [.at rw (.fl .f32 l)] => if f' = f then .ite (decide (l.length = n ∧ n < 2147483648)) (.ret (.bool (decide (ixOf p l ≥ 0))) [.at rw (.fl .f32 l)]) .no else .no
  | [.nil, .fn f'], [] => if f' = f then .ret (.bool false) [] else .no
  | _, _ => .no
def gAllT (p : Nat → Bool) : GT := fun vs h => match vs, h with
  | [.sl 0 0 n], [.at rw (.fl .f32 l)] => .ite (decide (l.length = n ∧ n < 2147483648)) (.ret (.bool (l.all p)) [.at rw (.fl .f32 l)]) .no
  | [.nil], [] => .ret (.bool true) []
  | _, _ => .no
def tab_fin1 : Fns := tabT [(17, gT (gF1 finB))]
theorem tabok_fin1 : ∀ f, FnT Try.prog f (tab_fin1 f) := (tabT_cons (k := 17) ok_IsFinite tabT_nil)
theorem run_fin1 (N : Nat) (x : Nat) : run ty tab_fin1 ann0 N Try.f30 [.fl .f32 x] []
    = some (.bool (!(finB x)), []) := by
  kernel_rfl
theorem ok_fin1 : FnT Try.prog 30 (gT (gF1 (fun x => !finB x))) := by
  refine fnT tabok_fin1 Try.func30 rfl rfl ann0 fun vs h v h' e => ⟨0, ?_⟩
  rw [T.run_of] at e
  unfold gF1 at e
  split at e
  case h_2 => cases e
  rename_i x
  cases e
  refine Eq.trans (run_fin1 0 x) ?_
  show _ = some (V.bool (!finB x), [])
  rfl
def an_ixfin : Ann := ⟨fun r => if r = 2 then some ([0, 1, 7, 8], [4]) else none, fun _ _ => .quiet⟩
def tab_ixfin : Fns := tabT [(30, gT (gF1 (fun x => !finB x)))]
theorem tabok_ixfin : ∀ f, FnT Try.prog f (tab_ixfin f) := (tabT_cons (k := 30) ok_fin1 tabT_nil)
def st_ixfin2 (s0n : Nat) (t7 : Int) (t8 : Int) (rw0 : Bool) (l0 : List Nat) : St := ⟨(.sl 0 0 s0n :: .fn 30 :: .any :: .any :: .any :: .any :: .any :: .int .i64 t7 :: .int .i64 t8 :: (anys 10 [])), [.at rw0 (.fl .f32 l0)]⟩
abbrev kp_ixfin2 : Option (List Nat × List Nat) := some ([0, 1, 7, 8], [4])
noncomputable def lp_ixfin2 {R : Type} (N M : Nat) (s : St) (K : X → St → Option R) : Option R := loopH 1 kp_ixfin2 (fun st K => exec ty tab_ixfin an_ixfin N 1 (atOf [true, false, true, false, false] Try.f32) st K) M s K
noncomputable def kt_ixfin2 {R : Type} (N : Nat) (K : X → St → Option R) : X → St → Option R := kBlkR 0 (kSeqR tab_ixfin an_ixfin N 1 (atOf [true, true] Try.f32) (K))
def en_ixfin2_0 (t4 : Int) (rw0 : Bool) (l0 : List Nat) : St := ⟨(.any :: .any :: .any :: .any :: .int .i64 t4 :: (anys 14 [])), [.at rw0 (.fl .f32 l0)]⟩
def en_ixfin2_1 (rw0 : Bool) (l0 : List Nat) : St := ⟨(anys 19 []), [.at rw0 (.fl .f32 l0)]⟩
theorem run_ixfin (N : Nat) (n : Nat) (rw : Bool) (l : List Nat) : run ty tab_ixfin an_ixfin N Try.f32 [.sl 0 0 n, .fn 30] [.at rw (.fl .f32 l)]
    = lp_ixfin2 N N (st_ixfin2 n ((n : Nat) : Int) 0 rw l) (kt_ixfin2 N (kEnd Try.f32 1)) := by
  kernel_rfl
theorem step_ixfin2 {R : Type} (N M : Nat) (K : X → St → Option R) (s0n : Nat) (t7 : Int) (t8 : Int) (rw0 : Bool) (l0 : List Nat) : lp_ixfin2 N (M + 1) (st_ixfin2 s0n t7 t8 rw0 l0) K
    = (match decide ((t8 : Int) < t7) with | true => (match decide (0 ≤ (t8 : Int) ∧ (t8 : Int) < ((s0n : Nat) : Int)) with | true => (match l0[0 + (t8).toNat * 1]? with | some e1 => (match !finB e1 with | true => K .ret (en_ixfin2_0 t8 rw0 l0) | false => lp_ixfin2 N M (st_ixfin2 s0n t7 (IntKind.i64.wrap (t8 + 1)) rw0 l0) K) | none => none) | false => none) | false => K (.exit 0) (en_ixfin2_1 rw0 l0)) := by
  kernel_rfl
theorem end_ixfin2_0 (N : Nat) (t4 : Int) (rw0 : Bool) (l0 : List Nat) : kt_ixfin2 N (kEnd Try.f32 1) .ret (en_ixfin2_0 t4 rw0 l0)
    = some (.int .i64 t4, [.at rw0 (.fl .f32 l0)]) := by
  kernel_rfl
theorem end_ixfin2_1 (N : Nat) (rw0 : Bool) (l0 : List Nat) : kt_ixfin2 N (kEnd Try.f32 1) (.exit 0) (en_ixfin2_1 rw0 l0)
    = some (.int .i64 (-1), [.at rw0 (.fl .f32 l0)]) := by
  kernel_rfl
theorem ok_ixfin : FnT Try.prog 32 (gIxT 30 (fun x => !finB x)) := by
  refine fnT tabok_ixfin Try.func32 rfl rfl an_ixfin fun vs h v h' e => ?_
  unfold gIxT at e
  split at e
  · rename_i n f' rw l
    split at e
    · rename_i hf
      subst hf
      obtain ⟨hd, e⟩ := T.pre_inv e
      obtain ⟨rfl, rfl⟩ := T.ret_inv e
      obtain ⟨rfl, hb⟩ := of_decide_eq_true hd
      refine ⟨l.length + 1, Eq.trans (run_ixfin _ _ _ _) ?_⟩
      refine Eq.trans (scan0 l (fun x => !finB x) (fun M i => lp_ixfin2 (l.length + 1) M (st_ixfin2 l.length ((l.length : Nat) : Int) i rw l) (kt_ixfin2 (l.length + 1) (kEnd Try.f32 1))) (fun j => some (.int .i64 (j : Int), [.at rw (.fl .f32 l)])) (some (.int .i64 (-1), [.at rw (.fl .f32 l)])) (fun M i x hx => ?_) (fun M => ?_)) ?_
      · have hi := lt_of_get hx
        simp only [step_ixfin2, dlt hi, din hi, ix, hx, wr (show i < 2147483648 by omega), end_ixfin2_0] <;> (cases !finB x <;> rfl)
      · simp only [step_ixfin2, dge (Nat.le_refl _), end_ixfin2_1]
      · unfold ixOf
        cases firstIx (fun x => !finB x) l 0 <;> rfl
    · exact (T.no_inv e).elim
  · split at e
    · rename_i hf
      subst hf
      obtain ⟨rfl, rfl⟩ := T.ret_inv e
      exact ⟨1, by kernel_rfl⟩
    · exact (T.no_inv e).elim
  · exact (T.no_inv e).elim
def tab_cofin : Fns := tabT [(32, gIxT 30 (fun x => !finB x))]
theorem tabok_cofin : ∀ f, FnT Try.prog f (tab_cofin f) := (tabT_cons (k := 32) ok_ixfin tabT_nil)
theorem run_cofin (N : Nat) (n : Nat) (rw : Bool) (l : List Nat) : run ty tab_cofin ann0 N Try.f29 [.sl 0 0 n, .fn 30] [.at rw (.fl .f32 l)]
    = (match decide (l.length = n ∧ n < 2147483648) with | true => some (.bool (decide ((ixOf (fun x => !finB x) l : Int) ≥ 0)), [.at rw (.fl .f32 l)]) | false => none) := by
  kernel_rfl
theorem ok_cofin : FnT Try.prog 29 (gCoT 30 (fun x => !finB x)) := by
  refine fnT tabok_cofin Try.func29 rfl rfl ann0 fun vs h v h' e => ⟨0, ?_⟩
  unfold gCoT at e
  split at e
  · split at e
    · rename_i n f' rw l hf
      subst hf
      obtain ⟨hd, e⟩ := T.pre_inv e
      obtain ⟨rfl, rfl⟩ := T.ret_inv e
      refine Eq.trans (run_cofin 0 _ _ _) ?_
      rw [hd]
    · exact (T.no_inv e).elim
  · split at e
    · rename_i hf
      subst hf
      obtain ⟨rfl, rfl⟩ := T.ret_inv e
      kernel_rfl
    · exact (T.no_inv e).elim
  · exact (T.no_inv e).elim
def tab_areFinite : Fns := tabT [(29, gCoT 30 (fun x => !finB x))]
theorem tabok_areFinite : ∀ f, FnT Try.prog f (tab_areFinite f) := (tabT_cons (k := 29) ok_cofin tabT_nil)
theorem run_areFinite (N : Nat) (n : Nat) (rw : Bool) (l : List Nat) : run ty tab_areFinite ann0 N Try.f26 [.sl 0 0 n] [.at rw (.fl .f32 l)]
    = (match decide (l.length = n ∧ n < 2147483648) with | true => some (.bool (!(decide (ixOf (fun x => !finB x) l ≥ 0))), [.at rw (.fl .f32 l)]) | false => none) := by
  kernel_rfl
theorem ok_areFinite : FnT Try.prog 26 (gAllT finB) := by
  refine fnT tabok_areFinite Try.func26 rfl rfl ann0 fun vs h v h' e => ⟨0, ?_⟩
  unfold gAllT at e
  split at e
  · obtain ⟨hd, e⟩ := T.pre_inv e
    obtain ⟨rfl, rfl⟩ := T.ret_inv e
    refine Eq.trans (run_areFinite 0 _ _ _) ?_
    rw [hd, ← ix_all finB]
  · obtain ⟨rfl, rfl⟩ := T.ret_inv e
    kernel_rfl
  · exact (T.no_inv e).elim
def gLsT : GT := fun vs h => match vs, h with
  | [.sl 0 0 n], [.at rw (.fl .f32 l)] => .ite (decide (l.length = n ∧ n < 2147483648)) (.ite (l.all finB) (.ret (.tup [.a (.sl 0 0 n), .a (.bool true)]) [.at rw (.fl .f32 l)]) (.ret nilF [.at rw (.fl .f32 l)])) .no
  | _, _ => .no
abbrev pairV (b : Bool) (y : Nat) : V := .tup [.a (.fl .f32 y), .a (.bool b)]
def gNumT : GT := fun vs h => match vs, h with | [.fl .f32 x], [] => .ite (finB x) (.ret (pairV true x) []) (.ret (pairV false 0) []) | _, _ => .no
def tab_checkedNumbers : Fns := tabT [(26, gAllT finB)]
theorem tabok_checkedNumbers : ∀ f, FnT Try.prog f (tab_checkedNumbers f) := (tabT_cons (k := 26) ok_areFinite tabT_nil)
theorem run_checkedNumbers (N : Nat) (n : Nat) (rw : Bool) (l : List Nat) : run ty tab_checkedNumbers ann0 N Try.f25 [.sl 0 0 n] [.at rw (.fl .f32 l)]
    = (match decide (l.length = n ∧ n < 2147483648) with | true => (match !(l.all finB) with | true => some (.tup [.a (.nil), .a (.bool false)], [.at rw (.fl .f32 l)]) | false => some (.tup [.a (.sl 0 0 n), .a (.bool true)], [.at rw (.fl .f32 l)])) | false => none) := by
  kernel_rfl
theorem ok_checkedNumbers : FnT Try.prog 25 gLsT := by
  refine fnT tabok_checkedNumbers Try.func25 rfl rfl ann0 fun vs h v h' e => ⟨0, ?_⟩
  unfold gLsT at e
  split at e
  · rename_i n rw l
    obtain ⟨hd, e⟩ := T.pre_inv e
    refine Eq.trans (run_checkedNumbers 0 _ _ _) (Eq.trans ?_ e)
    rw [hd]
    show _ = T.k _ _
    simp only [T.k]
    cases l.all finB <;> rfl
  · exact (T.no_inv e).elim
def tab_checked : Fns := tabT [(17, gT (gF1 finB))]
theorem tabok_checked : ∀ f, FnT Try.prog f (tab_checked f) := (tabT_cons (k := 17) ok_IsFinite tabT_nil)
theorem run_checked (N : Nat) (x : Nat) : run ty tab_checked ann0 N Try.f21 [.fl .f32 x] []
    = (match !(finB x) with | true => some (.tup [.a (.fl .f32 0), .a (.bool false)], []) | false => some (.tup [.a (.fl .f32 x), .a (.bool true)], [])) := by
  kernel_rfl
theorem ok_checked : FnT Try.prog 21 (gNumT) := by
  refine fnT tabok_checked Try.func21 rfl rfl ann0 fun vs h v h' e => ⟨0, ?_⟩
  unfold gNumT at e
  split at e
  · rename_i x
    refine Eq.trans (run_checked 0 x) (Eq.trans ?_ e)
    show _ = T.k _ _
    simp only [T.k]
    cases finB x <;> rfl
  · exact (T.no_inv e).elim
end Go.Proofs.Ytpeplbbphpamhaa.Ab

namespace Go.Proofs.Ytpeplbbphpamhaa.Ab
set_option linter.unusedVariables false
set_option linter.unusedSimpArgs false
open Go
def gClone : GT := fun vs h => match vs, h with
  | [.sl 0 0 n], [.at r (.fl .f32 l)] => .ite (decide (l.length = n ∧ n < 2147483648)) (.ret (.sl 1 0 n) [.at r (.fl .f32 l), .at true (.fl .f32 l)]) .no
  | _, _ => .no
def tab_cl : Fns := tabT []
theorem tabok_cl : ∀ f, FnT Try.prog f (tab_cl f) := tabT_nil
theorem run_cl (N : Nat) (n : Nat) (r : Bool) (l : List Nat) : run ty tab_cl ann0 N Try.f22 [.sl 0 0 n] [.at r (.fl .f32 l)]
    = (match decide (0 + n * 1 ≤ l.length) with | true => (match apok true 0 1 0 1 (0 + n) 4 with | true => some (.sl 1 0 (0 + n), [.at r (.fl .f32 l), .at true (.fl .f32 (([] : List Nat) ++ ((l.drop 0).take (n * 1))))]) | false => none) | false => none) := by
  kernel_rfl
theorem ok_cl : FnT Try.prog 22 (gClone) := by
  refine fnT tabok_cl Try.func22 rfl rfl ann0 fun vs h v h' e => ⟨0, ?_⟩
  unfold gClone at e
  split at e
  · rename_i n r l
    obtain ⟨hd, e⟩ := T.pre_inv e
    obtain ⟨rfl, rfl⟩ := T.ret_inv e
    obtain ⟨rfl, hb⟩ := of_decide_eq_true hd
    refine Eq.trans (run_cl 0 _ _ _) ?_
    rw [decide_eq_true (show 0 + l.length * 1 ≤ l.length by omega), show apok true 0 1 0 1 (0 + l.length) 4 = true by unfold apok boundB; rw [decide_eq_true (show 0 + l.length ≤ 9223372036854775807 ∧ (0 + l.length) * 4 ≤ 140737488355328 from ⟨by omega, by omega⟩)]; rfl]
    simp
  · exact (T.no_inv e).elim
theorem ok_msqrt : FnT Try.prog 31 gSqrt := sqrt_ok Try.func31 (by decide) (by rfl) (by rfl) (by rfl)
def tab_mSqrt : Fns := tabT [(31, gSqrt)]
theorem tabok_mSqrt : ∀ f, FnT Try.prog f (tab_mSqrt f) := (tabT_cons (k := 31) ok_msqrt tabT_nil)
theorem run_mSqrt (N : Nat) (x : Nat) : run ty tab_mSqrt ann0 N Try.f28 [.fl .f64 x] []
    = some (.fl .f64 (fsqrt x), []) := by
  kernel_rfl
theorem ok_mSqrt : FnT Try.prog 28 (gSqrt) := by
  refine fnT tabok_mSqrt Try.func28 rfl rfl ann0 fun vs h v h' e => ⟨0, ?_⟩
  unfold gSqrt at e
  split at e
  case h_2 => exact (T.no_inv e).elim
  obtain ⟨rfl, rfl⟩ := T.ret_inv e
  exact run_mSqrt 0 _
def gRoot : G := fun vs h => match vs, h with | [.fl .f32 x], [] => some (.fl .f32 (rootF x), []) | _, _ => none
def tab_RootNumber : Fns := tabT [(28, gSqrt)]
theorem tabok_RootNumber : ∀ f, FnT Try.prog f (tab_RootNumber f) := (tabT_cons (k := 28) ok_mSqrt tabT_nil)
theorem run_RootNumber (N : Nat) (x : Nat) : run ty tab_RootNumber ann0 N Try.f24 [.fl .f32 x] []
    = (match fconv .f32 x .f64 with | some c1 => (match fconv .f64 (fsqrt c1) .f32 with | some c2 => some (.fl .f32 c2, []) | none => none) | none => none) := by
  kernel_rfl
theorem ok_RootNumber : FnT Try.prog 24 (gT gRoot) := by
  refine fnT tabok_RootNumber Try.func24 rfl rfl ann0 fun vs h v h' e => ⟨0, ?_⟩
  rw [T.run_of] at e
  unfold gRoot at e
  split at e
  case h_2 => cases e
  rename_i x
  cases e
  refine Eq.trans (run_RootNumber 0 x) ?_
  simp only [fconv_eq, rootF_eq, Option.isSome_some, Option.getD_some]
def nzF (x : Nat) : Nat := match eqB x 0 with | true => 897988541 | false => x
def gNz : G := fun vs h => match vs, h with | [.fl .f32 x], [] => some (.fl .f32 (nzF x), []) | _, _ => none
def tab_nz : Fns := tabT []
theorem tabok_nz : ∀ f, FnT Try.prog f (tab_nz f) := tabT_nil
theorem run_nz (N : Nat) (x : Nat) : run ty tab_nz ann0 N Try.f23 [.fl .f32 x] []
    = (match eqB x 0 with | true => some (.fl .f32 897988541, []) | false => some (.fl .f32 x, [])) := by
  kernel_rfl
theorem ok_nz : FnT Try.prog 23 (gT gNz) := by
  refine fnT tabok_nz Try.func23 rfl rfl ann0 fun vs h v h' e => ⟨0, ?_⟩
  rw [T.run_of] at e
  unfold gNz at e
  split at e
  case h_2 => cases e
  rename_i x
  cases e
  refine Eq.trans (run_nz 0 x) ?_
  unfold nzF
  cases eqB x 0 <;> rfl
end Go.Proofs.Ytpeplbbphpamhaa.Ab

namespace Go.Proofs.Ytpeplbbphpamhaa.Ab
set_option linter.unusedVariables false
set_option linter.unusedSimpArgs false
open Go
theorem absR_tri (x y : Rat) : absR (x + y) ≤ absR x + absR y := abs_addR Rat.le_refl Rat.le_refl
theorem absR_sub (x y : Rat) : absR (x - y) ≤ absR x + absR y := abs_subR Rat.le_refl Rat.le_refl
theorem absR_mul (x y : Rat) : absR (x * y) = absR x * absR y := by
  unfold absR
  by_cases hx : 0 ≤ x <;> by_cases hy : 0 ≤ y
  · have := mul_nn hx hy; simp only [hx, hy, this, if_true]
  · have := mul_nn hx (show 0 ≤ -y by grind)
    by_cases h : 0 ≤ x * y
    · simp only [hx, hy, h, if_true, if_false]; grind
    · simp only [hx, hy, h, if_true, if_false]; grind
  · have := mul_nn (show 0 ≤ -x by grind) hy
    by_cases h : 0 ≤ x * y
    · simp only [hx, hy, h, if_true, if_false]; grind
    · simp only [hx, hy, h, if_true, if_false]; grind
  · have := mul_nn (show 0 ≤ -x by grind) (show 0 ≤ -y by grind)
    by_cases h : 0 ≤ x * y
    · simp only [hx, hy, h, if_true, if_false]; grind
    · simp only [hx, hy, h, if_true, if_false]; grind
theorem absR_pos {x : Rat} (h : x ≠ 0) : 0 < absR x := by unfold absR; split <;> grind
theorem absR_div {x y : Rat} (hy : y ≠ 0) : absR (x / y) * absR y = absR x := by
  rw [← absR_mul]
  congr 1
  grind
theorem rel_err {E R v : Rat} (h : absR (R - E) * v ≤ absR E) (hE : E ≠ 0) : ∃ e, R = E * (1 + e) ∧ absR e * v ≤ 1 := by
  refine ⟨(R - E) / E, by grind, ?_⟩
  have h1 := absR_div (x := R - E) hE
  have h2 := absR_pos hE
  have h4 : absR ((R - E) / E) * v * absR E ≤ 1 * absR E := by
    rw [← h1] at h
    grind
  exact mul_cancel h4 h2
def tiny : Rat := tw (-126)
theorem tiny_le {k : Int} (h : -126 ≤ k) : tiny ≤ tw k := tw_mono h
theorem r_er {E R : Rat} (h : R32 E R) : absR (R - E) * 2 ^ 24 ≤ absR E + tiny := by
  have h1 := h.err
  have h2 : tw (-((23 : Nat) : Int) - 1) * 2 ^ 24 = 1 := by decide +kernel
  have h3 : tw (-149 - 1) * 2 ^ 24 = tiny := by decide +kernel
  have h4 := Rat.mul_le_mul_of_nonneg_right h1 (show (0 : Rat) ≤ 2 ^ 24 by decide +kernel)
  rw [Rat.add_mul, h3, Rat.mul_assoc, h2] at h4
  grind
theorem r_rel {E R : Rat} (h : R32 E R) {k : Int} (hk : -126 ≤ k) (hE : tw k ≤ absR E) : ∃ e, R = E * (1 + e) ∧ absR e * 2 ^ 23 ≤ 1 := by
  have h1 := r_er h
  have h2 := tiny_le hk
  refine rel_err (by grind) (fun h0 => ?_)
  subst h0
  have : absR (0 : Rat) = 0 := by decide +kernel
  have := tw_pos k
  grind
theorem r_abs_ge {E R : Rat} (h : R32 E R) {k : Int} (hk : -149 ≤ k) (hE : tw k ≤ absR E) : tw k ≤ absR R := by
  unfold absR at hE
  split at hE
  · have := r_ge_tw h hk hE
    have := tw_pos k
    unfold absR; split <;> grind
  · have := r_le_mtw h hk (by grind)
    have := tw_pos k
    unfold absR; split <;> grind
theorem r_abs_le {E R : Rat} (h : R32 E R) {k : Int} (hk : -149 ≤ k) (hE : absR E ≤ tw k) : absR R ≤ tw k := by
  rw [le_both] at hE ⊢
  exact ⟨r_ge_mtw h hk hE.1, r_le_tw h hk hE.2⟩
theorem mult_ge {x : Rat} {k j : Int} (h : x = j * tw k) (hx : x ≠ 0) : tw k ≤ absR x := by
  have hk := tw_pos k
  have hj : j ≠ 0 := by
    intro h0
    subst h0
    have : ((0 : Int) : Rat) = 0 := rfl
    rw [this] at h
    grind
  rcases Int.lt_or_gt_of_ne hj with h1 | h1
  · have h2 : (j : Rat) ≤ -1 := by
      have := Rat.intCast_le_intCast.2 (show j ≤ -1 by omega)
      exact this
    have := mul_nn (Rat.le_of_lt hk) (show 0 ≤ -1 - (j : Rat) by grind)
    unfold absR; split <;> grind
  · have h2 : (1 : Rat) ≤ j := by
      have := Rat.intCast_le_intCast.2 (show 1 ≤ j by omega)
      exact this
    have := mul_nn (Rat.le_of_lt hk) (show 0 ≤ (j : Rat) - 1 by grind)
    unfold absR; split <;> grind
theorem v_mult {x : Nat} {r : Rat} (h : V32 x r) {k : Int} (hr : tw k ≤ absR r) : ∃ j : Int, r = j * tw (k - 24) := by
  obtain ⟨s, m, e, h1, rfl⟩ := h
  obtain ⟨h2, h3, h4⟩ := read_lt h1
  rw [dv_abs] at hr
  have hle : k - 24 ≤ e := by
    refine Int.not_lt.1 fun hlt => ?_
    have k1 : (m : Rat) + 1 ≤ ((2 ^ 24 : Nat) : Rat) := by
      have : ((m + 1 : Nat) : Rat) ≤ ((2 ^ 24 : Nat) : Rat) := le_nat h2
      push_cast at this ⊢
      exact this
    have k2 : tw k = ((2 ^ 24 : Nat) : Rat) * tw (k - 24) := by rw [← tw_nat, ← tw_add]; congr 1; omega
    have k3 := tw_mono (show e ≤ k - 24 by omega)
    have k4 := tw_pos e
    have k5 := mul_nn (nn_nat m) (show 0 ≤ tw (k - 24) - tw e by grind)
    have k6 := Rat.mul_pos (show 0 < ((2 ^ 24 : Nat) : Rat) - m by grind) (tw_pos (k - 24))
    grind
  have hs : dv s m e = ((if s then -1 else 1) * (m : Int) * ((2 ^ (e - (k - 24)).toNat : Nat) : Int) : Int) * tw (k - 24) := by
    unfold dv
    rw [tw_split hle, Rat.intCast_mul, Rat.intCast_mul, Rat.intCast_natCast, Rat.intCast_natCast]
    cases s <;> simp only [sg, if_true, if_false, Bool.false_eq_true] <;> grind
  exact ⟨_, hs⟩
theorem mult_up {x : Rat} {k l j : Int} (h : x = j * tw k) (hl : l ≤ k) : ∃ i : Int, x = i * tw l :=
  ⟨j * ((2 ^ (k - l).toNat : Nat) : Int), by rw [h, tw_split hl, Rat.intCast_mul, Rat.intCast_natCast]; grind⟩
theorem mult_sub {x y : Rat} {k i j : Int} (hx : x = i * tw k) (hy : y = j * tw k) : ∃ t : Int, x - y = t * tw k :=
  ⟨i - j, by rw [hx, hy, Rat.intCast_sub]; grind⟩
theorem mult_add {x y : Rat} {k i j : Int} (hx : x = i * tw k) (hy : y = j * tw k) : ∃ t : Int, x + y = t * tw k :=
  ⟨i + j, by rw [hx, hy, Rat.intCast_add]; grind⟩
def nq (b e x : Nat) : Option Nat → Nat
  | none => nzF (fop .sub .f32 x e)
  | some q => nzF (fop .sub .f32 (fop .sub .f32 x e) (fop .quo .f32 (fop .mul .f32 b b) q))
def cbF (b e : Nat) : Option Nat → List Nat → Nat
  | _, [] => 0
  | s, x :: xs => (ltB (nq b e x s) 0).toNat + cbF b e (some (nq b e x s)) xs
theorem micro : V32 897988541 (8796093 * tw (-43)) := ⟨false, 8796093, -43, by decide +kernel, by unfold dv; simp only [sg, if_false, Bool.false_eq_true]; have : ((8796093 : Nat) : Rat) = 8796093 := rfl; rw [this]; grind⟩
theorem micro_eq : 8796093 * tw (-43) * 2 ^ 19 ≤ 1 ∧ tw (-40) ≤ 8796093 * tw (-43) := by decide +kernel
theorem nz_v {w : Nat} {W : Rat} (h : V32 w W) : ∃ Q, V32 (nzF w) Q ∧ (if W = 0 then Q = 8796093 * tw (-43) else Q = W) := by
  unfold nzF
  rw [eqB_v h v0]
  by_cases h0 : W = 0
  · rw [decide_eq_true h0]
    exact ⟨_, micro, by rw [if_pos h0]⟩
  · rw [decide_eq_false h0]
    exact ⟨_, h, by rw [if_neg h0]⟩
structure Piv (i : Nat) (q : Nat) (Q σ : Rat) : Prop where
  v : V32 q Q
  lo : tw (-70 - 5 * (i : Int)) ≤ absR Q
  hi : absR Q ≤ tw (70 + 5 * (i : Int))
  s : absR (σ - 1) * 2 ^ 26 ≤ 17 * (i : Rat)
def closeR (c x : Rat) : Prop := absR (c - x) * 2 ^ 18 ≤ absR x + 1
structure Env (b e : Nat) (β E : Rat) : Prop where
  b : V32 (fop .mul .f32 b b) β
  b0 : 1 / 16 ≤ β
  b1 : β ≤ 4
  e : V32 e E
  e1 : absR E ≤ 110
  e2 : ∃ j : Int, E = j * tw (-40)
structure Row (x : Nat) (a : Rat) : Prop where
  v : V32 x a
  a1 : absR a ≤ 8
  a2 : ∃ j : Int, a = j * tw (-40)
theorem diff_v {b e x : Nat} {β E a : Rat} (h : Env b e β E) (r : Row x a) : ∃ X, V32 (fop .sub .f32 x e) X ∧ R32 (a - E) X ∧ absR X ≤ 128 ∧ (X = 0 ∨ tw (-40) ≤ absR X) ∧ absR (X - (a - E)) * 2 ^ 23 ≤ absR (a - E) := by
  have t1 : absR (a - E) ≤ 118 := by have := absR_sub a E; have := h.e1; have := r.a1; grind
  have e7 : tw 7 = 128 := by decide +kernel
  have e127 := tw_mono (show (7 : Int) ≤ 127 by decide)
  obtain ⟨X, x1, x2⟩ := fsub r.v h.e (by grind)
  refine ⟨X, x1, x2, ?_, ?_, ?_⟩
  · have := r_abs_le x2 (k := 7) (by decide) (by grind)
    grind
  · obtain ⟨i, hi⟩ := r.a2
    obtain ⟨j, hj⟩ := h.e2
    obtain ⟨t, ht⟩ := mult_sub hi hj
    by_cases h0 : a - E = 0
    · left
      rw [h0] at x2
      exact r_zero x2
    · right
      exact r_abs_ge x2 (by decide) (mult_ge ht h0)
  · obtain ⟨i, hi⟩ := r.a2
    obtain ⟨j, hj⟩ := h.e2
    obtain ⟨t, ht⟩ := mult_sub hi hj
    by_cases h0 : a - E = 0
    · rw [h0] at x2 ⊢
      rw [r_zero x2]
      decide +kernel
    · have h1 := mult_ge ht h0
      have h2 := r_er x2
      have h3 := tiny_le (show (-126 : Int) ≤ -40 by decide)
      grind
theorem close_of {X x f m : Rat} (hX : absR (X - x) * 2 ^ 23 ≤ absR x) (hf : absR (f - 1) * 2 ^ 26 ≤ 144) (hm : absR m * 2 ^ 19 ≤ 1) : closeR (f * X + f * m) x ∧ closeR (f * X) x := by
  unfold closeR
  have x1 : absR X ≤ absR x + absR (X - x) := by
    have := absR_tri (X - x) x
    rw [show X - x + x = X by grind] at this
    grind
  have p1 : absR ((f - 1) * X) * 2 ^ 26 ≤ 144 * absR X := by
    rw [absR_mul]
    have h1 := Rat.mul_le_mul_of_nonneg_right hf (absR_nn X)
    grind
  have p2 : absR (f * m) * 2 ^ 18 ≤ 1 := by
    rw [absR_mul]
    have h0 : absR f ≤ 2 := by
      have := absR_tri (f - 1) 1
      rw [show f - 1 + 1 = f by grind, show absR (1 : Rat) = 1 by decide +kernel] at this
      grind
    have h1 := Rat.mul_le_mul_of_nonneg_right h0 (absR_nn m)
    grind
  have p3 := absR_nn x
  have e1 : f * X - x = (f - 1) * X + (X - x) := by grind
  have q1 := absR_tri ((f - 1) * X) (X - x)
  rw [← e1] at q1
  have e2 : f * X + f * m - x = (f * X - x) + f * m := by grind
  have q2 := absR_tri (f * X - x) (f * m)
  rw [← e2] at q2
  have p4 := absR_nn (f * m)
  generalize absR (f * X + f * m - x) = A1 at *
  generalize absR (f * X - x) = A2 at *
  generalize absR (f * m) = A3 at *
  generalize absR (X - x) = A4 at *
  generalize absR ((f - 1) * X) = A5 at *
  generalize absR X = A6 at *
  generalize absR x = A7 at *
  clear e1 e2 hf hm
  constructor <;> grind
theorem mul26 {a b : Rat} (ha : absR a * 2 ^ 26 ≤ 160) (hb : absR b * 2 ^ 26 ≤ 160) : absR (a * b) * 2 ^ 26 * 2 ^ 10 ≤ 1 := by
  rw [absR_mul]
  have h1 := absR_nn a
  have h2 := absR_nn b
  generalize absR a = x at *
  generalize absR b = y at *
  have h3 := mul_nn h1 (show 0 ≤ 160 - y * 2 ^ 26 by grind)
  grind
theorem prod2 {a b A B : Rat} (ha : absR a * 2 ^ 26 ≤ A) (hb : absR b * 2 ^ 26 ≤ B) (hA : A ≤ 160) (hB : B ≤ 160) : absR ((1 + a) * (1 + b) - 1) * 2 ^ 26 ≤ A + B + 1 / 1000 := by
  have h1 := mul26 (show absR a * 2 ^ 26 ≤ 160 by grind) (show absR b * 2 ^ 26 ≤ 160 by grind)
  have e : (1 + a) * (1 + b) - 1 = a + b + a * b := by grind
  have q1 := absR_tri (a + b) (a * b)
  have q2 := absR_tri a b
  rw [e]
  generalize absR (a + b + a * b) = X at *
  generalize absR (a + b) = Y at *
  generalize absR (a * b) = Z at *
  grind
theorem inv1 {P c : Rat} (h : absR (P - 1) * 2 ^ 26 ≤ c) (hc : c ≤ 160) : P ≠ 0 ∧ 0 < P ∧ absR (1 / P - 1) * 2 ^ 26 ≤ c + 1 / 100 := by
  have h0 : absR (P - 1) ≤ 1 / 2 := by grind
  rw [le_both] at h0
  have hP : P ≠ 0 := by grind
  refine ⟨hP, by grind, ?_⟩
  have h1 : absR (1 / P - 1) * absR P = absR (P - 1) := by
    rw [← absR_mul, ← absR_neg]
    congr 1
    grind
  have h2 : absR P = P := absR_of_nn (by grind)
  rw [h2] at h1
  have h3 := absR_nn (1 / P - 1)
  have hd : 1 - absR (P - 1) ≤ P := by have := Rat.le_refl (a := absR (P - 1)); rw [le_both] at this; grind
  have h4 := absR_nn (P - 1)
  generalize absR (1 / P - 1) = y at *
  generalize absR (P - 1) = d at *
  have k1 := mul_nn h3 (show 0 ≤ P - (1 - d) by grind)
  have k0 := mul_nn h3 (show 0 ≤ 1 / 2 - d by grind)
  have k2 : y ≤ 2 * d := by grind
  have k3 := mul_nn h4 (show 0 ≤ 2 * d - y by grind)
  have k4 := mul_nn h4 (show 0 ≤ 160 - d * 2 ^ 26 by grind)
  grind
theorem piv_first {b e x : Nat} {β E a : Rat} (h : Env b e β E) (r : Row x a) : ∃ Q, Piv 1 (nq b e x none) Q 1 ∧ Q ≠ 0 ∧ closeR Q (a - E) := by
  obtain ⟨X, x1, x2, x3, x4, x5⟩ := diff_v h r
  obtain ⟨Q, q1, q2⟩ := nz_v x1
  have e75 := tw_mono (show (7 : Int) ≤ 75 by decide)
  have e7 : tw 7 = 128 := by decide +kernel
  have e40 := tw_mono (show (-75 : Int) ≤ -40 by decide)
  have hm := micro_eq
  have p75 := tw_pos (-75)
  have s0 : absR ((1 : Rat) - 1) * 2 ^ 26 ≤ 17 * ((1 : Nat) : Rat) := by decide +kernel
  have c0 := close_of (f := 1) (m := 8796093 * tw (-43)) x5 (by decide +kernel) (by decide +kernel)
  by_cases h0 : X = 0
  · rw [if_pos h0] at q2
    have qa : absR Q = Q := absR_of_nn (by rw [q2]; grind)
    refine ⟨Q, ⟨q1, ?_, ?_, s0⟩, by grind, ?_⟩
    · show tw (-75) ≤ _; grind
    · show _ ≤ tw 75; grind
    · have := c0.1
      rw [h0, show (1 : Rat) * 0 + 1 * (8796093 * tw (-43)) = Q by grind] at this
      exact this
  · rw [if_neg h0] at q2
    subst q2
    have x4 := x4.resolve_left h0
    refine ⟨Q, ⟨q1, ?_, ?_, s0⟩, h0, ?_⟩
    · show tw (-75) ≤ _; grind
    · show _ ≤ tw 75; grind
    · have := c0.2
      rw [show (1 : Rat) * Q = Q by grind] at this
      exact this
theorem gran {x y : Nat} {X Y : Rat} (hx : V32 x X) (hy : V32 y Y) (hX : X = 0 ∨ tw (-40) ≤ absR X) {k : Int} (hk : k ≤ -75) (hY : tw k ≤ absR Y) (hne : X - Y ≠ 0) : tw k ≤ absR (X - Y) := by
  by_cases h1 : tw (-42) ≤ absR Y
  · obtain ⟨j, hj⟩ := v_mult hy h1
    have hXm : ∃ i : Int, X = i * tw (-42 - 24) := by
      rcases hX with h | h
      · exact ⟨0, by rw [h]; have : ((0 : Int) : Rat) = 0 := rfl; rw [this]; grind⟩
      · obtain ⟨i, hi⟩ := v_mult hx h
        exact mult_up hi (by decide)
    obtain ⟨i, hi⟩ := hXm
    obtain ⟨t, ht⟩ := mult_sub hi hj
    have := mult_ge ht hne
    have := tw_mono (show k ≤ -42 - 24 by omega)
    grind
  · rcases hX with h | h
    · rw [h, show (0 : Rat) - Y = -Y by grind, absR_neg]
      exact hY
    · have h2 := absR_tri (X - Y) Y
      rw [show X - Y + Y = X by grind] at h2
      have h3 : tw (-40) = 2 * tw (-41) := by decide +kernel
      have h4 : tw (-41) = 2 * tw (-42) := by decide +kernel
      have h5 := tw_mono (show k ≤ -42 by omega)
      have h6 := tw_pos (-42)
      grind
theorem piv_step {b e x q i : Nat} {β E a Q σ : Rat} (h : Env b e β E) (r : Row x a) (hp : Piv i q Q σ) (hi : i ≤ 7) : ∃ Q' σ' c, Piv (i + 1) (nq b e x (some q)) Q' σ' ∧ Q' ≠ 0 ∧ 0 < σ' ∧ 0 < σ ∧ σ' * Q' = c - β / (σ * Q) ∧ closeR c (a - E) := by
  obtain ⟨X, x1, x2, x3, x4, x5⟩ := diff_v h r
  obtain ⟨p1, p2, p3, p4⟩ := hp
  have hir : (i : Rat) ≤ 7 := le_nat hi
  obtain ⟨b0, b1⟩ := And.intro h.b0 h.b1
  have hQ0 : Q ≠ 0 := by
    intro h0
    subst h0
    have : absR (0 : Rat) = 0 := by decide +kernel
    have := tw_pos (-70 - 5 * (i : Int))
    grind
  have hQp := absR_pos hQ0
  have hq := absR_div (x := β) hQ0
  have hbb : absR β = β := absR_of_nn (by grind)
  rw [hbb] at hq
  have t0 : tw (70 + 5 * (i : Int)) * tw (-70 - 5 * (i : Int)) = 1 := by rw [← tw_add, show (70 + 5 * (i : Int)) + (-70 - 5 * (i : Int)) = 0 by omega]; decide +kernel
  have u1 := tw_pos (70 + 5 * (i : Int))
  have u2 := tw_pos (-70 - 5 * (i : Int))
  have hyhi : absR (β / Q) ≤ 4 * tw (70 + 5 * (i : Int)) := by
    refine mul_cancel (c := absR Q) ?_ hQp
    rw [hq]
    have := mul_nn (Rat.le_of_lt u1) (show 0 ≤ absR Q - tw (-70 - 5 * (i : Int)) by grind)
    grind
  have hylo : tw (-74 - 5 * (i : Int)) ≤ absR (β / Q) := by
    refine mul_cancel (c := absR Q) ?_ hQp
    rw [hq]
    have e1 : tw (-74 - 5 * (i : Int)) = tw (-4) * tw (-70 - 5 * (i : Int)) := by rw [← tw_add]; congr 1; omega
    have e2 : tw (-4) = 1 / 16 := by decide +kernel
    rw [e1, e2]
    have := mul_nn (Rat.le_of_lt u2) (show 0 ≤ tw (70 + 5 * (i : Int)) - absR Q by grind)
    grind
  have h4t : 4 * tw (70 + 5 * (i : Int)) = tw (72 + 5 * (i : Int)) := by
    rw [show (4 : Rat) = tw 2 by decide +kernel, ← tw_add]
    congr 1
    omega
  obtain ⟨Y, y1, y2⟩ := fdiv h.b p1 hQ0 (by
    have := tw_mono (show 72 + 5 * (i : Int) ≤ 126 by omega)
    have e : tw 127 = 2 * tw 126 := by decide +kernel
    have := tw_pos 126
    grind)
  obtain ⟨e2, y3, y4⟩ := r_rel y2 (by omega) hylo
  have hYlo := r_abs_ge y2 (by omega) hylo
  have hYhi : absR Y ≤ tw (72 + 5 * (i : Int)) := r_abs_le y2 (by omega) (by grind)
  have hXY : absR (X - Y) ≤ tw (73 + 5 * (i : Int)) := by
    have k1 := absR_sub X Y
    have k2 := tw_mono (show 7 ≤ 72 + 5 * (i : Int) by omega)
    have e7 : tw 7 = 128 := by decide +kernel
    have k3 : tw (73 + 5 * (i : Int)) = 2 * tw (72 + 5 * (i : Int)) := by
      rw [show (2 : Rat) = tw 1 by decide +kernel, ← tw_add]
      congr 1
      omega
    grind
  obtain ⟨W, w1, w2⟩ := fsub x1 y1 (by
    have := tw_mono (show 73 + 5 * (i : Int) ≤ 126 by omega)
    have e : tw 127 = 2 * tw 126 := by decide +kernel
    have := tw_pos 126
    grind)
  have hWhi : absR W ≤ tw (73 + 5 * (i : Int)) := r_abs_le w2 (by omega) hXY
  obtain ⟨Q', q1, q2⟩ := nz_v w1
  have e3eq : (70 : Int) + 5 * ((i + 1 : Nat) : Int) = 75 + 5 * (i : Int) := by omega
  have e4eq : (-70 : Int) - 5 * ((i + 1 : Nat) : Int) = -75 - 5 * (i : Int) := by omega
  have hhi : tw (73 + 5 * (i : Int)) ≤ tw (75 + 5 * (i : Int)) := tw_mono (by omega)
  have hcast : ((i + 1 : Nat) : Rat) = i + 1 := by push_cast; rfl
  have y4' : absR e2 * 2 ^ 26 ≤ 8 := by grind
  have hm := micro_eq
  by_cases h0 : W = 0
  · rw [if_pos h0] at q2
    have hz : X - Y = 0 := by
      refine Classical.byContradiction fun hne => ?_
      have := r_abs_ge w2 (k := -75 - 5 * (i : Int)) (by omega) (gran x1 y1 x4 (by omega) (Rat.le_trans (tw_mono (by omega)) hYlo) hne)
      rw [h0] at this
      have e0 : absR (0 : Rat) = 0 := by decide +kernel
      have := tw_pos (-75 - 5 * (i : Int))
      grind
    have s1 := prod2 (a := e2) (b := σ - 1) y4' p4 (by decide +kernel) (by grind)
    rw [show (1 + e2) * (1 + (σ - 1)) = (1 + e2) * σ by grind] at s1
    obtain ⟨i1, i2, i3⟩ := inv1 (P := (1 + e2) * σ) s1 (by grind)
    have hσ : 0 < σ := by
      have : absR (σ - 1) ≤ 1 / 2 := by grind
      rw [le_both] at this
      grind
    have h1e : 1 + e2 ≠ 0 := by intro h; rw [h] at i1; grind
    refine ⟨Q', 1 / ((1 + e2) * σ), 1 / ((1 + e2) * σ) * X + 1 / ((1 + e2) * σ) * Q', ⟨q1, ?_, ?_, ?_⟩, ?_, div_pos' (by decide +kernel) i2, hσ, ?_, ?_⟩
    · rw [e4eq]
      have := tw_mono (show -75 - 5 * (i : Int) ≤ -40 by omega)
      rw [absR_of_nn (by rw [q2]; have := tw_pos (-40); grind)]
      grind
    · rw [e3eq]
      have := tw_mono (show 7 ≤ 75 + 5 * (i : Int) by omega)
      have e7 : tw 7 = 128 := by decide +kernel
      rw [absR_of_nn (by rw [q2]; have := tw_pos (-40); grind)]
      grind
    · rw [hcast]
      grind
    · have := tw_pos (-40)
      grind
    · have hX : X = β / Q * (1 + e2) := by grind
      rw [hX]
      have hσ0 : σ ≠ 0 := by grind
      grind
    · refine (close_of x5 ?_ ?_).1
      · grind
      · rw [absR_of_nn (by rw [q2]; have := tw_pos (-40); grind)]
        grind
  · rw [if_neg h0] at q2
    subst q2
    have hne : X - Y ≠ 0 := by
      intro hz
      rw [hz] at w2
      exact h0 (r_zero w2)
    have hg := gran x1 y1 x4 (k := -75 - 5 * (i : Int)) (by omega) (Rat.le_trans (tw_mono (by omega)) hYlo) hne
    obtain ⟨e3, w3, w4⟩ := r_rel w2 (by omega) hg
    have w4' : absR e3 * 2 ^ 26 ≤ 8 := by grind
    have s1 := prod2 (a := e2) (b := σ - 1) y4' p4 (by decide +kernel) (by grind)
    rw [show (1 + e2) * (1 + (σ - 1)) = (1 + e2) * σ by grind] at s1
    obtain ⟨i1, i2, i3⟩ := inv1 (P := (1 + e2) * σ) s1 (by grind)
    have s2 := prod2 (a := e3) (b := (1 + e2) * σ - 1) w4' s1 (by decide +kernel) (by grind)
    rw [show (1 + e3) * (1 + ((1 + e2) * σ - 1)) = (1 + e3) * ((1 + e2) * σ) by grind] at s2
    obtain ⟨j1, j2, j3⟩ := inv1 (P := (1 + e3) * ((1 + e2) * σ)) s2 (by grind)
    have hσ : 0 < σ := by
      have : absR (σ - 1) ≤ 1 / 2 := by grind
      rw [le_both] at this
      grind
    have h1e : 1 + e2 ≠ 0 := by intro h; rw [h] at i1; grind
    have h2e : 1 + e3 ≠ 0 := by intro h; rw [h] at j1; grind
    refine ⟨Q', 1 / ((1 + e3) * ((1 + e2) * σ)), 1 / ((1 + e2) * σ) * X, ⟨q1, ?_, ?_, ?_⟩, h0, div_pos' (by decide +kernel) j2, hσ, ?_, ?_⟩
    · rw [e4eq]
      exact r_abs_ge w2 (by omega) hg
    · rw [e3eq]
      grind
    · rw [hcast]
      grind
    · have hσ0 : σ ≠ 0 := by grind
      rw [w3, y3]
      grind
    · exact (close_of (m := 0) x5 (by grind) (by decide +kernel)).2
end Go.Proofs.Ytpeplbbphpamhaa.Ab

namespace Go.Proofs.Ytpeplbbphpamhaa.Ab
set_option linter.unusedVariables false
set_option linter.unusedSimpArgs false
open Go
def Rows : List Nat → List Rat → Prop
  | [], [] => True
  | x :: xs, a :: ar => Row x a ∧ Rows xs ar
  | _, _ => False
def closeL (E : Rat) : List Rat → List Rat → Prop
  | [], [] => True
  | c :: cs, a :: ar => closeR c (a - E) ∧ closeL E cs ar
  | _, _ => False
theorem sgn_lt {q : Nat} {Q σ : Rat} (h : V32 q Q) (hσ : 0 < σ) : ltB q 0 = ngv (some (σ * Q)) := by
  rw [ltB_v h v0]
  unfold ngv
  congr 1
  refine propext ⟨fun h => ?_, fun h => ?_⟩
  · have := Rat.mul_pos hσ (show 0 < -Q by grind); grind
  · refine Rat.not_le.1 fun h1 => ?_
    have := mul_nn (Rat.le_of_lt hσ) h1; grind
theorem cb_cnt {b e : Nat} {β E : Rat} (h : Env b e β E) : ∀ (l : List Nat) (ar : List Rat) (i q : Nat) (Q σ : Rat), Rows l ar → i + l.length ≤ 8 → Piv i q Q σ → Q ≠ 0 → 0 < σ →
    ∃ cs, closeL E cs ar ∧ cbF b e (some q) l = cnt β (some (σ * Q)) cs
  | [], [], i, q, Q, σ, _, _, _, _, _ => ⟨[], trivial, rfl⟩
  | x :: xs, a :: ar, i, q, Q, σ, hr, hi, hp, hQ, hσ => by
    rw [List.length_cons] at hi
    obtain ⟨Q', σ', c, k1, k2, k3, k4, k5, k6⟩ := piv_step h hr.1 hp (by omega)
    obtain ⟨cs, g1, g2⟩ := cb_cnt h xs ar (i + 1) (nq b e x (some q)) Q' σ' hr.2 (by omega) k1 k2 k3
    refine ⟨c :: cs, ⟨k6, g1⟩, ?_⟩
    have hne : σ * Q ≠ 0 := by
      intro h0
      rcases Rat.mul_eq_zero.1 h0 with h | h
      · grind
      · exact hQ h
    have hs : stp β c (some (σ * Q)) = some (σ' * Q') := by
      show (if σ * Q = 0 then none else some (c - β / (σ * Q))) = _
      rw [if_neg hne, k5]
    unfold cbF cnt
    rw [hs, ← sgn_lt k1.v k3, g2]
theorem cb_cnt0 {b e : Nat} {β E : Rat} (h : Env b e β E) {l : List Nat} {ar : List Rat} (hr : Rows l ar) (hl : l.length ≤ 8) : ∃ cs, closeL E cs ar ∧ cbF b e none l = cnt β none cs := by
  cases l with
  | nil =>
    cases ar with
    | nil => exact ⟨[], trivial, rfl⟩
    | cons a ar => exact hr.elim
  | cons x xs =>
    cases ar with
    | nil => exact hr.elim
    | cons a ar =>
      rw [List.length_cons] at hl
      obtain ⟨Q, k1, k2, k3⟩ := piv_first h hr.1
      obtain ⟨cs, g1, g2⟩ := cb_cnt h xs ar 1 (nq b e x none) Q 1 hr.2 (by omega) k1 k2 (by decide +kernel)
      refine ⟨Q :: cs, ⟨k3, g1⟩, ?_⟩
      unfold cbF cnt
      rw [g2, sgn_lt k1.v (show (0 : Rat) < 1 by decide +kernel)]
      rw [show (1 : Rat) * Q = Q by grind]
      rfl
theorem rows_len : ∀ {l : List Nat} {ar : List Rat}, Rows l ar → l.length = ar.length
  | [], [], _ => rfl
  | x :: xs, a :: ar, h => by rw [List.length_cons, List.length_cons, rows_len h.2]
def mg : Rat := 1 / 2 ^ 14
theorem close_le {E e : Rat} : ∀ {cs ar : List Rat}, closeL E cs ar → (∀ a ∈ ar, absR (a - E) ≤ 15) → E + mg ≤ e → leL (sh ar e) cs
  | [], [], _, _, _ => trivial
  | c :: cs, a :: ar, h, ha, he => by
    refine ⟨?_, close_le h.2 (fun x hx => ha x (List.mem_cons_of_mem _ hx)) he⟩
    have h1 := h.1
    have h2 := ha a (List.mem_cons_self ..)
    unfold closeR at h1
    have h3 : absR (c - (a - E)) ≤ mg := by unfold mg; grind
    rw [le_both] at h3
    show a - e ≤ c
    grind
theorem close_ge {E e : Rat} : ∀ {cs ar : List Rat}, closeL E cs ar → (∀ a ∈ ar, absR (a - E) ≤ 15) → e ≤ E - mg → leL cs (sh ar e)
  | [], [], _, _, _ => trivial
  | c :: cs, a :: ar, h, ha, he => by
    refine ⟨?_, close_ge h.2 (fun x hx => ha x (List.mem_cons_of_mem _ hx)) he⟩
    have h1 := h.1
    have h2 := ha a (List.mem_cons_self ..)
    unfold closeR at h1
    have h3 : absR (c - (a - E)) ≤ mg := by unfold mg; grind
    rw [le_both] at h3
    show c ≤ a - e
    grind
theorem cb_le {b e : Nat} {β E f : Rat} (h : Env b e β E) {l : List Nat} {ar : List Rat} (hr : Rows l ar) (hl : l.length ≤ 8) (ha : ∀ a ∈ ar, absR (a - E) ≤ 15) (hf : E + mg ≤ f) : cbF b e none l ≤ cn β ar f := by
  obtain ⟨cs, g1, g2⟩ := cb_cnt0 h hr hl
  rw [g2]
  exact cnt_mono (by have := h.b0; grind) (close_le g1 ha hf)
theorem cb_ge {b e : Nat} {β E f : Rat} (h : Env b e β E) {l : List Nat} {ar : List Rat} (hr : Rows l ar) (hl : l.length ≤ 8) (ha : ∀ a ∈ ar, absR (a - E) ≤ 15) (hf : f ≤ E - mg) : cn β ar f ≤ cbF b e none l := by
  obtain ⟨cs, g1, g2⟩ := cb_cnt0 h hr hl
  rw [g2]
  exact cnt_mono (by have := h.b0; grind) (close_ge g1 ha hf)
theorem cnt_none {β g : Rat} (hg : 0 < g) (hβ : β ≤ g * g) (hβ0 : 0 < β) : ∀ (cs : List Rat) (s : Pv), (s = none ∨ ∃ d, s = some d ∧ g ≤ d) → (∀ c ∈ cs, 2 * g ≤ c) → cnt β s cs = 0
  | [], _, _, _ => rfl
  | c :: cs, s, hs, hc => by
    have hc1 := hc c (List.mem_cons_self ..)
    have hstep : ∃ d, stp β c s = some d ∧ g ≤ d := by
      rcases hs with rfl | ⟨d, rfl, hd⟩
      · exact ⟨c, rfl, by grind⟩
      · refine ⟨c - β / d, by show (if d = 0 then none else some (c - β / d)) = _; rw [if_neg (by grind)], ?_⟩
        have h1 : β / d * d = β := by grind
        have h2 : β / d ≤ g := by
          refine mul_cancel (c := d) ?_ (by grind)
          rw [h1]
          have := mul_nn (Rat.le_of_lt hg) (show 0 ≤ d - g by grind)
          grind
        grind
    obtain ⟨d, h1, h2⟩ := hstep
    unfold cnt
    rw [h1, cnt_none hg hβ hβ0 cs (some d) (.inr ⟨d, rfl, h2⟩) (fun x hx => hc x (List.mem_cons_of_mem _ hx))]
    have : ¬ d < 0 := by grind
    simp [ngv, this]
theorem cnt_all {β g : Rat} (hg : 0 < g) (hβ : β ≤ g * g) (hβ0 : 0 < β) : ∀ (cs : List Rat) (s : Pv), (s = none ∨ ∃ d, s = some d ∧ d ≤ -g) → (∀ c ∈ cs, c ≤ -(2 * g)) → cnt β s cs = cs.length
  | [], _, _, _ => rfl
  | c :: cs, s, hs, hc => by
    have hc1 := hc c (List.mem_cons_self ..)
    have hstep : ∃ d, stp β c s = some d ∧ d ≤ -g := by
      rcases hs with rfl | ⟨d, rfl, hd⟩
      · exact ⟨c, rfl, by grind⟩
      · refine ⟨c - β / d, by show (if d = 0 then none else some (c - β / d)) = _; rw [if_neg (by grind)], ?_⟩
        have h1 : β / d * d = β := by grind
        have h2 : -g ≤ β / d := by
          have h3 : (-(β / d)) * (-d) ≤ g * (-d) := by
            have := mul_nn (Rat.le_of_lt hg) (show 0 ≤ -d - g by grind)
            grind
          have := mul_cancel h3 (by grind)
          grind
        grind
    obtain ⟨d, h1, h2⟩ := hstep
    unfold cnt
    rw [h1, cnt_all hg hβ hβ0 cs (some d) (.inr ⟨d, rfl, h2⟩) (fun x hx => hc x (List.mem_cons_of_mem _ hx))]
    have : d < 0 := by grind
    simp [ngv, this]
    omega
theorem close_far {E : Rat} : ∀ {cs ar : List Rat}, closeL E cs ar → cs.length = ar.length ∧ ∀ c ∈ cs, ∃ a ∈ ar, closeR c (a - E)
  | [], [], _ => ⟨rfl, fun c hc => by cases hc⟩
  | c :: cs, a :: ar, h => by
    obtain ⟨h1, h2⟩ := close_far h.2
    refine ⟨by rw [List.length_cons, List.length_cons, h1], fun x hx => ?_⟩
    rcases List.mem_cons.1 hx with rfl | hx
    · exact ⟨a, List.mem_cons_self .., h.1⟩
    · obtain ⟨y, hy, hc⟩ := h2 x hx
      exact ⟨y, List.mem_cons_of_mem _ hy, hc⟩
theorem cb_none {b e : Nat} {β : Rat} (h : Env b e β (-100)) {l : List Nat} {ar : List Rat} (hr : Rows l ar) (hl : l.length ≤ 8) (ha : ∀ a ∈ ar, absR a ≤ 8) : cbF b e none l = 0 := by
  obtain ⟨cs, g1, g2⟩ := cb_cnt0 h hr hl
  rw [g2]
  have b0 := h.b0
  have b1 := h.b1
  refine cnt_none (g := 2) (by decide +kernel) (by grind) (by grind) cs none (.inl rfl) fun c hc => ?_
  obtain ⟨a, h1, h2⟩ := (close_far g1).2 c hc
  have h3 := ha a h1
  unfold closeR at h2
  have h4 : absR (a - -100) ≤ 108 := by rw [le_both] at h3 ⊢; grind
  have h5 : absR (c - (a - -100)) ≤ 1 := by grind
  rw [le_both] at h3 h5
  grind
theorem cb_all {b e : Nat} {β : Rat} (h : Env b e β 100) {l : List Nat} {ar : List Rat} (hr : Rows l ar) (hl : l.length ≤ 8) (ha : ∀ a ∈ ar, absR a ≤ 8) : cbF b e none l = l.length := by
  obtain ⟨cs, g1, g2⟩ := cb_cnt0 h hr hl
  rw [g2]
  have b0 := h.b0
  have b1 := h.b1
  rw [cnt_all (g := 2) (by decide +kernel) (by grind) (by grind) cs none (.inl rfl), (close_far g1).1, rows_len hr]
  intro c hc
  obtain ⟨a, h1, h2⟩ := (close_far g1).2 c hc
  have h3 := ha a h1
  unfold closeR at h2
  have h4 : absR (a - 100) ≤ 108 := by rw [le_both] at h3 ⊢; grind
  have h5 : absR (c - (a - 100)) ≤ 1 := by grind
  rw [le_both] at h3 h5
  grind
def mdF (lo hi : Nat) : Nat := fop .mul .f32 1056964608 (fop .add .f32 lo hi)
def bisF (b : Nat) (l : List Nat) (k : Nat) : Nat → Nat → Nat → Nat
  | 0, _, hi => hi
  | t + 1, lo, hi => match decide (k < cbF b (mdF lo hi) none l) with
    | true => bisF b l k t lo (mdF lo hi)
    | false => bisF b l k t (mdF lo hi) hi
theorem half_v : V32 1056964608 (1 / 2) := ⟨false, 8388608, -24, by decide +kernel, by decide +kernel⟩
theorem v_dbl {x : Nat} {r : Rat} (h : V32 x r) : ∃ s m e, m < 16777216 ∧ -149 ≤ e ∧ r + r = dv s m e := by
  obtain ⟨s, m, e, h1, rfl⟩ := h
  obtain ⟨h2, h3, _⟩ := read_lt h1
  refine ⟨s, m, e + 1, h2, by omega, ?_⟩
  unfold dv
  rw [tw_add, show tw 1 = 2 by decide +kernel]
  grind
theorem mid_v {lo hi : Nat} {L H : Rat} (hl : V32 lo L) (hh : V32 hi H) (h : L ≤ H) (hL : -16 ≤ L) (hH : H ≤ 16) {k : Int} (ml : ∃ j : Int, L = j * tw k) (mh : ∃ j : Int, H = j * tw k) :
    ∃ M, V32 (mdF lo hi) M ∧ L ≤ M ∧ M ≤ H ∧ absR (M - (L + H) / 2) * 2 ^ 18 ≤ 1 ∧ ∃ j : Int, M = j * tw (k - 1) := by
  have hs : absR (L + H) ≤ 32 := by rw [le_both]; grind
  have e5 : tw 5 = 32 := by decide +kernel
  have e127 := tw_mono (show (5 : Int) ≤ 126 by decide)
  have e126 : tw 127 = 2 * tw 126 := by decide +kernel
  have p126 := tw_pos 126
  obtain ⟨S, s1, s2⟩ := fadd hl hh (by grind)
  have s3 := r_er s2
  have s4 := r_abs_le s2 (k := 5) (by decide) (by grind)
  obtain ⟨s, m, e, d1, d2, d3⟩ := v_dbl hl
  have s5 := s2.lo s m e (by omega) d2 (by grind)
  rw [← d3] at s5
  obtain ⟨s', m', e', d1', d2', d3'⟩ := v_dbl hh
  have s6 := s2.hi s' m' e' (by omega) d2' (by grind)
  rw [← d3'] at s6
  have hE : absR (1 / 2 * S) ≤ 16 := by rw [le_both] at s4 ⊢; grind
  obtain ⟨M, m1, m2⟩ := fmul half_v s1 (by grind)
  have m3 := r_er m2
  have ht := tiny_le (show (-126 : Int) ≤ 0 by decide)
  have e0 : tw 0 = 1 := by decide +kernel
  refine ⟨M, m1, r_lo m2 hl (by grind), r_hi m2 hh (by grind), ?_, ?_⟩
  · have e : M - (L + H) / 2 = (M - 1 / 2 * S) + 1 / 2 * (S - (L + H)) := by grind
    have q1 := absR_tri (M - 1 / 2 * S) (1 / 2 * (S - (L + H)))
    have q2 : absR (1 / 2 * (S - (L + H))) * 2 = absR (S - (L + H)) := by
      rw [absR_mul, show absR (1 / 2 : Rat) = 1 / 2 by decide +kernel]
      grind
    rw [e]
    generalize absR (M - 1 / 2 * S + 1 / 2 * (S - (L + H))) = A1 at *
    generalize absR (M - 1 / 2 * S) = A2 at *
    generalize absR (1 / 2 * (S - (L + H))) = A3 at *
    generalize absR (S - (L + H)) = A4 at *
    generalize absR (L + H) = A5 at *
    generalize absR (1 / 2 * S) = A6 at *
    clear s4 e127 e126 p126 e5 s5 s6 d3 d3' e
    grind
  · obtain ⟨i, hi'⟩ := ml
    obtain ⟨j, hj⟩ := mh
    obtain ⟨t, ht'⟩ := mult_add hi' hj
    obtain ⟨u, hu⟩ := s2.mul k t ht'
    refine m2.mul (k - 1) u ?_
    have := tw_add (k - 1) 1
    rw [show k - 1 + 1 = k by omega, show tw 1 = 2 by decide +kernel] at this
    rw [hu, this]
    grind
structure Found (β : Rat) (ar : List Rat) (k t : Nat) (w : Nat) (L H r : Rat) : Prop where
  v : V32 w r
  lo : L ≤ r
  hi : r ≤ H
  below : ∃ x, x ≤ r ∧ (r - x) * ((2 ^ t : Nat) : Rat) ≤ (H - L) + (((2 ^ t : Nat) : Rat) - 1) * (1 / 2 ^ 17) ∧ cn β ar (x - mg) ≤ k
  above : k + 1 ≤ cn β ar (r + mg)
  mult : ∃ j : Int, r = j * tw (-40)
theorem bis_found {b : Nat} {β : Rat} {l : List Nat} {ar : List Rat} {k : Nat} (hb : V32 (fop .mul .f32 b b) β) (b0 : 1 / 16 ≤ β) (b1 : β ≤ 4) (hr : Rows l ar) (hl : l.length ≤ 8) (ha : ∀ a ∈ ar, -2 ≤ a ∧ a ≤ 6) :
    ∀ (t lo hi : Nat) (L H : Rat) (s : Nat), s + t = 40 → V32 lo L → V32 hi H → L ≤ H → -8 ≤ L → H ≤ 12 → (∃ j : Int, L = j * tw (-(s : Int))) → (∃ j : Int, H = j * tw (-(s : Int))) → cn β ar (L - mg) ≤ k → k + 1 ≤ cn β ar (H + mg) →
    ∃ r, Found β ar k t (bisF b l k t lo hi) L H r
  | 0, lo, hi, L, H, s, hs, hL, hH, hLH, h8, h12, ml, mh, hbel, habv => by
    have e : s = 40 := by omega
    subst e
    refine ⟨H, hH, hLH, Rat.le_refl, ⟨L, hLH, ?_, hbel⟩, habv, mh⟩
    have : ((2 ^ 0 : Nat) : Rat) = 1 := rfl
    rw [this]
    grind
  | t + 1, lo, hi, L, H, s, hs, hL, hH, hLH, h8, h12, ml, mh, hbel, habv => by
    obtain ⟨M, m1, m2, m3, m4, m5⟩ := mid_v hL hH hLH (by grind) (by grind) ml mh
    have e1 : -(s : Int) - 1 = -((s + 1 : Nat) : Int) := by omega
    rw [e1] at m5
    have up : ∀ x : Rat, (∃ j : Int, x = j * tw (-(s : Int))) → ∃ j : Int, x = j * tw (-((s + 1 : Nat) : Int)) := fun x ⟨j, hj⟩ => mult_up hj (by omega)
    have hm40 : ∃ j : Int, M = j * tw (-40) := by obtain ⟨j, hj⟩ := m5; exact mult_up hj (by omega)
    have henv : Env b (mdF lo hi) β M := ⟨hb, b0, b1, m1, by rw [le_both]; grind, hm40⟩
    have hnear : ∀ a ∈ ar, absR (a - M) ≤ 15 := by
      intro a h
      have := ha a h
      rw [le_both]
      grind
    have c1 := cb_le henv hr hl hnear (f := M + mg) Rat.le_refl
    have c2 := cb_ge henv hr hl hnear (f := M - mg) Rat.le_refl
    have hP : ((2 ^ (t + 1) : Nat) : Rat) = 2 * ((2 ^ t : Nat) : Rat) := by rw [Nat.pow_succ, Rat.natCast_mul]; grind
    have hwid : absR (M - (L + H) / 2) ≤ 1 / 2 ^ 18 := by grind
    rw [le_both] at hwid
    unfold bisF
    cases hd : decide (k < cbF b (mdF lo hi) none l) with
    | true =>
      have hd := of_decide_eq_true hd
      obtain ⟨r, f⟩ := bis_found hb b0 b1 hr hl ha t lo (mdF lo hi) L M (s + 1) (by omega) hL m1 m2 h8 (by grind) (up L ml) m5 hbel (by omega)
      obtain ⟨x, x1, x2, x3⟩ := f.below
      refine ⟨r, f.v, f.lo, by have := f.hi; grind, ⟨x, x1, ?_, x3⟩, f.above, f.mult⟩
      rw [hP]
      generalize ((2 ^ t : Nat) : Rat) = P at *
      grind
    | false =>
      have hd := of_decide_eq_false hd
      obtain ⟨r, f⟩ := bis_found hb b0 b1 hr hl ha t (mdF lo hi) hi M H (s + 1) (by omega) m1 hH m3 (by grind) h12 m5 (up H mh) (by omega) habv
      obtain ⟨x, x1, x2, x3⟩ := f.below
      refine ⟨r, f.v, by have := f.lo; grind, f.hi, ⟨x, x1, ?_, x3⟩, f.above, f.mult⟩
      rw [hP]
      generalize ((2 ^ t : Nat) : Rat) = P at *
      grind
theorem v_uniq {f : Ieee.Format} {x : Nat} {r s : Rat} (h : Vw f x r) (k : Vw f x s) : r = s := by
  obtain ⟨a, b, c, h1, rfl⟩ := h
  obtain ⟨a', b', c', h2, rfl⟩ := k
  rw [h1] at h2
  cases h2
  rfl
theorem bis_mono {b : Nat} {l : List Nat} {k k' : Nat} (hk : k ≤ k') : ∀ (t lo hi : Nat) (L H : Rat) (s : Nat), s + t = 40 → V32 lo L → V32 hi H → L ≤ H → -8 ≤ L → H ≤ 12 → (∃ j : Int, L = j * tw (-(s : Int))) → (∃ j : Int, H = j * tw (-(s : Int))) →
    ∃ r r', V32 (bisF b l k t lo hi) r ∧ V32 (bisF b l k' t lo hi) r' ∧ r ≤ r' ∧ L ≤ r ∧ r' ≤ H
  | 0, lo, hi, L, H, s, hs, hL, hH, hLH, h8, h12, ml, mh => ⟨H, H, hH, hH, Rat.le_refl, hLH, Rat.le_refl⟩
  | t + 1, lo, hi, L, H, s, hs, hL, hH, hLH, h8, h12, ml, mh => by
    obtain ⟨M, m1, m2, m3, m4, m5⟩ := mid_v hL hH hLH (by grind) (by grind) ml mh
    have e1 : -(s : Int) - 1 = -((s + 1 : Nat) : Int) := by omega
    rw [e1] at m5
    have up : ∀ x : Rat, (∃ j : Int, x = j * tw (-(s : Int))) → ∃ j : Int, x = j * tw (-((s + 1 : Nat) : Int)) := fun x ⟨j, hj⟩ => mult_up hj (by omega)
    have left := fun q q' (hq : q ≤ q') => bis_mono (b := b) (l := l) hq t lo (mdF lo hi) L M (s + 1) (by omega) hL m1 m2 h8 (by grind) (up L ml) m5
    have right := fun q q' (hq : q ≤ q') => bis_mono (b := b) (l := l) hq t (mdF lo hi) hi M H (s + 1) (by omega) m1 hH m3 (by grind) h12 m5 (up H mh)
    unfold bisF
    cases hd : decide (k < cbF b (mdF lo hi) none l) with
    | true =>
      cases hd' : decide (k' < cbF b (mdF lo hi) none l) with
      | true =>
        obtain ⟨r, r', h1, h2, h3, h4, h5⟩ := left k k' hk
        exact ⟨r, r', h1, h2, h3, h4, by grind⟩
      | false =>
        obtain ⟨r, _, h1, h2, h3, h4, h5⟩ := left k k (Nat.le_refl _)
        obtain ⟨r', _, k1, k2, k3, k4, k5⟩ := right k' k' (Nat.le_refl _)
        have := v_uniq h1 h2
        have := v_uniq k1 k2
        exact ⟨r, r', h1, k1, by grind, h4, by grind⟩
    | false =>
      have hd' : decide (k' < cbF b (mdF lo hi) none l) = false := by
        have := of_decide_eq_false hd
        exact decide_eq_false (by omega)
      rw [hd']
      obtain ⟨r, r', h1, h2, h3, h4, h5⟩ := right k k' hk
      exact ⟨r, r', h1, h2, h3, by grind, h5⟩
end Go.Proofs.Ytpeplbbphpamhaa.Ab

namespace Go.Proofs.Ytpeplbbphpamhaa.Ab
set_option linter.unusedVariables false
set_option linter.unusedSimpArgs false
open Go
def val (x : Nat) : Rat := match Ieee.single.read x with
  | .number s m e => dv s m e
  | _ => 0
theorem val_eq {x : Nat} {r : Rat} (h : V32 x r) : val x = r := by
  obtain ⟨s, m, e, h1, rfl⟩ := h
  unfold val
  rw [h1]
def mW (b e : Nat) (X : Nat → Nat) : Nat → Nat
  | 0 => nzF (fop .sub .f32 (X 0) e)
  | i + 1 => nzF (fop .sub .f32 (fop .sub .f32 (X (i + 1)) e) (fop .mul .f32 (fop .quo .f32 b (mW b e X i)) b))
def rW (b : Nat) (M U : Nat → Nat) : Nat → Nat
  | 0 => U 0
  | i + 1 => fop .sub .f32 (U (i + 1)) (fop .mul .f32 (fop .quo .f32 b (M i)) (rW b M U i))
def yW (b : Nat) (M R : Nat → Nat) (n : Nat) : Nat → Nat
  | 0 => 0
  | j + 1 => fop .quo .f32 (fop .sub .f32 (R (n - 1 - j)) (fop .mul .f32 b (yW b M R n j))) (M (n - 1 - j))
def sW (Y : Nat → Nat) : Nat → Nat
  | 0 => 0
  | i + 1 => fop .add .f32 (sW Y i) (fop .mul .f32 (Y i) (Y i))
def dP (β e : Rat) (a : Nat → Rat) : Nat → Rat
  | 0 => a 0 - e
  | i + 1 => a (i + 1) - e - β / dP β e a i
def th1 : Rat := 9 / 10000
structure Sys (n b e : Nat) (X : Nat → Nat) (a : Nat → Rat) (g E : Rat) : Prop where
  n0 : 0 < n
  n8 : n ≤ 8
  x : ∀ i, i < n → Row (X i) (a i)
  a1 : ∀ i, i < n → a i - E ≤ 13
  hb : V32 b (-g)
  g0 : 1 / 4 ≤ g
  g1 : g ≤ 2
  env : Env b e (g * g) E
  pos : ∀ i, i < n → 0 ≤ dP (g * g) (E + th1) a i ∧ (i + 1 < n → 0 < dP (g * g) (E + th1) a i)
theorem nz_pos {w : Nat} {W : Rat} (h : V32 w W) (h0 : 0 < W) : nzF w = w := by
  unfold nzF
  rw [eqB_v h v0, decide_eq_false (by grind)]
theorem lt127 {x : Rat} {k : Int} (h : absR x ≤ tw k) (hk : k ≤ 126) : absR x < tw 127 := by
  have h1 := tw_mono hk
  have h2 : tw 127 = 2 * tw 126 := by decide +kernel
  have h3 := tw_pos 126
  grind
theorem mul23 {a b : Rat} (ha : absR a * 2 ^ 23 ≤ 1) (hb : absR b * 2 ^ 23 ≤ 1) : absR (a * b) * 2 ^ 46 ≤ 1 := by
  rw [absR_mul]
  have h1 := absR_nn a
  have h2 := absR_nn b
  generalize absR a = x at *
  generalize absR b = y at *
  have h3 := mul_nn h1 (show 0 ≤ 1 - y * 2 ^ 23 by grind)
  grind
theorem quo_v {b M : Nat} {g m : Rat} (hb : V32 b (-g)) (g0 : 1 / 4 ≤ g) (g1 : g ≤ 2) (hM : V32 M m) (m0 : 0 < m) (m1 : m ≤ 14) (hp : g * g / m ≤ 13) :
    ∃ q e, V32 (fop .quo .f32 b M) q ∧ q = -(g / m) * (1 + e) ∧ absR e * 2 ^ 23 ≤ 1 ∧ g / m ≤ 52 ∧ 1 / 56 ≤ g / m ∧ -53 ≤ q ∧ q < 0 := by
  have e1 : g / m * m = g := by grind
  have e2 : g * g / m = g * (g / m) := by grind
  have hgm : 0 < g / m := div_pos' (by grind) m0
  have h52 : g / m ≤ 52 := by
    rw [e2] at hp
    have := mul_nn (Rat.le_of_lt hgm) (show 0 ≤ g - 1 / 4 by grind)
    grind
  have h56 : 1 / 56 ≤ g / m := by
    have := mul_nn (Rat.le_of_lt hgm) (show 0 ≤ 14 - m by grind)
    grind
  have e3 : (-g) / m = -(g / m) := by grind
  have e4 : absR ((-g) / m) = g / m := by rw [e3, absR_neg]; exact absR_of_nn (Rat.le_of_lt hgm)
  have e6 : tw 6 = 64 := by decide +kernel
  have em6 : tw (-6) = 1 / 64 := by decide +kernel
  obtain ⟨q, q1, q2⟩ := fdiv hb hM (by grind) (lt127 (k := 6) (by rw [e4, e6]; grind) (by decide))
  obtain ⟨e, q3, q4⟩ := r_rel q2 (k := -6) (by decide) (by rw [e4, em6]; grind)
  rw [e3] at q3
  refine ⟨q, e, q1, q3, q4, h52, h56, ?_, ?_⟩
  · have h1 : absR e ≤ 1 / 100 := by grind
    rw [le_both] at h1
    have := mul_nn (Rat.le_of_lt hgm) (show 0 ≤ 1 / 100 - e by grind)
    grind
  · have h1 : absR e ≤ 1 / 100 := by grind
    rw [le_both] at h1
    have := Rat.mul_pos hgm (show 0 < 1 + e by grind)
    grind
theorem mid_num {p e1 e2 t X W y : Rat} (hp0 : 0 ≤ p) (hp : p ≤ 13) (h1 : absR e1 * 2 ^ 23 ≤ 1) (h2 : absR e2 * 2 ^ 23 ≤ 1) (ht : t = p * (1 + e1) * (1 + e2)) (hy : 0 ≤ y ∧ y ≤ 13) (hX : absR (X - y) * 2 ^ 23 ≤ absR y) (hW : absR (W - (X - t)) * 2 ^ 24 ≤ absR (X - t) + tiny) :
    absR (W - (y - p)) * 2 ^ 17 ≤ 1 := by
  have h3 := mul23 h1 h2
  have e : t - p = p * (e1 + e2 + e1 * e2) := by rw [ht]; grind
  have q1 := absR_tri (e1 + e2) (e1 * e2)
  have q2 := absR_tri e1 e2
  have q3 : absR (t - p) = p * absR (e1 + e2 + e1 * e2) := by rw [e, absR_mul, absR_of_nn hp0]
  have q4 : absR (e1 + e2 + e1 * e2) * 2 ^ 23 ≤ 21 / 10 := by grind
  have q5 : absR (t - p) * 2 ^ 23 ≤ 28 := by
    rw [q3]
    have := mul_nn hp0 (show 0 ≤ 21 / 10 - absR (e1 + e2 + e1 * e2) * 2 ^ 23 by grind)
    grind
  have hyy : absR y = y := absR_of_nn hy.1
  rw [hyy] at hX
  have q6 : absR (X - t) ≤ 28 := by
    have e : X - t = (X - y) + (y - p) - (t - p) := by grind
    have k1 := absR_sub (X - y + (y - p)) (t - p)
    have k2 := absR_tri (X - y) (y - p)
    have k3 : absR (y - p) ≤ 13 := by rw [le_both]; grind
    rw [e]
    grind
  have ht1 : tiny ≤ 1 := by
    have h1 := tiny_le (show (-126 : Int) ≤ 0 by decide)
    have e0 : tw 0 = 1 := by decide +kernel
    rw [e0] at h1
    exact h1
  have e : W - (y - p) = (W - (X - t)) + (X - y) - (t - p) := by grind
  have k1 := absR_sub (W - (X - t) + (X - y)) (t - p)
  have k2 := absR_tri (W - (X - t)) (X - y)
  rw [e]
  generalize absR (W - (X - t) + (X - y) - (t - p)) = A1 at *
  generalize absR (W - (X - t) + (X - y)) = A2 at *
  generalize absR (W - (X - t)) = A3 at *
  generalize absR (X - y) = A4 at *
  generalize absR (t - p) = A5 at *
  generalize absR (X - t) = A6 at *
  clear q3 ht e h3
  grind
theorem mid_step {b e M x : Nat} {g E m a : Rat} (henv : Env b e (g * g) E) (hb : V32 b (-g)) (g0 : 1 / 4 ≤ g) (g1 : g ≤ 2) (hr : Row x a) (hM : V32 M m) (m0 : 0 < m) (m1 : m ≤ 14) (hp : g * g / m ≤ 13) (ha : a - E ≤ 13) (hd : 1 / 10000 ≤ a - E - g * g / m) :
    ∃ m', V32 (nzF (fop .sub .f32 (fop .sub .f32 x e) (fop .mul .f32 (fop .quo .f32 b M) b))) m' ∧ absR (m' - (a - E - g * g / m)) * 2 ^ 17 ≤ 1 := by
  obtain ⟨q, e1, q1, q2, q3, q4, q5, q6, q7⟩ := quo_v hb g0 g1 hM m0 m1 hp
  have hpp : g * (g / m) = g * g / m := by grind
  have hgg : 1 / 16 ≤ g * g := by have := mul_nn (show 0 ≤ g - 1 / 4 by grind) (show 0 ≤ g + 1 / 4 by grind); grind
  have p0 : 0 < g * g / m := div_pos' (by grind) m0
  have e0 : q * (-g) = g * g / m * (1 + e1) := by rw [q2, ← hpp]; grind
  have a1 : absR e1 ≤ 1 / 100 := by grind
  rw [le_both] at a1
  have plo : 1 / 224 ≤ g * g / m := by
    rw [← hpp]
    have := mul_nn (show 0 ≤ g - 1 / 4 by grind) (show 0 ≤ g / m by grind)
    grind
  have u1 : 1 / 256 ≤ g * g / m * (1 + e1) ∧ g * g / m * (1 + e1) ≤ 16 := by
    have i1 := mul_nn (Rat.le_of_lt p0) (show 0 ≤ 1 / 100 - e1 by grind)
    have i2 := mul_nn (Rat.le_of_lt p0) (show 0 ≤ 1 / 100 + e1 by grind)
    constructor <;> grind
  have u2 : absR (q * (-g)) = g * g / m * (1 + e1) := by rw [e0]; exact absR_of_nn (by grind)
  have e4 : tw 4 = 16 := by decide +kernel
  have em8 : tw (-8) = 1 / 256 := by decide +kernel
  obtain ⟨t, t1, t2⟩ := fmul q1 hb (lt127 (k := 4) (by rw [u2, e4]; exact u1.2) (by decide))
  obtain ⟨e2, t3, t4⟩ := r_rel t2 (k := -8) (by decide) (by rw [u2, em8]; exact u1.1)
  rw [e0] at t3
  obtain ⟨X, x1, x2, x3, x4, x5⟩ := diff_v henv hr
  have htp : 0 ≤ t ∧ t ≤ 16 := by
    constructor
    · exact r_nn t2 (by rw [e0]; grind)
    · have := r_le_tw t2 (k := 4) (by decide) (by rw [e0, e4]; exact u1.2)
      grind
  have e8 : tw 8 = 256 := by decide +kernel
  obtain ⟨W, w1, w2⟩ := fsub x1 t1 (lt127 (k := 8) (by rw [e8]; have := absR_sub X t; have := absR_of_nn htp.1; grind) (by decide))
  have hmn := mid_num (Rat.le_of_lt p0) hp q3 t4 t3 ⟨by grind, ha⟩ x5 (r_er w2)
  have hW : 0 < W := by
    have : absR (W - (a - E - g * g / m)) ≤ 1 / 2 ^ 17 := by grind
    rw [le_both] at this
    grind
  refine ⟨W, ?_, hmn⟩
  rw [nz_pos w1 hW]
  exact w1
theorem mid_first {b e x : Nat} {g E a : Rat} (henv : Env b e (g * g) E) (hr : Row x a) (ha : a - E ≤ 13) (hd : 1 / 10000 ≤ a - E) : ∃ m', V32 (nzF (fop .sub .f32 x e)) m' ∧ absR (m' - (a - E)) * 2 ^ 17 ≤ 1 := by
  obtain ⟨X, x1, x2, x3, x4, x5⟩ := diff_v henv hr
  have h1 : absR (a - E) = a - E := absR_of_nn (by grind)
  rw [h1] at x5
  have h2 : absR (X - (a - E)) * 2 ^ 17 ≤ 1 := by grind
  have hX : 0 < X := by
    have : absR (X - (a - E)) ≤ 1 / 2 ^ 17 := by grind
    rw [le_both] at this
    grind
  exact ⟨X, by rw [nz_pos x1 hX]; exact x1, h2⟩
theorem mids {n b e : Nat} {X : Nat → Nat} {a : Nat → Rat} {g E : Rat} (h : Sys n b e X a g E) : ∀ i, i < n →
    V32 (mW b e X i) (val (mW b e X i)) ∧ dP (g * g) (E + th1) a i + 8 / 10000 ≤ val (mW b e X i) ∧ val (mW b e X i) ≤ 14 ∧
      (i = 0 → absR (val (mW b e X i) - (a i - E)) * 2 ^ 17 ≤ 1) ∧ (∀ j, i = j + 1 → absR (val (mW b e X i) - (a i - E - g * g / val (mW b e X j))) * 2 ^ 17 ≤ 1 ∧ g * g / val (mW b e X j) ≤ 13)
  | 0, hi => by
    have h0 := h.pos 0 hi
    have hD : dP (g * g) (E + th1) a 0 = a 0 - (E + th1) := rfl
    have ht : th1 = 9 / 10000 := rfl
    obtain ⟨m, m1, m2⟩ := mid_first h.env (h.x 0 hi) (h.a1 0 hi) (by grind)
    have hw : mW b e X 0 = nzF (fop .sub .f32 (X 0) e) := rfl
    rw [hw, val_eq m1]
    have m3 : absR (m - (a 0 - E)) ≤ 1 / 2 ^ 17 := by grind
    have h1 := h.a1 0 hi
    rw [le_both] at m3
    exact ⟨m1, by grind, by grind, fun _ => m2, fun j hj => by omega⟩
  | i + 1, hi => by
    obtain ⟨k1, k2, k3, _, _⟩ := mids h i (by omega)
    have hp := (h.pos i (by omega)).2 hi
    have hq := (h.pos (i + 1) hi).1
    have ht : th1 = 9 / 10000 := rfl
    have hD : dP (g * g) (E + th1) a (i + 1) = a (i + 1) - (E + th1) - g * g / dP (g * g) (E + th1) a i := rfl
    generalize dP (g * g) (E + th1) a i = D at *
    rw [hD] at hq ⊢
    have hgg : 0 < g * g := by have := h.env.b0; grind
    have hm0 : 0 < val (mW b e X i) := by grind
    have hle : g * g / val (mW b e X i) ≤ g * g / D := div_mono hgg hp (by grind)
    have ha := h.a1 (i + 1) hi
    have hp13 : g * g / val (mW b e X i) ≤ 13 := by grind
    obtain ⟨m, m1, m2⟩ := mid_step h.env h.hb h.g0 h.g1 (h.x (i + 1) hi) k1 hm0 k3 hp13 ha (by grind)
    have hw : mW b e X (i + 1) = nzF (fop .sub .f32 (fop .sub .f32 (X (i + 1)) e) (fop .mul .f32 (fop .quo .f32 b (mW b e X i)) b)) := rfl
    rw [hw, val_eq m1]
    have hpp : 0 < g * g / val (mW b e X i) := div_pos' hgg hm0
    have m3 : absR (m - (a (i + 1) - E - g * g / val (mW b e X i))) ≤ 1 / 2 ^ 17 := by grind
    rw [le_both] at m3
    refine ⟨m1, by grind, by grind, fun h0 => by omega, fun j hj => ?_⟩
    obtain rfl : i = j := by omega
    exact ⟨m2, hp13⟩
end Go.Proofs.Ytpeplbbphpamhaa.Ab

namespace Go.Proofs.Ytpeplbbphpamhaa.Ab
set_option linter.unusedVariables false
set_option linter.unusedSimpArgs false
open Go
theorem sum_rel {u p f e A B : Rat} (hu : 0 ≤ u) (hp : 0 ≤ p) (hf : absR f * 2 ^ 23 ≤ A) (he : absR e * 2 ^ 23 ≤ B) (hAB : A + B ≤ 31 / 10) (hA : A ≤ 3) (hB : B ≤ 3) : absR ((u + p * (1 + f)) * (1 + e) - (u + p)) * 2 ^ 21 ≤ u + p := by
  have e1 : (u + p * (1 + f)) * (1 + e) - (u + p) = u * e + p * (f + e + f * e) := by grind
  have hfe : absR (f * e) * 2 ^ 23 ≤ 1 / 10 := by
    rw [absR_mul]
    have h1 := absR_nn f
    have h2 := absR_nn e
    generalize absR f = x at *
    generalize absR e = y at *
    have := mul_nn h1 (show 0 ≤ 3 - y * 2 ^ 23 by grind)
    grind
  have q1 := absR_tri (u * e) (p * (f + e + f * e))
  have q2 : absR (u * e) = u * absR e := by rw [absR_mul, absR_of_nn hu]
  have q3 : absR (p * (f + e + f * e)) = p * absR (f + e + f * e) := by rw [absR_mul, absR_of_nn hp]
  have q4 := absR_tri (f + e) (f * e)
  have q5 := absR_tri f e
  have q6 : absR (f + e + f * e) * 2 ^ 23 ≤ 32 / 10 := by grind
  have q7 : absR e * 2 ^ 23 ≤ 32 / 10 := by have := absR_nn f; grind
  have i1 := mul_nn hu (show 0 ≤ 32 / 10 - absR e * 2 ^ 23 by grind)
  have i2 := mul_nn hp (show 0 ≤ 32 / 10 - absR (f + e + f * e) * 2 ^ 23 by grind)
  rw [e1]
  grind
theorem r_step {b M U R : Nat} {g m u r : Rat} {k : Int} {i : Nat} (hb : V32 b (-g)) (g0 : 1 / 4 ≤ g) (g1 : g ≤ 2) (hM : V32 M m) (m0 : 0 < m) (m1 : m ≤ 14) (hp : g * g / m ≤ 13) (hU : V32 U u) (hR : V32 R r) (hk : -100 ≤ k) (u0 : tw k ≤ u) (u1 : u ≤ 2) (r0 : tw (k - 1) ≤ r) (r1 : r ≤ tw (1 + 6 * (i : Int))) (hi : i ≤ 7) :
    ∃ s, V32 (fop .sub .f32 U (fop .mul .f32 (fop .quo .f32 b M) R)) s ∧ absR (s - (u + g / m * r)) * 2 ^ 21 ≤ u + g / m * r ∧ tw (k - 1) ≤ s ∧ s ≤ tw (1 + 6 * ((i + 1 : Nat) : Int)) ∧ g / m ≤ 52 := by
  obtain ⟨q, e1, q1, q2, q3, q4, q5, q6, q7⟩ := quo_v hb g0 g1 hM m0 m1 hp
  have pk := tw_pos (k - 1)
  have hr : 0 < r := by grind
  have b7 : tw (1 + 6 * ((i + 1 : Nat) : Int)) = 64 * tw (1 + 6 * (i : Int)) := by
    rw [show (64 : Rat) = tw 6 by decide +kernel, ← tw_add]
    congr 1
    omega
  have ek : tw k = 2 * tw (k - 1) := by
    rw [show (2 : Rat) = tw 1 by decide +kernel, ← tw_add]
    congr 1
    omega
  have hqr : absR (q * r) = -q * r := by
    rw [absR_mul, absR_of_nn (Rat.le_of_lt hr), ← absR_neg, absR_of_nn (show 0 ≤ -q by grind)]
  have hq1 : 1 / 64 ≤ -q := by
    have a1 : absR e1 ≤ 1 / 100 := by grind
    rw [le_both] at a1
    have := mul_nn (show 0 ≤ g / m by grind) (show 0 ≤ 1 / 100 + e1 by grind)
    grind
  have t1 := tw_mono (show 1 + 6 * ((i + 1 : Nat) : Int) ≤ 60 by omega)
  have hhi : absR (q * r) ≤ tw 60 := by
    rw [hqr]
    have := mul_nn (show 0 ≤ 53 + q by grind) (Rat.le_of_lt hr)
    have := tw_pos (1 + 6 * (i : Int))
    grind
  have hlo : tw (k - 7) ≤ absR (q * r) := by
    rw [hqr]
    have e : tw (k - 1) = 64 * tw (k - 7) := by
      rw [show (64 : Rat) = tw 6 by decide +kernel, ← tw_add]
      congr 1
      omega
    have := mul_nn (show 0 ≤ -q - 1 / 64 by grind) (Rat.le_of_lt hr)
    grind
  obtain ⟨p, p1, p2⟩ := fmul q1 hR (lt127 hhi (by decide))
  obtain ⟨e2, p3, p4⟩ := r_rel p2 (by omega) hlo
  have hp0 : p ≤ 0 := r_np p2 (by have := mul_nn (show 0 ≤ -q by grind) (Rat.le_of_lt hr); grind)
  have hplo : -tw 60 ≤ p := r_ge_mtw p2 (by decide) (by rw [le_both] at hhi; exact hhi.1)
  have e60 : tw 61 = 2 * tw 60 := by decide +kernel
  have e602 : (2 : Rat) ≤ tw 60 := by decide +kernel
  have hup : absR (u - p) = u - p := absR_of_nn (by grind)
  obtain ⟨s, s1, s2⟩ := fsub hU p1 (lt127 (k := 61) (by rw [hup, e60]; grind) (by decide))
  obtain ⟨e3, s3, s4⟩ := r_rel s2 (k := k - 1) (by omega) (by rw [hup]; grind)
  have hgm : 0 ≤ g / m * r := mul_nn (by grind) (Rat.le_of_lt hr)
  have hm12 := mul23 q3 p4
  have f1 : absR (e1 + e2 + e1 * e2) * 2 ^ 23 ≤ 21 / 10 := by
    have := absR_tri (e1 + e2) (e1 * e2)
    have := absR_tri e1 e2
    grind
  have hs : s = (u + g / m * r * (1 + (e1 + e2 + e1 * e2))) * (1 + e3) := by rw [s3, p3, q2]; grind
  have hrel := sum_rel (show 0 ≤ u by grind) hgm f1 s4 (by decide +kernel) (by decide +kernel) (by decide +kernel)
  rw [← hs] at hrel
  have hz : 0 < u + g / m * r := by grind
  have h3 : absR (s - (u + g / m * r)) ≤ (u + g / m * r) * (1 / 100) := by grind
  rw [le_both] at h3
  refine ⟨s, s1, hrel, by grind, ?_, q4⟩
  rw [b7]
  have := mul_nn (show 0 ≤ 52 - g / m by grind) (Rat.le_of_lt hr)
  have h2 := tw_mono (show (1 : Int) ≤ 1 + 6 * (i : Int) by omega)
  have e1' : tw 1 = 2 := by decide +kernel
  grind
theorem rights {n b e : Nat} {X : Nat → Nat} {a : Nat → Rat} {g E : Rat} (h : Sys n b e X a g E) {U : Nat → Nat} {k : Int} (hk : -100 ≤ k) (hU : ∀ i, i < n → V32 (U i) (val (U i)) ∧ tw k ≤ val (U i) ∧ val (U i) ≤ 2) : ∀ i, i < n →
    V32 (rW b (mW b e X) U i) (val (rW b (mW b e X) U i)) ∧ tw (k - 1) ≤ val (rW b (mW b e X) U i) ∧ val (rW b (mW b e X) U i) ≤ tw (1 + 6 * (i : Int)) ∧ (i = 0 → rW b (mW b e X) U i = U i) ∧
      (∀ j, i = j + 1 → absR (val (rW b (mW b e X) U i) - (val (U i) + g / val (mW b e X j) * val (rW b (mW b e X) U j))) * 2 ^ 21 ≤ val (U i) + g / val (mW b e X j) * val (rW b (mW b e X) U j) ∧ g / val (mW b e X j) ≤ 52)
  | 0, hi => by
    obtain ⟨u1, u2, u3⟩ := hU 0 hi
    have e : rW b (mW b e X) U 0 = U 0 := rfl
    rw [e]
    have h1 := tw_mono (show k - 1 ≤ k by omega)
    have h2 : tw (1 + 6 * ((0 : Nat) : Int)) = 2 := by decide +kernel
    exact ⟨u1, by grind, by rw [h2]; exact u3, fun _ => rfl, fun j hj => by omega⟩
  | i + 1, hi => by
    obtain ⟨r1, r2, r3, _, _⟩ := rights h hk hU i (by omega)
    obtain ⟨m1, m2, m3, _, _⟩ := mids h i (by omega)
    obtain ⟨_, _, _, _, m4⟩ := mids h (i + 1) hi
    obtain ⟨u1, u2, u3⟩ := hU (i + 1) hi
    have hp := (h.pos i (by omega)).1
    have hn8 := h.n8
    obtain ⟨s, s1, s2, s3, s4, s5⟩ := r_step h.hb h.g0 h.g1 m1 (by grind) m3 (m4 i rfl).2 u1 r1 hk u2 u3 r2 r3 (i := i) (by omega)
    have hw : rW b (mW b e X) U (i + 1) = fop .sub .f32 (U (i + 1)) (fop .mul .f32 (fop .quo .f32 b (mW b e X i)) (rW b (mW b e X) U i)) := rfl
    rw [hw, val_eq s1]
    refine ⟨s1, s3, s4, fun h0 => by omega, fun j hj => ?_⟩
    obtain rfl : i = j := by omega
    exact ⟨s2, s5⟩
theorem y_step {b M R Y : Nat} {g m r y : Rat} {k : Int} (hb : V32 b (-g)) (g0 : 1 / 4 ≤ g) (g1 : g ≤ 2) (hM : V32 M m) (m0 : 8 / 10000 ≤ m) (m1 : m ≤ 14) (hR : V32 R r) (hY : V32 Y y) (hk : -100 ≤ k) (r0 : tw k ≤ r) (r1 : r ≤ tw 110) (y0 : 0 ≤ y) (y1 : y ≤ tw 110) {k2 : Int} (hk2 : -100 ≤ k2) (y2 : y = 0 ∨ tw k2 ≤ y) :
    ∃ z, V32 (fop .quo .f32 (fop .sub .f32 R (fop .mul .f32 b Y)) M) z ∧ absR (m * z - (r + g * y)) * 2 ^ 21 ≤ r + g * y ∧ tw (k - 5) ≤ z := by
  have pk := tw_pos k
  have hgy : 0 ≤ g * y := mul_nn (by grind) y0
  have e111 : tw 111 = 2 * tw 110 := by decide +kernel
  have e112 : tw 112 = 4 * tw 110 := by decide +kernel
  have e113 : tw 113 = 8 * tw 110 := by decide +kernel
  have p110 := tw_pos 110
  have hby : absR (-g * y) = g * y := by rw [show -g * y = -(g * y) by grind, absR_neg, absR_of_nn hgy]
  have hgy1 : g * y ≤ tw 111 := by
    have := mul_nn (show 0 ≤ 2 - g by grind) y0
    grind
  obtain ⟨w, w1, w2⟩ := fmul hb hY (lt127 (k := 111) (by rw [hby]; exact hgy1) (by decide))
  have hw : ∃ e1, w = -(g * y) * (1 + e1) ∧ absR e1 * 2 ^ 23 ≤ 1 := by
    rcases y2 with h | h
    · refine ⟨0, ?_, by decide +kernel⟩
      rw [h] at w2 ⊢
      rw [show -g * (0 : Rat) = 0 by grind] at w2
      rw [r_zero w2]
      grind
    · have e2 : tw k2 = 4 * tw (k2 - 2) := by
        rw [show (4 : Rat) = tw 2 by decide +kernel, ← tw_add]
        congr 1
        omega
      obtain ⟨e1, a1, a2⟩ := r_rel w2 (k := k2 - 2) (by omega) (by
        rw [hby]
        have := mul_nn (show 0 ≤ g - 1 / 4 by grind) y0
        grind)
      exact ⟨e1, by rw [a1]; grind, a2⟩
  obtain ⟨e1, w3, w4⟩ := hw
  have hw0 : w ≤ 0 := r_np w2 (by grind)
  have hwlo : -tw 111 ≤ w := r_ge_mtw w2 (by decide) (by grind)
  have hrw : absR (r - w) = r - w := absR_of_nn (by grind)
  obtain ⟨s, s1, s2⟩ := fsub hR w1 (lt127 (k := 112) (by rw [hrw, e112]; grind) (by decide))
  obtain ⟨e2, s3, s4⟩ := r_rel s2 (k := k) (by omega) (by rw [hrw]; grind)
  have hs0 : tw k ≤ s := r_ge_tw s2 (by omega) (by grind)
  have hs1 : s ≤ tw 112 := r_le_tw s2 (by decide) (by grind)
  have hm0 : 0 < m := by grind
  have e3 : s / m * m = s := by grind
  have hsm : absR (s / m) = s / m := absR_of_nn (Rat.le_of_lt (div_pos' (by grind) hm0))
  have hsm0 := div_pos' (show 0 < s by grind) hm0
  have e122 : tw 123 = 2048 * tw 112 := by decide +kernel
  have p112 := tw_pos 112
  obtain ⟨z, z1, z2⟩ := fdiv s1 hM (by grind) (lt127 (k := 123) (by
    rw [hsm]
    refine mul_cancel (c := m) ?_ hm0
    rw [e3, e122]
    have := mul_nn (Rat.le_of_lt p112) (show 0 ≤ m - 8 / 10000 by grind)
    grind) (by decide))
  have ek : tw k = 16 * tw (k - 4) := by
    rw [show (16 : Rat) = tw 4 by decide +kernel, ← tw_add]
    congr 1
    omega
  have hlo : tw (k - 4) ≤ s / m := by
    refine mul_cancel (c := m) ?_ hm0
    rw [e3]
    have := mul_nn (Rat.le_of_lt (tw_pos (k - 4))) (show 0 ≤ 14 - m by grind)
    grind
  obtain ⟨e3', z3, z4⟩ := r_rel z2 (k := k - 4) (by omega) (by rw [hsm]; exact hlo)
  have hz : m * z = (r + g * y * (1 + e1)) * (1 + (e2 + e3' + e2 * e3')) := by
    rw [z3]
    have : m * (s / m * (1 + e3')) = s * (1 + e3') := by grind
    rw [this, s3, w3]
    grind
  have hm12 := mul23 s4 z4
  have f1 : absR (e2 + e3' + e2 * e3') * 2 ^ 23 ≤ 21 / 10 := by
    have := absR_tri (e2 + e3') (e2 * e3')
    have := absR_tri e2 e3'
    grind
  have hrel := sum_rel (show 0 ≤ r by grind) hgy w4 f1 (by decide +kernel) (by decide +kernel) (by decide +kernel)
  rw [← hz] at hrel
  have hkk := tw_mono (show k - 5 ≤ k - 4 by omega)
  exact ⟨z, z1, hrel, r_ge_tw z2 (by omega) (by grind)⟩
theorem row_num {m mp r rp y yp yn u g x : Rat} (hg : 0 ≤ g) (hmp : 0 < mp) (hm1 : m ≤ 14) (hy : 0 ≤ y) (hu : 0 ≤ u) (hrp : 0 ≤ rp) (hyn : 0 ≤ yn) (hr : 0 ≤ r) (hp : g * g / mp ≤ 13)
    (h1 : absR (m - (x - g * g / mp)) * 2 ^ 17 ≤ 1) (h2 : absR (r - (u + g / mp * rp)) * 2 ^ 21 ≤ u + g / mp * rp) (h3 : absR (m * y - (r + g * yn)) * 2 ^ 21 ≤ r + g * yn) (h4 : absR (mp * yp - (rp + g * y)) * 2 ^ 21 ≤ rp + g * y) :
    absR (x * y - g * yp - g * yn - u) * 25000 ≤ y := by
  have eg : g / mp * mp = g := by grind
  have egg : g * g / mp = g / mp * g := by grind
  rw [egg] at hp h1
  have hγ : 0 ≤ g / mp := by
    rcases Rat.le_iff_lt_or_eq.1 hg with h | h
    · exact Rat.le_of_lt (div_pos' h hmp)
    · rw [← h]; grind
  generalize g / mp = γ at *
  have hgy := mul_nn hg hy
  have hgyn := mul_nn hg hyn
  have hγr := mul_nn hγ hrp
  have hγgy := mul_nn hγ hgy
  have i0 := mul_nn hy (show 0 ≤ 13 - γ * g by grind)
  have i1 := mul_nn hy (show 0 ≤ 14 - m by grind)
  have i2 : absR (m * y - (r + g * yn)) ≤ (r + g * yn) * (1 / 1000) := by grind
  have i3 : absR (r - (u + γ * rp)) ≤ (u + γ * rp) * (1 / 1000) := by grind
  have j2 := i2
  have j3 := i3
  rw [le_both] at j2 j3
  have k1 : r + g * yn ≤ 141 / 10 * y := by grind
  have k2 : u + γ * rp ≤ 142 / 10 * y := by grind
  have e : x * y - g * yp - g * yn - u = (m * y - (r + g * yn)) + (r - (u + γ * rp)) - γ * (mp * yp - (rp + g * y)) - (m - (x - γ * g)) * y := by
    have : γ * (mp * yp) = g * yp := by rw [← eg]; grind
    grind
  have q1 := absR_sub ((m * y - (r + g * yn)) + (r - (u + γ * rp)) - γ * (mp * yp - (rp + g * y))) ((m - (x - γ * g)) * y)
  have q2 := absR_sub ((m * y - (r + g * yn)) + (r - (u + γ * rp))) (γ * (mp * yp - (rp + g * y)))
  have q3 := absR_tri (m * y - (r + g * yn)) (r - (u + γ * rp))
  have q4 : absR (γ * (mp * yp - (rp + g * y))) * 2 ^ 21 ≤ γ * (rp + g * y) := by
    rw [absR_mul, absR_of_nn hγ]
    have := mul_nn hγ (show 0 ≤ (rp + g * y) - absR (mp * yp - (rp + g * y)) * 2 ^ 21 by grind)
    grind
  have q5 : absR ((m - (x - γ * g)) * y) * 2 ^ 17 ≤ y := by
    rw [absR_mul, absR_of_nn hy]
    have := mul_nn hy (show 0 ≤ 1 - absR (m - (x - γ * g)) * 2 ^ 17 by grind)
    grind
  rw [← e] at q1
  generalize absR (x * y - g * yp - g * yn - u) = B0 at *
  generalize absR ((m * y - (r + g * yn)) + (r - (u + γ * rp)) - γ * (mp * yp - (rp + g * y))) = B1 at *
  generalize absR ((m * y - (r + g * yn)) + (r - (u + γ * rp))) = B2 at *
  generalize absR (m * y - (r + g * yn)) = B3 at *
  generalize absR (r - (u + γ * rp)) = B4 at *
  generalize absR (γ * (mp * yp - (rp + g * y))) = B5 at *
  generalize absR ((m - (x - γ * g)) * y) = B6 at *
  have t1 : γ * (rp + g * y) ≤ 272 / 10 * y := by grind
  clear e eg egg h1 h4 i2 i3 j2 j3 hm1
  grind
theorem row_num0 {m r y yn g x : Rat} (hg : 0 ≤ g) (hm1 : m ≤ 14) (hy : 0 ≤ y) (hyn : 0 ≤ yn) (hr : 0 ≤ r)
    (h1 : absR (m - x) * 2 ^ 17 ≤ 1) (h3 : absR (m * y - (r + g * yn)) * 2 ^ 21 ≤ r + g * yn) :
    absR (x * y - g * yn - r) * 25000 ≤ y := by
  have hgyn := mul_nn hg hyn
  have i1 := mul_nn hy (show 0 ≤ 14 - m by grind)
  have i2 : absR (m * y - (r + g * yn)) ≤ (r + g * yn) * (1 / 1000) := by grind
  have j2 := i2
  rw [le_both] at j2
  have k1 : r + g * yn ≤ 141 / 10 * y := by grind
  have e : x * y - g * yn - r = (m * y - (r + g * yn)) - (m - x) * y := by grind
  have q1 := absR_sub (m * y - (r + g * yn)) ((m - x) * y)
  have q5 : absR ((m - x) * y) * 2 ^ 17 ≤ y := by
    rw [absR_mul, absR_of_nn hy]
    have := mul_nn hy (show 0 ≤ 1 - absR (m - x) * 2 ^ 17 by grind)
    grind
  rw [← e] at q1
  generalize absR (x * y - g * yn - r) = B0 at *
  generalize absR (m * y - (r + g * yn)) = B3 at *
  generalize absR ((m - x) * y) = B6 at *
  clear e i2 j2
  grind
end Go.Proofs.Ytpeplbbphpamhaa.Ab

namespace Go.Proofs.Ytpeplbbphpamhaa.Ab
set_option linter.unusedVariables false
set_option linter.unusedSimpArgs false
open Go
theorem up_num1 {z m r c T : Rat} (hz : 0 ≤ z) (hm : 8 / 10000 ≤ m) (h : m * z ≤ r * (11 / 10)) (hr : r ≤ c) (hc : 2048 * c ≤ T) : z ≤ 64 * T := by
  have := mul_nn hz (show 0 ≤ m - 8 / 10000 by grind)
  grind
theorem up_num2 {z y m r c g T : Rat} (hz : 0 ≤ z) (hy : 0 ≤ y) (hyT : y ≤ T) (hr0 : 0 ≤ r) (hr : r ≤ c) (hc : 2048 * c ≤ T) (hm : 0 < m) (hg : 1 / 4 ≤ g) (h52 : g / m ≤ 52) (h : m * z ≤ (r + g * y) * (11 / 10)) : z ≤ 64 * T := by
  have eg : g / m * m = g := by grind
  generalize g / m = γ at *
  subst eg
  refine mul_cancel (c := m) ?_ hm
  have i1 := mul_nn (mul_nn (Rat.le_of_lt hm) (show 0 ≤ 52 - γ by grind)) hy
  have i2 : 1 ≤ m * 208 := by
    have := mul_nn (Rat.le_of_lt hm) (show 0 ≤ 52 - γ by grind)
    grind
  have i3 := mul_nn hr0 (show 0 ≤ m * 208 - 1 by grind)
  have i4 := mul_nn (Rat.le_of_lt hm) (show 0 ≤ T - y by grind)
  have i5 := mul_nn (Rat.le_of_lt hm) (show 0 ≤ T - 2048 * c by grind)
  have i6 := mul_nn (Rat.le_of_lt hm) (show 0 ≤ c - r by grind)
  have i7 := mul_nn (Rat.le_of_lt hm) (show 0 ≤ T by grind)
  grind
theorem ups {n b e : Nat} {X : Nat → Nat} {a : Nat → Rat} {g E : Rat} (h : Sys n b e X a g E) {U : Nat → Nat} {k : Int} (hk : -90 ≤ k) (hU : ∀ i, i < n → V32 (U i) (val (U i)) ∧ tw k ≤ val (U i) ∧ val (U i) ≤ 2) : ∀ j, j ≤ n →
    V32 (yW b (mW b e X) (rW b (mW b e X) U) n j) (val (yW b (mW b e X) (rW b (mW b e X) U) n j)) ∧ 0 ≤ val (yW b (mW b e X) (rW b (mW b e X) U) n j) ∧ val (yW b (mW b e X) (rW b (mW b e X) U) n j) ≤ tw (54 + 6 * (j : Int)) ∧
      (j = 0 → val (yW b (mW b e X) (rW b (mW b e X) U) n j) = 0) ∧
      (∀ t, j = t + 1 → tw (k - 6) ≤ val (yW b (mW b e X) (rW b (mW b e X) U) n j) ∧
        absR (val (mW b e X (n - 1 - t)) * val (yW b (mW b e X) (rW b (mW b e X) U) n j) - (val (rW b (mW b e X) U (n - 1 - t)) + g * val (yW b (mW b e X) (rW b (mW b e X) U) n t))) * 2 ^ 21 ≤ val (rW b (mW b e X) U (n - 1 - t)) + g * val (yW b (mW b e X) (rW b (mW b e X) U) n t))
  | 0, _ => by
    have e : yW b (mW b e X) (rW b (mW b e X) U) n 0 = 0 := rfl
    rw [e, val_eq v0]
    have := tw_pos (54 + 6 * ((0 : Nat) : Int))
    exact ⟨v0, Rat.le_refl, by grind, fun _ => rfl, fun t ht => by omega⟩
  | t + 1, hj => by
    obtain ⟨y1, y2, y3, y4, y5⟩ := ups h hk hU t (by omega)
    have hn8 := h.n8
    obtain ⟨i, hi, hin⟩ : ∃ i, n - 1 - t = i ∧ i < n := ⟨n - 1 - t, rfl, by omega⟩
    obtain ⟨r1, r2, r3, _, _⟩ := rights h (show -100 ≤ k by omega) hU i hin
    obtain ⟨m1, m2, m3, _, _⟩ := mids h i hin
    have hp := (h.pos i hin).1
    have hw : yW b (mW b e X) (rW b (mW b e X) U) n (t + 1) = fop .quo .f32 (fop .sub .f32 (rW b (mW b e X) U i) (fop .mul .f32 b (yW b (mW b e X) (rW b (mW b e X) U) n t))) (mW b e X i) := by rw [← hi]; rfl
    have q1 := tw_mono (show 1 + 6 * (i : Int) ≤ 43 by omega)
    have q2 := tw_mono (show (43 : Int) ≤ 110 by decide)
    have q3 := tw_mono (show 54 + 6 * (t : Int) ≤ 110 by omega)
    have hm8 : 8 / 10000 ≤ val (mW b e X i) := by grind
    have y0or : val (yW b (mW b e X) (rW b (mW b e X) U) n t) = 0 ∨ tw (k - 6) ≤ val (yW b (mW b e X) (rW b (mW b e X) U) n t) := by
      cases t with
      | zero => exact .inl (y4 rfl)
      | succ t => exact .inr (y5 t rfl).1
    obtain ⟨z, z1, z2, z3⟩ := y_step h.hb h.g0 h.g1 m1 hm8 m3 r1 y1 (k := k - 1) (by omega) r2 (by grind) y2 (by grind) (k2 := k - 6) (by omega) y0or
    have hg52 : 0 < t → g / val (mW b e X i) ≤ 52 := by
      intro ht
      obtain ⟨_, _, _, _, m5⟩ := rights h (show -100 ≤ k by omega) hU (i + 1) (by omega)
      exact (m5 i rfl).2
    rw [hw, val_eq z1]
    have hz0 : 0 ≤ z := by have := tw_pos (k - 1 - 5); grind
    refine ⟨z1, hz0, ?_, fun h0 => by omega, fun t' ht' => ?_⟩
    · have hg0 := h.g0
      have hm0 : 0 < val (mW b e X i) := by grind
      have e0 : tw (54 + 6 * ((t + 1 : Nat) : Int)) = 64 * tw (54 + 6 * (t : Int)) := by
        rw [show (64 : Rat) = tw 6 by decide +kernel, ← tw_add]
        congr 1
        omega
      rw [e0]
      have e54 : tw 54 = 2048 * tw 43 := by decide +kernel
      have q4 := tw_mono (show 54 ≤ 54 + 6 * (t : Int) by omega)
      have p43 := tw_pos 43
      generalize tw (54 + 6 * (t : Int)) = T at *
      generalize val (yW b (mW b e X) (rW b (mW b e X) U) n t) = y at *
      generalize val (rW b (mW b e X) U i) = r at *
      generalize val (mW b e X i) = m at *
      have hgy := mul_nn (show 0 ≤ g by grind) y2
      have hr : 0 ≤ r := by have := tw_pos (k - 1); grind
      have hz2 : m * z ≤ (r + g * y) * (11 / 10) := by
        have : absR (m * z - (r + g * y)) ≤ (r + g * y) * (1 / 10) := by grind
        rw [le_both] at this
        grind
      rcases Nat.eq_zero_or_pos t with h0 | h0
      · have hy0 := y4 h0
        rw [hy0] at hz2
        exact up_num1 hz0 hm8 (by grind) (show r ≤ tw 43 by grind) (show 2048 * tw 43 ≤ T by grind)
      · exact up_num2 hz0 y2 y3 hr (show r ≤ tw 43 by grind) (show 2048 * tw 43 ≤ T by grind) hm0 hg0 (hg52 h0) hz2
    · obtain rfl : t = t' := by omega
      rw [hi]
      exact ⟨by rw [show k - 6 = k - 1 - 5 by omega]; exact z3, z2⟩
def yI (b e : Nat) (X U : Nat → Nat) (n i : Nat) : Nat := yW b (mW b e X) (rW b (mW b e X) U) n (n - i)
structure Rnds (n b e : Nat) (X U : Nat → Nat) (a u y : Nat → Rat) (g E : Rat) (k : Int) : Prop where
  v : ∀ i, i < n → V32 (yI b e X U n i) (y i)
  lo : ∀ i, i < n → tw (k - 6) ≤ y i
  end0 : y n = 0
  nn : ∀ i, i ≤ n → 0 ≤ y i
  eq0 : absR ((a 0 - E) * y 0 - g * y 1 - u 0) * 25000 ≤ y 0
  eqs : ∀ i, i + 1 < n → absR ((a (i + 1) - E) * y (i + 1) - g * y i - g * y (i + 2) - u (i + 1)) * 25000 ≤ y (i + 1)
theorem rounds_eq {n b e : Nat} {X : Nat → Nat} {a : Nat → Rat} {g E : Rat} (h : Sys n b e X a g E) {U : Nat → Nat} {k : Int} (hk : -90 ≤ k) (hU : ∀ i, i < n → V32 (U i) (val (U i)) ∧ tw k ≤ val (U i) ∧ val (U i) ≤ 2) :
    Rnds n b e X U a (fun i => val (U i)) (fun i => val (yI b e X U n i)) g E k := by
  have hup := ups h hk hU
  have n0 := h.n0
  have hg0 := h.g0
  have key : ∀ i, i < n → tw (k - 6) ≤ val (yI b e X U n i) ∧ absR (val (mW b e X i) * val (yI b e X U n i) - (val (rW b (mW b e X) U i) + g * val (yI b e X U n (i + 1)))) * 2 ^ 21 ≤ val (rW b (mW b e X) U i) + g * val (yI b e X U n (i + 1)) := by
    intro i hi
    have h1 := (hup (n - i) (by omega)).2.2.2.2 (n - (i + 1)) (by omega)
    rw [show n - 1 - (n - (i + 1)) = i by omega] at h1
    exact h1
  have hnn : ∀ i, i ≤ n → 0 ≤ val (yI b e X U n i) := fun i hi => (hup (n - i) (by omega)).2.1
  refine ⟨fun i hi => (hup (n - i) (by omega)).1, fun i hi => (key i hi).1, ?_, hnn, ?_, ?_⟩
  · have := (hup (n - n) (by omega)).2.2.2.1 (by omega)
    exact this
  · obtain ⟨m1, m2, m3, m4, _⟩ := mids h 0 n0
    obtain ⟨r1, r2, r3, r4, _⟩ := rights h (show -100 ≤ k by omega) hU 0 n0
    have hr : 0 ≤ val (rW b (mW b e X) U 0) := by have := tw_pos (k - 1); grind
    have h3 := (key 0 n0).2
    have := row_num0 (show 0 ≤ g by grind) m3 (hnn 0 (by omega)) (hnn 1 (by omega)) hr (m4 rfl) h3
    rw [r4 rfl] at this
    exact this
  · intro i hi
    obtain ⟨m1, m2, m3, _, m5⟩ := mids h (i + 1) hi
    obtain ⟨p1, p2, p3, _, _⟩ := mids h i (by omega)
    obtain ⟨r1, r2, r3, _, r5⟩ := rights h (show -100 ≤ k by omega) hU (i + 1) hi
    obtain ⟨s1, s2, s3, _, _⟩ := rights h (show -100 ≤ k by omega) hU i (by omega)
    obtain ⟨u1, u2, u3⟩ := hU (i + 1) hi
    have hp := (h.pos i (by omega)).1
    have t1 := tw_pos (k - 1)
    have t2 := tw_pos k
    exact row_num (show 0 ≤ g by grind) (show 0 < val (mW b e X i) by grind) m3 (hnn (i + 1) (by omega)) (show 0 ≤ val (U (i + 1)) by grind) (show 0 ≤ val (rW b (mW b e X) U i) by grind) (hnn (i + 2) (by omega)) (show 0 ≤ val (rW b (mW b e X) U (i + 1)) by grind) (m5 i rfl).2 (m5 i rfl).1 (r5 i rfl).1 (key (i + 1) hi).2 (key i (by omega)).2
def sumF (f : Nat → Rat) : Nat → Rat
  | 0 => 0
  | i + 1 => sumF f i + f i
theorem sum_le {f h : Nat → Rat} {n : Nat} (H : ∀ i, i < n → f i ≤ h i) : sumF f n ≤ sumF h n := by
  induction n with
  | zero => exact Rat.le_refl
  | succ n ih =>
    have h1 := ih fun i hi => H i (by omega)
    have h2 := H n (by omega)
    show sumF f n + f n ≤ sumF h n + h n
    grind
theorem sum_lin (f h : Nat → Rat) (a b : Rat) (n : Nat) : sumF (fun i => a * f i + b * h i) n = a * sumF f n + b * sumF h n := by
  induction n with
  | zero => show (0 : Rat) = a * 0 + b * 0; grind
  | succ n ih => show sumF _ n + _ = a * (sumF f n + f n) + b * (sumF h n + h n); rw [ih]; grind
def rowA (a : Nat → Rat) (E g : Rat) (y : Nat → Rat) : Nat → Rat
  | 0 => (a 0 - E) * y 0 - g * y 1
  | i + 1 => (a (i + 1) - E) * y (i + 1) - g * y i - g * y (i + 2)
theorem form_ge {n : Nat} {a y : Nat → Rat} {E g : Rat} (hpos : ∀ i, i < n → i + 1 < n → 0 < dP (g * g) E a i) : ∀ i, i < n → dP (g * g) E a i * (y i * y i) - g * (y i * y (i + 1)) ≤ sumF (fun j => y j * rowA a E g y j) (i + 1)
  | 0, _ => by
    show (a 0 - E) * (y 0 * y 0) - g * (y 0 * y 1) ≤ 0 + y 0 * ((a 0 - E) * y 0 - g * y 1)
    grind
  | i + 1, hi => by
    have ih := form_ge (y := y) hpos i (by omega)
    have hp := hpos i (by omega) hi
    have hD : dP (g * g) E a (i + 1) = a (i + 1) - E - g * g / dP (g * g) E a i := rfl
    rw [hD]
    show _ ≤ sumF (fun j => y j * rowA a E g y j) (i + 1) + y (i + 1) * ((a (i + 1) - E) * y (i + 1) - g * y i - g * y (i + 2))
    generalize dP (g * g) E a i = D at *
    generalize sumF (fun j => y j * rowA a E g y j) (i + 1) = S at *
    generalize y (i + 1) = z at *
    generalize y (i + 2) = w at *
    generalize y i = x at *
    have e : g * g / D = g / D * (g / D) * D := by grind
    rw [e]
    have e2 : g / D * D = g := by grind
    generalize g / D = γ at *
    have sq : 0 ≤ (x - γ * z) * (x - γ * z) := by
      rcases Rat.le_total (a := (0 : Rat)) (b := x - γ * z) with h | h
      · exact mul_nn h h
      · have := mul_nn (show 0 ≤ -(x - γ * z) by grind) (show 0 ≤ -(x - γ * z) by grind); grind
    have := mul_nn (Rat.le_of_lt hp) sq
    subst e2
    grind
end Go.Proofs.Ytpeplbbphpamhaa.Ab

namespace Go.Proofs.Ytpeplbbphpamhaa.Ab
set_option linter.unusedVariables false
set_option linter.unusedSimpArgs false
open Go
theorem row_eq {n b e : Nat} {X U : Nat → Nat} {a u y : Nat → Rat} {g E : Rat} {k : Int} (r : Rnds n b e X U a u y g E k) : ∀ j, j < n → absR (rowA a E g y j - u j) * 25000 ≤ y j
  | 0, _ => r.eq0
  | j + 1, h => r.eqs j h
def c0 : Rat := 43 / 50000
theorem am_gm {y u : Rat} : y * u ≤ 25000 / 43 * (u * u) + 43 / 100000 * (y * y) := by
  have sq : ∀ x : Rat, 0 ≤ x * x := fun x => by
    rcases Rat.le_total (a := (0 : Rat)) (b := x) with h | h
    · exact mul_nn h h
    · have := mul_nn (show 0 ≤ -x by grind) (show 0 ≤ -x by grind); grind
  have := sq (50000 * u - 43 * y)
  grind
theorem norm_le {n b e : Nat} {X U : Nat → Nat} {a u y : Nat → Rat} {g E : Rat} {k : Int} (h : Sys n b e X a g E) (r : Rnds n b e X U a u y g E k) : c0 * c0 * sumF (fun j => y j * y j) n ≤ sumF (fun j => u j * u j) n := by
  have n0 := h.n0
  have hge := form_ge (n := n) (y := y) (g := g) (E := E + th1) (a := a) (fun i hi hi' => (h.pos i hi).2 hi') (n - 1) (by omega)
  rw [show n - 1 + 1 = n by omega, r.end0] at hge
  have hD := (h.pos (n - 1) (by omega)).1
  have hyn := r.nn (n - 1) (by omega)
  have h1 := mul_nn hD (mul_nn hyn hyn)
  have hsum : sumF (fun j => y j * rowA a (E + th1) g y j) n ≤ sumF (fun j => 25000 / 43 * (u j * u j) + (-(43 / 100000)) * (y j * y j)) n := by
    refine sum_le fun j hj => ?_
    have h2 := row_eq r j hj
    have hyj := r.nn j (by omega)
    have h3 : rowA a E g y j ≤ u j + y j * (1 / 25000) := by
      have : absR (rowA a E g y j - u j) ≤ y j * (1 / 25000) := by grind
      rw [le_both] at this
      grind
    have h4 : rowA a (E + th1) g y j = rowA a E g y j - th1 * y j := by
      cases j with
      | zero => show (a 0 - (E + th1)) * y 0 - g * y 1 = (a 0 - E) * y 0 - g * y 1 - th1 * y 0; grind
      | succ j => show (a (j + 1) - (E + th1)) * y (j + 1) - g * y j - g * y (j + 2) = (a (j + 1) - E) * y (j + 1) - g * y j - g * y (j + 2) - th1 * y (j + 1); grind
    rw [h4]
    have ht : th1 = 9 / 10000 := rfl
    rw [ht]
    have h5 := mul_nn hyj (show 0 ≤ u j + y j * (1 / 25000) - rowA a E g y j by grind)
    have h6 := am_gm (y := y j) (u := u j)
    grind
  rw [sum_lin (fun j => u j * u j) (fun j => y j * y j)] at hsum
  have hc : c0 = 43 / 50000 := rfl
  rw [hc]
  generalize sumF (fun j => y j * rowA a (E + th1) g y j) n = T at *
  generalize sumF (fun j => u j * u j) n = A at *
  generalize sumF (fun j => y j * y j) n = B at *
  grind
theorem sum_nn {f : Nat → Rat} {n : Nat} (h : ∀ i, i < n → 0 ≤ f i) : 0 ≤ sumF f n := by
  induction n with
  | zero => exact Rat.le_refl
  | succ n ih =>
    have h1 := ih fun i hi => h i (by omega)
    have h2 := h n (by omega)
    show 0 ≤ sumF f n + f n
    grind
theorem sum_one {f : Nat → Rat} {n : Nat} (h : ∀ i, i < n → 0 ≤ f i) {j : Nat} (hj : j < n) : f j ≤ sumF f n := by
  induction n with
  | zero => omega
  | succ n ih =>
    have h2 := h n (by omega)
    show f j ≤ sumF f n + f n
    by_cases hjn : j < n
    · have := ih (fun i hi => h i (by omega)) hjn
      grind
    · obtain rfl : j = n := by omega
      have := sum_nn (f := f) (n := j) fun i hi => h i (by omega)
      grind
theorem sq_step {S s y2 e1 e2 i : Rat} (hi : 0 ≤ i ∧ i ≤ 8) (hS : 0 ≤ S) (hy : 0 ≤ y2) (hs : absR (s - S) * 2 ^ 23 ≤ 3 * i * S) (h1 : absR e1 * 2 ^ 23 ≤ 1) (h2 : absR e2 * 2 ^ 23 ≤ 1) : absR ((s + y2 * (1 + e1)) * (1 + e2) - (S + y2)) * 2 ^ 23 ≤ 3 * (i + 1) * (S + y2) := by
  have e : (s + y2 * (1 + e1)) * (1 + e2) - (S + y2) = ((s - S) + y2 * e1) + (s + y2 * (1 + e1)) * e2 := by grind
  have q1 := absR_tri ((s - S) + y2 * e1) ((s + y2 * (1 + e1)) * e2)
  have q2 := absR_tri (s - S) (y2 * e1)
  have q3 : absR (y2 * e1) * 2 ^ 23 ≤ y2 := by
    rw [absR_mul, absR_of_nn hy]
    have := mul_nn hy (show 0 ≤ 1 - absR e1 * 2 ^ 23 by grind)
    grind
  have i1 := mul_nn hi.1 hS
  have i2 := mul_nn (show 0 ≤ 8 - i by grind) hS
  have i3 := mul_nn hi.1 hy
  have q4 : absR (s + y2 * (1 + e1)) * 2 ≤ 3 * (S + y2) := by
    have k1 : s + y2 * (1 + e1) = (s - S) + y2 * e1 + (S + y2) := by grind
    have k2 := absR_tri ((s - S) + y2 * e1) (S + y2)
    rw [← k1, absR_of_nn (show 0 ≤ S + y2 by grind)] at k2
    grind
  have q5 : absR ((s + y2 * (1 + e1)) * e2) * 2 ^ 23 * 2 ≤ 3 * (S + y2) := by
    rw [absR_mul]
    have := mul_nn (absR_nn (s + y2 * (1 + e1))) (show 0 ≤ 1 - absR e2 * 2 ^ 23 by grind)
    grind
  rw [e]
  generalize absR ((s - S) + y2 * e1 + (s + y2 * (1 + e1)) * e2) = B0 at *
  generalize absR ((s - S) + y2 * e1) = B1 at *
  generalize absR ((s + y2 * (1 + e1)) * e2) = B2 at *
  generalize absR (s - S) = B3 at *
  generalize absR (y2 * e1) = B4 at *
  clear e q4 h1 h2
  grind
theorem squares {n : Nat} {Y : Nat → Nat} {y : Nat → Rat} {k : Int} (hk : -62 ≤ k) (n8 : n ≤ 8) (hv : ∀ i, i < n → V32 (Y i) (y i)) (hlo : ∀ i, i < n → tw k ≤ y i) (hhi : sumF (fun j => y j * y j) n ≤ tw 24) : ∀ i, i ≤ n →
    ∃ s, V32 (sW Y i) s ∧ absR (s - sumF (fun j => y j * y j) i) * 2 ^ 23 ≤ 3 * (i : Rat) * sumF (fun j => y j * y j) i ∧ (0 < i → tw (2 * k) ≤ sumF (fun j => y j * y j) i)
  | 0, _ => ⟨0, v0, by show absR ((0 : Rat) - 0) * 2 ^ 23 ≤ 3 * ((0 : Nat) : Rat) * 0; decide +kernel, fun h => by omega⟩
  | i + 1, hi => by
    obtain ⟨s, s1, s2, _⟩ := squares hk n8 hv hlo hhi i (by omega)
    have hyn : ∀ j, j < n → 0 ≤ y j * y j := fun j hj => by have := hlo j hj; have := tw_pos k; exact mul_nn (by grind) (by grind)
    have hy2 := hyn i (by omega)
    have hone := sum_one hyn (show i < n by omega)
    have hSi : sumF (fun j => y j * y j) i + y i * y i ≤ sumF (fun j => y j * y j) n := by
      have hmono : ∀ m l : Nat, l ≤ m → m ≤ n → sumF (fun j => y j * y j) l ≤ sumF (fun j => y j * y j) m := by
        intro m
        induction m with
        | zero =>
          intro l hl _
          have h0 : l = 0 := by omega
          rw [h0]
          exact Rat.le_refl
        | succ m ih =>
          intro l hl hm
          by_cases h : l = m + 1
          · rw [h]; exact Rat.le_refl
          · have h1 := ih l (by omega) (by omega)
            have h2 := hyn m (by omega)
            show _ ≤ sumF (fun j => y j * y j) m + y m * y m
            grind
      exact hmono n (i + 1) hi (Nat.le_refl _)
    have hS0 := sum_nn (f := fun j => y j * y j) (n := i) fun j hj => hyn j (by omega)
    have hlo2 : tw (2 * k) ≤ y i * y i := by
      have e : tw (2 * k) = tw k * tw k := by rw [← tw_add]; congr 1; omega
      rw [e]
      have h1 := hlo i (by omega)
      have h2 := tw_pos k
      have := mul_nn (show 0 ≤ y i - tw k by grind) (show 0 ≤ y i + tw k by grind)
      grind
    have habs : absR (y i * y i) = y i * y i := absR_of_nn hy2
    have e25 : tw 25 = 2 * tw 24 := by decide +kernel
    have e26 : tw 26 = 4 * tw 24 := by decide +kernel
    have p24 := tw_pos 24
    have hyv := hv i (by omega)
    obtain ⟨p, p1, p2⟩ := fmul hyv hyv (lt127 (k := 24) (by rw [habs]; grind) (by decide))
    obtain ⟨e1, p3, p4⟩ := r_rel p2 (k := 2 * k) (by omega) (by rw [habs]; exact hlo2)
    have hplo : tw (2 * k) ≤ p := r_ge_tw p2 (by omega) hlo2
    have hphi : p ≤ tw 24 := r_le_tw p2 (by decide) (by grind)
    have hir : (i : Rat) ≤ ((8 : Nat) : Rat) := le_nat (by omega)
    have h8c : ((8 : Nat) : Rat) = 8 := rfl
    rw [h8c] at hir
    have hi0 := nn_nat i
    have hsn : 0 ≤ s ∧ s ≤ 2 * tw 24 := by
      have i1 := mul_nn (show 0 ≤ 8 - (i : Rat) by grind) hS0
      have : absR (s - sumF (fun j => y j * y j) i) ≤ sumF (fun j => y j * y j) i := by grind
      rw [le_both] at this
      constructor <;> grind
    have hspos : absR (s + p) = s + p := absR_of_nn (by have := tw_pos (2 * k); grind)
    obtain ⟨t, t1, t2⟩ := fadd s1 p1 (lt127 (k := 26) (by rw [hspos]; grind) (by decide))
    obtain ⟨e2, t3, t4⟩ := r_rel t2 (k := 2 * k) (by omega) (by rw [hspos]; grind)
    refine ⟨t, t1, ?_, fun _ => ?_⟩
    · have hcast : ((i + 1 : Nat) : Rat) = i + 1 := by push_cast; rfl
      rw [hcast, t3, p3]
      exact sq_step ⟨hi0, hir⟩ hS0 hy2 s2 p4 t4
    · show tw (2 * k) ≤ sumF (fun j => y j * y j) i + y i * y i
      grind
theorem root_v {x : Nat} {s : Rat} (hx : V32 x s) (h0 : tw (-150) ≤ s) (h1 : s ≤ tw 100) : ∃ R, V32 (rootF x) R ∧ 0 < R ∧ absR (R * R - s) * 2 ^ 21 ≤ s := by
  obtain ⟨r, r1, r2, r3⟩ := sqrt_v (up_v hx) (Rat.le_trans (tw_mono (by decide)) h0) (Rat.le_trans h1 (tw_mono (by decide)))
  have hs : 0 < s := by have := tw_pos (-150); grind
  have r4 : absR (r * r - s) * 2 ^ 40 ≤ s := by
    have e : s / 2 ^ 40 * 2 ^ 40 = s := by grind
    have := Rat.mul_le_mul_of_nonneg_right r3 (show (0 : Rat) ≤ 2 ^ 40 by decide +kernel)
    rw [e] at this
    exact this
  have r5 : absR (r * r - s) ≤ s * (1 / 2 ^ 40) := by grind
  have hlo : tw (-100) ≤ r := by
    refine Rat.not_lt.1 fun hlt => ?_
    have k1 := Rat.mul_pos (show 0 < tw (-100) - r by grind) (show 0 < tw (-100) + r by have := tw_pos (-100); grind)
    have k2 : tw (-100) * tw (-100) = tw (-200) := by rw [← tw_add]; rfl
    have k3 : tw (-150) = 2 ^ 50 * tw (-200) := by decide +kernel
    have k4 := tw_pos (-200)
    rw [le_both] at r5
    grind
  have hhi : r ≤ tw 60 := by
    refine Rat.not_lt.1 fun hlt => ?_
    have k1 := Rat.mul_pos (show 0 < r - tw 60 by grind) (show 0 < tw 60 + r by have := tw_pos 60; grind)
    have k2 : tw 60 * tw 60 = 2 ^ 20 * tw 100 := by decide +kernel
    have k4 := tw_pos 100
    rw [le_both] at r5
    grind
  have habs : absR r = r := absR_of_nn (by grind)
  obtain ⟨R, R1, R2⟩ := down_v r1 (rootF_eq x) (lt127 (k := 60) (by rw [habs]; exact hhi) (by decide))
  obtain ⟨e, R3, R4⟩ := r_rel R2 (k := -100) (by decide) (by rw [habs]; exact hlo)
  have he : absR e ≤ 1 / 2 ^ 23 := by grind
  have he2 := mul23 R4 R4
  have hR0 : 0 < R := by
    rw [le_both] at he
    rw [R3]
    exact Rat.mul_pos r2 (by grind)
  refine ⟨R, R1, hR0, ?_⟩
  have eR : R * R - s = (r * r - s) + r * r * (2 * e + e * e) := by rw [R3]; grind
  have q1 := absR_tri (r * r - s) (r * r * (2 * e + e * e))
  have q0 : 0 ≤ r * r := mul_nn (Rat.le_of_lt r2) (Rat.le_of_lt r2)
  have q2 : absR (r * r * (2 * e + e * e)) = r * r * absR (2 * e + e * e) := by rw [absR_mul, absR_of_nn q0]
  have q3 := absR_tri (2 * e) (e * e)
  have q4 : absR (2 * e) = 2 * absR e := by rw [absR_mul, show absR (2 : Rat) = 2 by decide +kernel]
  have q5 : absR (2 * e + e * e) * 2 ^ 23 ≤ 21 / 10 := by grind
  have q6 := mul_nn q0 (show 0 ≤ 21 / 10 - absR (2 * e + e * e) * 2 ^ 23 by grind)
  have q7 : r * r ≤ s * (11 / 10) := by rw [le_both] at r5; grind
  rw [eR]
  generalize absR (r * r - s + r * r * (2 * e + e * e)) = B0 at *
  generalize absR (r * r - s) = B1 at *
  generalize absR (2 * e + e * e) = B2 at *
  generalize absR (r * r * B2) = B4 at *
  generalize r * r = rr at *
  clear eR he he2 R3 q4 r3
  grind
end Go.Proofs.Ytpeplbbphpamhaa.Ab

namespace Go.Proofs.Ytpeplbbphpamhaa.Ab
set_option linter.unusedVariables false
set_option linter.unusedSimpArgs false
open Go
def sqW (b e : Nat) (X U : Nat → Nat) (n : Nat) : Nat := rootF (sW (yI b e X U n) n)
def nextU (b e : Nat) (X U : Nat → Nat) (n i : Nat) : Nat := fop .quo .f32 (yI b e X U n i) (sqW b e X U n)
structure Good (n : Nat) (U : Nat → Nat) (k : Int) (C : Rat) : Prop where
  v : ∀ i, i < n → V32 (U i) (val (U i)) ∧ tw k ≤ val (U i) ∧ val (U i) ≤ 2
  size : sumF (fun j => val (U j) * val (U j)) n ≤ C
structure Round (n b e : Nat) (X U : Nat → Nat) (R : Rat) (k : Int) : Prop where
  r : V32 (sqW b e X U n) R
  r0 : 0 < R
  r1 : R ≤ 4096
  v : ∀ i, i < n → V32 (nextU b e X U n i) (val (nextU b e X U n i))
  lo : ∀ i, i < n → tw (k - 18) ≤ val (nextU b e X U n i)
  hi : ∀ i, i < n → val (nextU b e X U n i) ≤ 1001 / 1000
  near : ∀ i, i < n → absR (val (nextU b e X U n i) * R - val (yI b e X U n i)) * 2 ^ 23 ≤ val (yI b e X U n i)
  rr : absR (R * R - sumF (fun j => val (yI b e X U n j) * val (yI b e X U n j)) n) * 2 ^ 18 ≤ sumF (fun j => val (yI b e X U n j) * val (yI b e X U n j)) n
  one : absR (sumF (fun j => val (nextU b e X U n j) * val (nextU b e X U n j)) n - 1) * 2 ^ 17 ≤ 1
theorem next_num {y R u : Rat} (hR : 0 < R) (hy : 0 ≤ y) (hu : 0 ≤ u) (h : absR (u * R - y) * 2 ^ 23 ≤ y) : absR (R * R * (u * u) - y * y) * 2 ^ 23 ≤ 21 / 10 * (y * y) := by
  have e : R * R * (u * u) - y * y = (u * R - y) * (u * R + y) := by grind
  have huR := mul_nn hu (Rat.le_of_lt hR)
  have h1 : absR (u * R - y) ≤ y * (1 / 20) := by grind
  rw [le_both] at h1
  rw [e, absR_mul, absR_of_nn (show 0 ≤ u * R + y by grind)]
  have i1 := mul_nn (show 0 ≤ y - absR (u * R - y) * 2 ^ 23 by grind) (show 0 ≤ u * R + y by grind)
  have i2 := mul_nn hy (show 0 ≤ 205 / 100 * y - (u * R + y) by grind)
  have i3 := mul_nn hy hy
  grind
theorem sum_close {f h : Nat → Rat} {c : Rat} {n : Nat} (H : ∀ i, i < n → absR (f i - h i) * 2 ^ 23 ≤ c * h i) : absR (sumF f n - sumF h n) * 2 ^ 23 ≤ c * sumF h n := by
  induction n with
  | zero => show absR ((0 : Rat) - 0) * 2 ^ 23 ≤ c * 0; have : absR ((0 : Rat) - 0) = 0 := by decide +kernel
            rw [this]; grind
  | succ n ih =>
    have h1 := ih fun i hi => H i (by omega)
    have h2 := H n (by omega)
    have e : sumF f (n + 1) - sumF h (n + 1) = (sumF f n - sumF h n) + (f n - h n) := by show sumF f n + f n - (sumF h n + h n) = _; grind
    have q := absR_tri (sumF f n - sumF h n) (f n - h n)
    rw [e]
    show _ ≤ c * (sumF h n + h n)
    grind
theorem sum_mul (f : Nat → Rat) (a : Rat) (n : Nat) : sumF (fun i => a * f i) n = a * sumF f n := by
  induction n with
  | zero => show (0 : Rat) = a * 0; grind
  | succ n ih => show sumF _ n + _ = a * (sumF f n + f n); rw [ih]; grind
theorem one_num {A B Y : Rat} (hY : 0 < Y) (hA : absR (A - Y) * 2 ^ 18 ≤ Y) (hB : absR (A * B - Y) * 2 ^ 23 ≤ 21 / 10 * Y) : absR (B - 1) * 2 ^ 17 ≤ 1 := by
  have hA0 : absR (A - Y) ≤ Y * (1 / 2 ^ 18) := by grind
  have hAY := hA0
  rw [le_both] at hAY
  have hApos : 0 < A := by grind
  have e : A * (B - 1) = (A * B - Y) - (A - Y) := by grind
  have q := absR_sub (A * B - Y) (A - Y)
  rw [← e, absR_mul, absR_of_nn (Rat.le_of_lt hApos)] at q
  refine mul_cancel (c := A) ?_ hApos
  generalize absR (A * B - Y) = P at *
  generalize absR (A - Y) = Q at *
  generalize absR (B - 1) = D at *
  clear e
  grind
theorem round_ok {n b e : Nat} {X : Nat → Nat} {a : Nat → Rat} {g E : Rat} (h : Sys n b e X a g E) {U : Nat → Nat} {k : Int} {C : Rat} (hk : -56 ≤ k) (hU : Good n U k C) (hC : C ≤ 9) : ∃ R, Round n b e X U R k := by
  have r := rounds_eq h (show -90 ≤ k by omega) hU.v
  have n0 := h.n0
  have hle := norm_le h r
  have hY24 : sumF (fun j => val (yI b e X U n j) * val (yI b e X U n j)) n ≤ tw 24 := by
    have e24 : tw 24 = 16777216 := by decide +kernel
    have hc : c0 = 43 / 50000 := rfl
    have := hU.size
    rw [hc] at hle
    rw [e24]
    grind
  obtain ⟨s, s1, s2, s3⟩ := squares (k := k - 6) (by omega) h.n8 r.v r.lo hY24 n (Nat.le_refl _)
  have s3 := s3 n0
  have hyn : ∀ j, j < n → 0 ≤ val (yI b e X U n j) * val (yI b e X U n j) := fun j hj => mul_nn (r.nn j (by omega)) (r.nn j (by omega))
  have hone := fun j (hj : j < n) => sum_one hyn hj
  generalize hYv : sumF (fun j => val (yI b e X U n j) * val (yI b e X U n j)) n = Y at *
  have hY0 : 0 < Y := by have := tw_pos (2 * (k - 6)); grind
  have hn8 : (n : Rat) ≤ 8 := by have := le_nat h.n8; have e : ((8 : Nat) : Rat) = 8 := rfl; rw [e] at this; exact this
  have hs : absR (s - Y) * 2 ^ 23 ≤ 24 * Y := by
    have := mul_nn (show 0 ≤ 8 - (n : Rat) by grind) (Rat.le_of_lt hY0)
    grind
  have hs1 : absR (s - Y) ≤ Y * (1 / 1000) := by grind
  have hs2 := hs1
  rw [le_both] at hs2
  have e2k : tw (2 * (k - 6)) = 2 * tw (2 * (k - 6) - 1) := by
    rw [show (2 : Rat) = tw 1 by decide +kernel, ← tw_add]
    congr 1
    omega
  have p2k := tw_pos (2 * (k - 6) - 1)
  obtain ⟨R, R1, R2, R3⟩ := root_v s1 (Rat.le_trans (tw_mono (show -150 ≤ 2 * (k - 6) - 1 by omega)) (by grind)) (by
    have e25 : tw 25 = 2 * tw 24 := by decide +kernel
    have := tw_mono (show (25 : Int) ≤ 100 by decide)
    grind)
  have hRR : absR (R * R - Y) * 2 ^ 18 ≤ Y := by
    have e : R * R - Y = (R * R - s) + (s - Y) := by grind
    have q := absR_tri (R * R - s) (s - Y)
    rw [← e] at q
    generalize absR (R * R - Y) = B0 at *
    generalize absR (R * R - s) = B1 at *
    generalize absR (s - Y) = B2 at *
    clear e hle
    grind
  have hRR1 : absR (R * R - Y) ≤ Y * (1 / 1000) := by grind
  rw [le_both] at hRR1
  have hR12 : R ≤ 4096 := by
    refine Rat.not_lt.1 fun hlt => ?_
    have := Rat.mul_pos (show 0 < R - 4096 by grind) (show 0 < R + 4096 by grind)
    have hc : c0 = 43 / 50000 := rfl
    have := hU.size
    rw [hc] at hle
    grind
  have key : ∀ i, i < n → ∃ z, V32 (nextU b e X U n i) z ∧ tw (k - 18) ≤ z ∧ absR (z * R - val (yI b e X U n i)) * 2 ^ 23 ≤ val (yI b e X U n i) := by
    intro i hi
    have y1 := r.v i hi
    have y2 := r.lo i hi
    have y3 := r.nn i (by omega)
    have y4 := hone i hi
    have e1 : val (yI b e X U n i) / R * R = val (yI b e X U n i) := by grind
    have hq0 : 0 ≤ val (yI b e X U n i) / R := by
      have := tw_pos (k - 6)
      exact Rat.le_of_lt (div_pos' (by grind) R2)
    have habs : absR (val (yI b e X U n i) / R) = val (yI b e X U n i) / R := absR_of_nn hq0
    have hq2 : val (yI b e X U n i) / R ≤ 2 := by
      refine Rat.not_lt.1 fun hlt => ?_
      have k1 := Rat.mul_pos (show 0 < val (yI b e X U n i) / R - 2 by grind) R2
      have k2 := Rat.mul_pos (show 0 < val (yI b e X U n i) - 2 * R by grind) (show 0 < val (yI b e X U n i) + 2 * R by grind)
      grind
    have hqlo : tw (k - 18) ≤ val (yI b e X U n i) / R := by
      refine mul_cancel (c := R) ?_ R2
      rw [e1]
      have e6 : tw (k - 6) = 4096 * tw (k - 18) := by
        rw [show (4096 : Rat) = tw 12 by decide +kernel, ← tw_add]
        congr 1
        omega
      have := mul_nn (Rat.le_of_lt (tw_pos (k - 18))) (show 0 ≤ 4096 - R by grind)
      grind
    have e2 : tw 1 = 2 := by decide +kernel
    obtain ⟨z, z1, z2⟩ := fdiv y1 R1 (by grind) (lt127 (k := 1) (by rw [habs, e2]; exact hq2) (by decide))
    obtain ⟨e', z3, z4⟩ := r_rel z2 (k := k - 18) (by omega) (by rw [habs]; exact hqlo)
    refine ⟨z, z1, r_ge_tw z2 (by omega) hqlo, ?_⟩
    have e3 : z * R - val (yI b e X U n i) = val (yI b e X U n i) * e' := by
      rw [z3]
      grind
    rw [e3, absR_mul, absR_of_nn y3]
    have := mul_nn y3 (show 0 ≤ 1 - absR e' * 2 ^ 23 by grind)
    grind
  have key2 : ∀ i, i < n → V32 (nextU b e X U n i) (val (nextU b e X U n i)) ∧ tw (k - 18) ≤ val (nextU b e X U n i) ∧ absR (val (nextU b e X U n i) * R - val (yI b e X U n i)) * 2 ^ 23 ≤ val (yI b e X U n i) := by
    intro i hi
    obtain ⟨z, z1, z2, z3⟩ := key i hi
    rw [val_eq z1]
    exact ⟨z1, z2, z3⟩
  have hsum : absR (R * R * sumF (fun j => val (nextU b e X U n j) * val (nextU b e X U n j)) n - Y) * 2 ^ 23 ≤ 21 / 10 * Y := by
    rw [← sum_mul, ← hYv]
    refine sum_close fun i hi => ?_
    obtain ⟨z1, z2, z3⟩ := key2 i hi
    have := tw_pos (k - 18)
    exact next_num R2 (r.nn i (by omega)) (by grind) z3
  have hfin := one_num hY0 hRR hsum
  refine ⟨R, R1, R2, hR12, fun i hi => (key2 i hi).1, fun i hi => (key2 i hi).2.1, fun i hi => ?_, fun i hi => (key2 i hi).2.2, by rw [hYv]; exact hRR, hfin⟩
  have hz0 : ∀ j, j < n → 0 ≤ val (nextU b e X U n j) * val (nextU b e X U n j) := fun j hj => by
    have h1 := (key2 j hj).2.1
    have h2 := tw_pos (k - 18)
    exact mul_nn (by grind) (by grind)
  have h1 := sum_one hz0 hi
  have h2 := (key2 i hi).2.1
  have h3 := tw_pos (k - 18)
  have h4 : absR (sumF (fun j => val (nextU b e X U n j) * val (nextU b e X U n j)) n - 1) ≤ 1 / 2 ^ 17 := by grind
  rw [le_both] at h4
  refine Rat.not_lt.1 fun hlt => ?_
  have := Rat.mul_pos (show 0 < val (nextU b e X U n i) - 1001 / 1000 by grind) (show 0 < val (nextU b e X U n i) + 1001 / 1000 by grind)
  grind
end Go.Proofs.Ytpeplbbphpamhaa.Ab

namespace Go.Proofs.Ytpeplbbphpamhaa.Ab
set_option linter.unusedVariables false
set_option linter.unusedSimpArgs false
open Go
def th2 : Rat := 11 / 10000
def phi (γ u : Nat → Rat) : Nat → Rat
  | 0 => u 0
  | i + 1 => u (i + 1) + γ i * phi γ u i
theorem phi_le {γ u w : Nat → Rat} : ∀ m, (∀ i, i < m → 0 ≤ γ i) → (∀ i, i ≤ m → u i ≤ w i) → phi γ u m ≤ phi γ w m
  | 0, _, h => h 0 (Nat.le_refl _)
  | m + 1, hγ, h => by
    have h1 := phi_le m (fun i hi => hγ i (by omega)) (fun i hi => h i (by omega))
    have h2 := h (m + 1) (Nat.le_refl _)
    have h3 := mul_nn (hγ m (by omega)) (show 0 ≤ phi γ w m - phi γ u m by grind)
    show u (m + 1) + γ m * phi γ u m ≤ w (m + 1) + γ m * phi γ w m
    grind
theorem phi_mul {γ u : Nat → Rat} (c : Rat) : ∀ m, phi γ (fun i => c * u i) m = c * phi γ u m
  | 0 => rfl
  | m + 1 => by
    show c * u (m + 1) + γ m * phi γ (fun i => c * u i) m = c * (u (m + 1) + γ m * phi γ u m)
    rw [phi_mul c m]
    grind
theorem grow {a y u : Nat → Rat} {E g : Rat} {m : Nat} (hpos : ∀ i, i < m → 0 < dP (g * g) (E + th2) a i) (hg : 0 ≤ g) (hrow : ∀ i, i ≤ m → u i ≤ rowA a E g y i + y i * (1 / 25000)) : ∀ i, i ≤ m →
    phi (fun j => g / dP (g * g) (E + th2) a j) u i ≤ 57 / 50000 * phi (fun j => g / dP (g * g) (E + th2) a j) y i + dP (g * g) (E + th2) a i * y i - g * y (i + 1)
  | 0, _ => by
    have h1 := hrow 0 (by omega)
    have ht : th2 = 11 / 10000 := rfl
    have h2 : rowA a E g y 0 = (a 0 - E) * y 0 - g * y 1 := rfl
    show u 0 ≤ 57 / 50000 * y 0 + (a 0 - (E + th2)) * y 0 - g * y 1
    rw [h2] at h1
    rw [ht]
    grind
  | i + 1, hi => by
    have ih := grow hpos hg hrow i (by omega)
    have h1 := hrow (i + 1) hi
    have hp := hpos i (by omega)
    have ht : th2 = 11 / 10000 := rfl
    have h2 : rowA a E g y (i + 1) = (a (i + 1) - E) * y (i + 1) - g * y i - g * y (i + 2) := rfl
    have hD : dP (g * g) (E + th2) a (i + 1) = a (i + 1) - (E + th2) - g * g / dP (g * g) (E + th2) a i := rfl
    have hu : phi (fun j => g / dP (g * g) (E + th2) a j) u (i + 1) = u (i + 1) + g / dP (g * g) (E + th2) a i * phi (fun j => g / dP (g * g) (E + th2) a j) u i := rfl
    have hy : phi (fun j => g / dP (g * g) (E + th2) a j) y (i + 1) = y (i + 1) + g / dP (g * g) (E + th2) a i * phi (fun j => g / dP (g * g) (E + th2) a j) y i := rfl
    rw [hu, hy, hD]
    rw [h2] at h1
    have e1 : g / dP (g * g) (E + th2) a i * dP (g * g) (E + th2) a i = g := by grind
    have e2 : g * g / dP (g * g) (E + th2) a i = g / dP (g * g) (E + th2) a i * g := by grind
    have hγ : 0 ≤ g / dP (g * g) (E + th2) a i := by
      rcases Rat.le_iff_lt_or_eq.1 hg with h | h
      · exact Rat.le_of_lt (div_pos' h hp)
      · rw [← h]; grind
    rw [e2]
    generalize g / dP (g * g) (E + th2) a i = γ at *
    generalize dP (g * g) (E + th2) a i = D at *
    generalize phi (fun j => g / dP (g * g) (E + th2) a j) u i = P at *
    generalize phi (fun j => g / dP (g * g) (E + th2) a j) y i = Q at *
    rw [ht]
    show u (i + 1) + γ * P ≤ 57 / 50000 * (y (i + 1) + γ * Q) + (a (i + 1) - (E + 11 / 10000) - γ * g) * y (i + 1) - g * y (i + 2)
    have h3 := mul_nn hγ (show 0 ≤ 57 / 50000 * Q + D * y i - g * y (i + 1) - P by grind)
    have e3 : γ * (D * y i) = g * y i := by rw [← e1]; grind
    grind
theorem grow_last {a y u : Nat → Rat} {E g : Rat} {m : Nat} (hpos : ∀ i, i < m → 0 < dP (g * g) (E + th2) a i) (hm : dP (g * g) (E + th2) a m ≤ 0) (hg : 0 ≤ g) (hy0 : 0 ≤ y m) (hy1 : 0 ≤ y (m + 1)) (hrow : ∀ i, i ≤ m → u i ≤ rowA a E g y i + y i * (1 / 25000)) :
    phi (fun j => g / dP (g * g) (E + th2) a j) u m ≤ 57 / 50000 * phi (fun j => g / dP (g * g) (E + th2) a j) y m := by
  have h := grow hpos hg hrow m (Nat.le_refl _)
  have h1 := mul_nn (show 0 ≤ -dP (g * g) (E + th2) a m by grind) hy0
  have h2 := mul_nn hg hy1
  grind
theorem phi_round {n b e : Nat} {X U : Nat → Nat} {a : Nat → Rat} {g E R : Rat} {k : Int} {m : Nat} (h : Sys n b e X a g E) (hr : Rnds n b e X U a (fun i => val (U i)) (fun i => val (yI b e X U n i)) g E k) (hR : Round n b e X U R k) (hm : m < n) (hpos : ∀ i, i < m → 0 < dP (g * g) (E + th2) a i) (hm0 : dP (g * g) (E + th2) a m ≤ 0) :
    phi (fun j => g / dP (g * g) (E + th2) a j) (fun i => val (U i)) m ≤ 57 / 50000 * R * (1001 / 1000) * phi (fun j => g / dP (g * g) (E + th2) a j) (fun i => val (nextU b e X U n i)) m := by
  have hg : 0 ≤ g := by have := h.g0; grind
  have key1 : ∀ i, i ≤ m → val (U i) ≤ rowA a E g (fun i => val (yI b e X U n i)) i + val (yI b e X U n i) * (1 / 25000) := by
    intro i hi
    have h2 := row_eq hr i (show i < n by omega)
    have h3 : 0 ≤ val (yI b e X U n i) := hr.nn i (by omega)
    generalize rowA a E g (fun i => val (yI b e X U n i)) i = A at *
    have h2 : absR (A - val (U i)) * 25000 ≤ val (yI b e X U n i) := h2
    generalize val (yI b e X U n i) = y at *
    generalize val (U i) = u at *
    have h4 : absR (A - u) ≤ y * (1 / 25000) := by grind
    rw [le_both] at h4
    grind
  have key2 : ∀ i, i ≤ m → val (yI b e X U n i) ≤ R * (1001 / 1000) * val (nextU b e X U n i) := by
    intro i hi
    have h5 := hR.near i (show i < n by omega)
    have h6 : 0 ≤ val (yI b e X U n i) := hr.nn i (by omega)
    generalize val (yI b e X U n i) = y at *
    generalize val (nextU b e X U n i) = u at *
    have h7 : absR (u * R - y) ≤ y * (1 / 2000) := by grind
    rw [le_both] at h7
    grind
  have n1 : 0 ≤ val (yI b e X U n m) := hr.nn m (by omega)
  have n2 : 0 ≤ val (yI b e X U n (m + 1)) := hr.nn (m + 1) (by omega)
  have h1 := grow_last (y := fun i => val (yI b e X U n i)) (u := fun i => val (U i)) hpos hm0 hg n1 n2 key1
  have hγ : ∀ i, i < m → 0 ≤ (fun j => g / dP (g * g) (E + th2) a j) i := by
    intro i hi
    have hp := hpos i hi
    show 0 ≤ g / dP (g * g) (E + th2) a i
    rcases Rat.le_iff_lt_or_eq.1 hg with h | h
    · exact Rat.le_of_lt (div_pos' h hp)
    · rw [← h]; grind
  have h4 := phi_le (γ := fun j => g / dP (g * g) (E + th2) a j) (u := fun i => val (yI b e X U n i)) (w := fun i => R * (1001 / 1000) * val (nextU b e X U n i)) m hγ key2
  rw [phi_mul] at h4
  generalize phi (fun j => g / dP (g * g) (E + th2) a j) (fun i => val (U i)) m = A at *
  generalize phi (fun j => g / dP (g * g) (E + th2) a j) (fun i => val (yI b e X U n i)) m = B at *
  generalize phi (fun j => g / dP (g * g) (E + th2) a j) (fun i => val (nextU b e X U n i)) m = C at *
  clear key1 key2 hγ hpos hm0
  grind
theorem grow_num {p0 p1 p2 p3 p4 R1 R2 R3 R4 : Rat} (h0 : 0 < p0) (h1 : 0 ≤ p1) (h2 : 0 ≤ p2) (h3 : 0 ≤ p3) (h4 : 0 ≤ p4) (q1 : p0 ≤ 57 / 50000 * R1 * (1001 / 1000) * p1) (q2 : p1 ≤ 57 / 50000 * R2 * (1001 / 1000) * p2) (q3 : p2 ≤ 57 / 50000 * R3 * (1001 / 1000) * p3) (q4 : p3 ≤ 57 / 50000 * R4 * (1001 / 1000) * p4)
    (q5 : p4 ≤ 1001 / 1000 * p0) (r1 : R1 ≤ 3292) (r2 : R2 ≤ 1164) (r3 : R3 ≤ 1164) : 125 ≤ R4 := by
  refine Rat.not_lt.1 fun hlt => ?_
  have a1 := mul_nn h1 (show 0 ≤ 3292 - R1 by grind)
  have a2 := mul_nn h2 (show 0 ≤ 1164 - R2 by grind)
  have a3 := mul_nn h3 (show 0 ≤ 1164 - R3 by grind)
  have a4 := mul_nn h4 (show 0 ≤ 125 - R4 by grind)
  grind
end Go.Proofs.Ytpeplbbphpamhaa.Ab

namespace Go.Proofs.Ytpeplbbphpamhaa.Ab
set_option linter.unusedVariables false
set_option linter.unusedSimpArgs false
open Go
def uW (b e : Nat) (X : Nat → Nat) (n : Nat) : Nat → Nat → Nat
  | 0 => fun _ => 1065353216
  | t + 1 => nextU b e X (uW b e X n t) n
theorem resid_num {A x xp xn y yp yn R u g d : Rat} (hA : absR A ≤ 14) (hg : 0 ≤ g ∧ g ≤ 2) (hR : 125 ≤ R) (h1 : absR (x * R - y) * 2 ^ 23 ≤ y) (h2 : absR (xp * R - yp) * 2 ^ 23 ≤ yp) (h3 : absR (xn * R - yn) * 2 ^ 23 ≤ yn)
    (y1 : 0 ≤ y ∧ y * 1000 ≤ 1002 * R) (y2 : 0 ≤ yp ∧ yp * 1000 ≤ 1002 * R) (y3 : 0 ≤ yn ∧ yn * 1000 ≤ 1002 * R) (hrow : absR ((A + d) * y - g * yp - g * yn - u) * 25000 ≤ y) (hu : 0 ≤ u ∧ u ≤ 1001 / 1000) (hd : 998 / 1000000 ≤ d ∧ d ≤ 1002 / 1000000) :
    absR (A * x - g * xp - g * xn) ≤ 81 / 10000 := by
  have hR0 : 0 < R := by grind
  have e : (A * x - g * xp - g * xn) * R = (A * (x * R - y) - g * (xp * R - yp) - g * (xn * R - yn)) + (((A + d) * y - g * yp - g * yn - u) + (u - d * y)) := by grind
  have b1 : absR (A * (x * R - y)) * 2 ^ 23 * 1000 ≤ 14028 * R := by
    rw [absR_mul]
    have := mul_nn (show 0 ≤ 14 - absR A by grind) (absR_nn (x * R - y))
    grind
  have b2 : absR (g * (xp * R - yp)) * 2 ^ 23 * 1000 ≤ 2004 * R := by
    rw [absR_mul, absR_of_nn hg.1]
    have := mul_nn (show 0 ≤ 2 - g by grind) (absR_nn (xp * R - yp))
    grind
  have b3 : absR (g * (xn * R - yn)) * 2 ^ 23 * 1000 ≤ 2004 * R := by
    rw [absR_mul, absR_of_nn hg.1]
    have := mul_nn (show 0 ≤ 2 - g by grind) (absR_nn (xn * R - yn))
    grind
  have b4 : absR ((u - d * y) * 100000) ≤ 801 * R := by
    have k1 := mul_nn (show 0 ≤ 1002 - d * 1000000 by grind) y1.1
    have k2 := mul_nn (show 0 ≤ d * 1000000 - 998 by grind) y1.1
    have k3 : u * 1000 ≤ 1001 := by grind
    have k4 := hu.1
    clear hd hu hrow e b1 b2 b3
    rw [le_both]
    constructor <;> grind
  have b4 : absR (u - d * y) * 100000 ≤ 801 * R := by
    rw [absR_mul] at b4
    rw [show absR (100000 : Rat) = 100000 by decide +kernel] at b4
    exact b4
  have b5 : absR ((A + d) * y - g * yp - g * yn - u) * 25000000 ≤ 1002 * R := by grind
  have q1 := absR_tri (A * (x * R - y) - g * (xp * R - yp) - g * (xn * R - yn)) (((A + d) * y - g * yp - g * yn - u) + (u - d * y))
  have q2 := absR_tri ((A + d) * y - g * yp - g * yn - u) (u - d * y)
  have q3 := absR_sub (A * (x * R - y) - g * (xp * R - yp)) (g * (xn * R - yn))
  have q4 := absR_sub (A * (x * R - y)) (g * (xp * R - yp))
  rw [← e, absR_mul, absR_of_nn (Rat.le_of_lt hR0)] at q1
  suffices hfin : absR (A * x - g * xp - g * xn) * 10000 ≤ 81 by grind
  refine mul_cancel (c := R) ?_ hR0
  generalize absR (A * x - g * xp - g * xn) = B0 at *
  generalize absR (A * (x * R - y) - g * (xp * R - yp) - g * (xn * R - yn)) = B1 at *
  generalize absR ((A + d) * y - g * yp - g * yn - u + (u - d * y)) = B2 at *
  generalize absR ((A + d) * y - g * yp - g * yn - u) = B3 at *
  generalize absR (u - d * y) = B4 at *
  generalize absR (A * (x * R - y) - g * (xp * R - yp)) = B5 at *
  generalize absR (A * (x * R - y)) = B6 at *
  generalize absR (g * (xp * R - yp)) = B7 at *
  generalize absR (g * (xn * R - yn)) = B8 at *
  clear e h1 h2 h3 hrow hu hd y1 y2 y3
  grind
theorem one_v : V32 1065353216 1 := ⟨false, 8388608, -23, by decide +kernel, by decide +kernel⟩
theorem sum_const (n : Nat) : sumF (fun _ => (1 : Rat) * 1) n = n := by
  induction n with
  | zero => rfl
  | succ n ih =>
    show sumF (fun _ => (1 : Rat) * 1) n + 1 * 1 = _
    rw [ih]
    push_cast
    grind
theorem good0 {n b e : Nat} {X : Nat → Nat} (n8 : n ≤ 8) : Good n (uW b e X n 0) 0 8 := by
  have e1 : ∀ i, uW b e X n 0 i = 1065353216 := fun _ => rfl
  have e0 : tw 0 = 1 := by decide +kernel
  refine ⟨fun i _ => ?_, ?_⟩
  · rw [e1, val_eq one_v, e0]
    exact ⟨one_v, by decide +kernel, by decide +kernel⟩
  · have e2 : (fun j => val (uW b e X n 0 j) * val (uW b e X n 0 j)) = fun _ => (1 : Rat) * 1 := by
      funext j
      rw [e1, val_eq one_v]
    rw [e2, sum_const]
    have := le_nat n8
    have e8 : ((8 : Nat) : Rat) = 8 := rfl
    rw [e8] at this
    exact this
theorem good_next {n b e : Nat} {X U : Nat → Nat} {R : Rat} {k : Int} (r : Round n b e X U R k) : Good n (nextU b e X U n) (k - 18) (1001 / 1000) := by
  refine ⟨fun i hi => ⟨r.v i hi, r.lo i hi, ?_⟩, ?_⟩
  · have := r.hi i hi
    grind
  · have h := r.one
    have : absR (sumF (fun j => val (nextU b e X U n j) * val (nextU b e X U n j)) n - 1) ≤ 1 / 1000 := by grind
    rw [le_both] at this
    grind
theorem r_bound {n b e : Nat} {X U : Nat → Nat} {a : Nat → Rat} {g E R C B : Rat} {k : Int} (h : Sys n b e X a g E) (hr : Rnds n b e X U a (fun i => val (U i)) (fun i => val (yI b e X U n i)) g E k) (hR : Round n b e X U R k) (hU : Good n U k C) (hB : 0 ≤ B) (hCB : C * (11 / 10) * (1 + 1 / 1000) ≤ c0 * c0 * (B * B) * (11 / 10)) : R ≤ B := by
  have h1 := norm_le h hr
  have h2 := hU.size
  have h3 := hR.rr
  have h4 := hR.r0
  have h5 : c0 * c0 * sumF (fun j => val (yI b e X U n j) * val (yI b e X U n j)) n ≤ C := Rat.le_trans h1 h2
  generalize sumF (fun j => val (yI b e X U n j) * val (yI b e X U n j)) n = Y at *
  have hc : c0 = 43 / 50000 := rfl
  rw [hc] at h5 hCB
  refine Rat.not_lt.1 fun hlt => ?_
  have k1 := Rat.mul_pos (show 0 < R - B by grind) (show 0 < R + B by grind)
  have hY : 0 ≤ Y := by have := absR_nn (R * R - Y); grind
  have k2 : absR (R * R - Y) ≤ Y * (1 / 1000) := by grind
  rw [le_both] at k2
  grind
structure Done (n : Nat) (U : Nat → Nat) (a : Nat → Rat) (g lam : Rat) : Prop where
  v : ∀ i, i < n → V32 (U i) (val (U i))
  nn : ∀ i, i < n → 0 ≤ val (U i)
  lo : ∀ i, i < n → tw (-72) ≤ val (U i)
  hi : ∀ i, i < n → val (U i) ≤ 1001 / 1000
  one : absR (sumF (fun j => val (U j) * val (U j)) n - 1) * 2 ^ 17 ≤ 1
  row : ∀ i, i < n → absR (rowA a lam g (fun j => if j < n then val (U j) else 0) i) ≤ 81 / 10000
theorem four {n b e : Nat} {X : Nat → Nat} {a : Nat → Rat} {g E lam : Rat} {m : Nat} (h : Sys n b e X a g E) (hm : m < n) (hpos : ∀ i, i < m → 0 < dP (g * g) (E + th2) a i) (hm0 : dP (g * g) (E + th2) a m ≤ 0) (hl : E + 998 / 1000000 ≤ lam ∧ lam ≤ E + 1002 / 1000000) (hlow : ∀ i, i < n → -13 ≤ a i - E) :
    Done n (uW b e X n 4) a g lam := by
  have g0 := good0 (b := b) (e := e) (X := X) h.n8
  have d1 := rounds_eq h (k := 0) (by decide) g0.v
  obtain ⟨R1, f1⟩ := round_ok h (by decide) g0 (by decide +kernel)
  have g1 := good_next f1
  have d2 := rounds_eq h (by decide) g1.v
  obtain ⟨R2, f2⟩ := round_ok h (by decide) g1 (by decide +kernel)
  have g2 := good_next f2
  have d3 := rounds_eq h (by decide) g2.v
  obtain ⟨R3, f3⟩ := round_ok h (by decide) g2 (by decide +kernel)
  have g3 := good_next f3
  have d4 := rounds_eq h (by decide) g3.v
  obtain ⟨R4, f4⟩ := round_ok h (by decide) g3 (by decide +kernel)
  have b1 := r_bound (B := 3292) h d1 f1 g0 (by decide +kernel) (by decide +kernel)
  have b2 := r_bound (B := 1164) h d2 f2 g1 (by decide +kernel) (by decide +kernel)
  have b3 := r_bound (B := 1164) h d3 f3 g2 (by decide +kernel) (by decide +kernel)
  have hg : 0 ≤ g := by have := h.g0; grind
  have hγ : ∀ i, i < m → 0 ≤ (fun j => g / dP (g * g) (E + th2) a j) i := by
    intro i hi
    have hp := hpos i hi
    show 0 ≤ g / dP (g * g) (E + th2) a i
    rcases Rat.le_iff_lt_or_eq.1 hg with h | h
    · exact Rat.le_of_lt (div_pos' h hp)
    · rw [← h]; grind
  have zero : ∀ (U : Nat → Nat) (k : Int), (∀ i, i < n → tw k ≤ val (U i)) → 0 ≤ phi (fun j => g / dP (g * g) (E + th2) a j) (fun i => val (U i)) m := by
    intro U k hU
    have h0 := phi_le (γ := fun j => g / dP (g * g) (E + th2) a j) (u := fun i => 0 * (fun _ => (0 : Rat)) i) (w := fun i => val (U i)) m hγ (fun i hi => by
      have h1 := hU i (by omega)
      have h2 := tw_pos k
      show 0 * (0 : Rat) ≤ val (U i)
      grind)
    rw [phi_mul] at h0
    grind
  have p1 := phi_round h d1 f1 hm hpos hm0
  have p2 := phi_round h d2 f2 hm hpos hm0
  have p3 := phi_round h d3 f3 hm hpos hm0
  have p4 := phi_round h d4 f4 hm hpos hm0
  have z1 := zero _ _ f1.lo
  have z2 := zero _ _ f2.lo
  have z3 := zero _ _ f3.lo
  have z4 := zero _ _ f4.lo
  have e1 : ∀ i, uW b e X n 0 i = 1065353216 := fun _ => rfl
  have p5 := phi_le (γ := fun j => g / dP (g * g) (E + th2) a j) (u := fun i => val (nextU b e X (nextU b e X (nextU b e X (nextU b e X (uW b e X n 0) n) n) n) n i)) (w := fun i => 1001 / 1000 * (fun i => val (uW b e X n 0 i)) i) m hγ (fun i hi => by
    have h1 := f4.hi i (by omega)
    show _ ≤ 1001 / 1000 * val (uW b e X n 0 i)
    rw [e1, val_eq one_v]
    refine Rat.le_trans h1 ?_
    decide +kernel)
  rw [phi_mul] at p5
  have hone : ∀ t, t ≤ m → 1 ≤ phi (fun j => g / dP (g * g) (E + th2) a j) (fun i => val (uW b e X n 0 i)) t := by
    intro t ht
    cases t with
    | zero =>
      show 1 ≤ val (uW b e X n 0 0)
      rw [e1, val_eq one_v]
      exact Rat.le_refl
    | succ t =>
      have h0 := phi_le (γ := fun j => g / dP (g * g) (E + th2) a j) (u := fun i => 0 * (fun _ => (0 : Rat)) i) (w := fun i => val (uW b e X n 0 i)) t (fun i hi => hγ i (by omega)) (fun i hi => by
        show 0 * (0 : Rat) ≤ val (uW b e X n 0 i)
        rw [e1, val_eq one_v]
        decide +kernel)
      rw [phi_mul] at h0
      show 1 ≤ val (uW b e X n 0 (t + 1)) + (fun j => g / dP (g * g) (E + th2) a j) t * phi (fun j => g / dP (g * g) (E + th2) a j) (fun i => val (uW b e X n 0 i)) t
      have h1 := hγ t (by omega)
      have h2 := mul_nn h1 (show 0 ≤ phi (fun j => g / dP (g * g) (E + th2) a j) (fun i => val (uW b e X n 0 i)) t by grind)
      have h3 : val (uW b e X n 0 (t + 1)) = 1 := by rw [e1, val_eq one_v]
      grind
  have hR4 := grow_num (show 0 < phi (fun j => g / dP (g * g) (E + th2) a j) (fun i => val (uW b e X n 0 i)) m by have := hone m (Nat.le_refl _); grind) z1 z2 z3 z4 p1 p2 p3 p4 p5 b1 b2 b3
  refine ⟨f4.v, fun i hi => ?_, fun i hi => ?_, f4.hi, f4.one, ?_⟩
  · exact Rat.le_trans (Rat.le_of_lt (tw_pos _)) (f4.lo i hi)
  · exact f4.lo i hi
  · intro i hi
    have near : ∀ j, j ≤ n → absR ((fun j => if j < n then val (uW b e X n 4 j) else 0) j * R4 - val (yI b e X (uW b e X n 3) n j)) * 2 ^ 23 ≤ val (yI b e X (uW b e X n 3) n j) ∧ 0 ≤ val (yI b e X (uW b e X n 3) n j) ∧ val (yI b e X (uW b e X n 3) n j) * 1000 ≤ 1002 * R4 := by
      intro j hj
      show absR ((if j < n then val (uW b e X n 4 j) else 0) * R4 - _) * 2 ^ 23 ≤ _ ∧ _
      by_cases hjn : j < n
      · rw [if_pos hjn]
        have h1 : absR (val (uW b e X n 4 j) * R4 - val (yI b e X (uW b e X n 3) n j)) * 2 ^ 23 ≤ val (yI b e X (uW b e X n 3) n j) := f4.near j hjn
        have h2 : 0 ≤ val (yI b e X (uW b e X n 3) n j) := d4.nn j hj
        have h3 : val (uW b e X n 4 j) ≤ 1001 / 1000 := f4.hi j hjn
        have h4 := f4.r0
        refine ⟨h1, h2, ?_⟩
        generalize val (yI b e X (uW b e X n 3) n j) = y at *
        generalize val (uW b e X n 4 j) = u at *
        have h5 : absR (u * R4 - y) ≤ y * (1 / 10000) := by grind
        rw [le_both] at h5
        have := mul_nn (show 0 ≤ 1001 / 1000 - u by grind) (Rat.le_of_lt h4)
        grind
      · rw [if_neg hjn]
        have h0 : j = n := by omega
        have h1 : val (yI b e X (uW b e X n 3) n n) = 0 := d4.end0
        rw [h0, h1, show (0 : Rat) * R4 - 0 = 0 by grind]
        have h2 : absR (0 : Rat) = 0 := by decide +kernel
        rw [h2]
        exact ⟨by decide +kernel, Rat.le_refl, by grind⟩
    have hrow := row_eq d4 i hi
    have hu0 : 0 ≤ val (uW b e X n 3 i) := by
      exact Rat.le_trans (Rat.le_of_lt (tw_pos _)) (f3.lo i hi)
    have hu1 : val (uW b e X n 3 i) ≤ 1001 / 1000 := f3.hi i hi
    have hA : absR (a i - lam) ≤ 14 := by
      have h1 := h.a1 i hi
      have h2 := hlow i hi
      rw [le_both]
      grind
    have hgg : 0 ≤ g ∧ g ≤ 2 := ⟨hg, h.g1⟩
    cases i with
    | zero =>
      have k1 := near 0 (by omega)
      have k3 := near 1 (by omega)
      have := resid_num (A := a 0 - lam) (xp := 0) (yp := 0) (d := lam - E) hA hgg hR4 k1.1 (by rw [show (0 : Rat) * R4 - 0 = 0 by grind]; decide +kernel) k3.1 k1.2 ⟨Rat.le_refl, by grind⟩ k3.2 (u := val (uW b e X n 3 0)) (by
        have h1 : absR ((a 0 - E) * val (yI b e X (uW b e X n 3) n 0) - g * val (yI b e X (uW b e X n 3) n 1) - val (uW b e X n 3 0)) * 25000 ≤ val (yI b e X (uW b e X n 3) n 0) := hrow
        rw [show a 0 - lam + (lam - E) = a 0 - E by grind, show g * (0 : Rat) = 0 by grind, show (a 0 - E) * val (yI b e X (uW b e X n 3) n 0) - 0 = (a 0 - E) * val (yI b e X (uW b e X n 3) n 0) by grind]
        exact h1) ⟨hu0, hu1⟩ ⟨by grind, by grind⟩
      show absR ((a 0 - lam) * _ - g * _) ≤ _
      rw [show g * (0 : Rat) = 0 by grind] at this
      rw [show ∀ z : Rat, z - 0 = z from fun z => by grind] at this
      exact this
    | succ i =>
      have k1 := near (i + 1) (by omega)
      have k2 := near i (by omega)
      have k3 := near (i + 2) (by omega)
      exact resid_num (A := a (i + 1) - lam) (d := lam - E) hA hgg hR4 k1.1 k2.1 k3.1 k1.2 k2.2 k3.2 (u := val (uW b e X n 3 (i + 1))) (by
        have h1 : absR ((a (i + 1) - E) * val (yI b e X (uW b e X n 3) n (i + 1)) - g * val (yI b e X (uW b e X n 3) n i) - g * val (yI b e X (uW b e X n 3) n (i + 2)) - val (uW b e X n 3 (i + 1))) * 25000 ≤ val (yI b e X (uW b e X n 3) n (i + 1)) := hrow
        rw [show a (i + 1) - lam + (lam - E) = a (i + 1) - E by grind]
        exact h1) ⟨hu0, hu1⟩ ⟨by grind, by grind⟩
end Go.Proofs.Ytpeplbbphpamhaa.Ab

namespace Go.Proofs.Ytpeplbbphpamhaa.Ab
set_option linter.unusedVariables false
set_option linter.unusedSimpArgs false
open Go
theorem FnT.runs {f : FuncId} {fn : Func} {code : Code} {fns : Fns} (hfn : ∀ f, FnT Try.prog f (fns f)) (hf : Try.prog.funcs[f]? = some fn) (hb : fn.body = some code) (hn : (fn.name == "runtime.NumGoroutine") = false) (an : Ann) (N : Nat) :
    FnT Try.prog f (fun vs h => T.of (run ty fns an N fn vs h)) :=
  fnT hfn hf hb hn an fun vs h v h' e => ⟨N, by rw [T.run_of] at e; exact e⟩
def longB (n m : Nat) : Bool := decide ((n : Int) > 48) || decide ((m : Int) > 48)
def atOk (n : Nat) (l : List Int) (i : Int) : Bool := decide (l.length = n ∧ n < 2147483648 ∧ 0 ≤ i ∧ i < 1000)
def atF (l : List Int) (i k : Int) : Int := match decide (k ≤ 1) with
  | true => 0
  | false => match l[i.toNat]? with
    | some e => Int.tmod (IntKind.i64.wrap e) k
    | none => 0
def bytesB (l : List Int) : Bool := l.all (fun e => decide (0 ≤ e ∧ e < 256))
theorem atF_range {l : List Int} {i k : Int} (hb : bytesB l = true) (hi : 0 ≤ i) (hi2 : i < 1000) (hk : 1 ≤ k) : 0 ≤ atF l i k ∧ atF l i k < k := by
  unfold atF
  by_cases h1 : k ≤ 1
  · rw [decide_eq_true h1]
    show 0 ≤ (0 : Int) ∧ (0 : Int) < k
    omega
  · rw [decide_eq_false h1]
    dsimp only
    cases he : l[i.toNat]? with
    | some e =>
      obtain ⟨e0, e1⟩ := of_decide_eq_true (List.all_eq_true.mp hb e (List.mem_of_getElem? he))
      show 0 ≤ Int.tmod (IntKind.i64.wrap e) k ∧ Int.tmod (IntKind.i64.wrap e) k < k
      rw [wrap_z (by omega) (by omega), Int.tmod_eq_emod_of_nonneg e0]
      exact ⟨Int.emod_nonneg _ (by omega), Int.emod_lt_of_pos _ (by omega)⟩
    | none =>
      show 0 ≤ (0 : Int) ∧ (0 : Int) < k
      omega
def tab_lgA : Fns := tabT []
theorem tabok_lgA : ∀ f, FnT Try.prog f (tab_lgA f) := tabT_nil
theorem run_lgA (N : Nat) (n : Nat) (m : Nat) (r : Bool) (l : List Int) (q : Bool) (l' : List Int) : run ty tab_lgA ann0 N Try.f4 [.sl 0 0 n, .sl 1 0 m] [.at r (.int .u8 l), .at q (.int .u8 l')]
    = (match decide ((((n : Nat) : Int) : Int) > 48) with | true => some (.bool true, [.at r (.int .u8 l), .at q (.int .u8 l')]) | false => some (.bool (decide ((((m : Nat) : Int) : Int) > 48)), [.at r (.int .u8 l), .at q (.int .u8 l')])) := by
  kernel_rfl
def tab_lgB : Fns := tabT []
theorem tabok_lgB : ∀ f, FnT Try.prog f (tab_lgB f) := tabT_nil
theorem run_lgB (N : Nat) (n : Nat) (r : Bool) (l : List Int) : run ty tab_lgB ann0 N Try.f4 [.sl 0 0 n, .nil] [.at r (.int .u8 l)]
    = (match decide ((((n : Nat) : Int) : Int) > 48) with | true => some (.bool true, [.at r (.int .u8 l)]) | false => some (.bool false, [.at r (.int .u8 l)])) := by
  kernel_rfl
def tab_lgC : Fns := tabT []
theorem tabok_lgC : ∀ f, FnT Try.prog f (tab_lgC f) := tabT_nil
theorem run_lgC (N : Nat) (m : Nat) (r : Bool) (l : List Int) : run ty tab_lgC ann0 N Try.f4 [.nil, .sl 0 0 m] [.at r (.int .u8 l)]
    = some (.bool (decide ((((m : Nat) : Int) : Int) > 48)), [.at r (.int .u8 l)]) := by
  kernel_rfl
def tab_lgD : Fns := tabT []
theorem tabok_lgD : ∀ f, FnT Try.prog f (tab_lgD f) := tabT_nil
theorem run_lgD (N : Nat)  : run ty tab_lgD ann0 N Try.f4 [.nil, .nil] []
    = some (.bool false, []) := by
  kernel_rfl
def gLong : GT := fun vs h => match vs, h with
  | [.sl 0 0 n, .sl 1 0 m], [.at r (.int .u8 l), .at q (.int .u8 l')] => .ret (.bool (longB n m)) [.at r (.int .u8 l), .at q (.int .u8 l')]
  | [.sl 0 0 n, .nil], [.at r (.int .u8 l)] => .ret (.bool (longB n 0)) [.at r (.int .u8 l)]
  | [.nil, .sl 0 0 m], [.at r (.int .u8 l)] => .ret (.bool (longB 0 m)) [.at r (.int .u8 l)]
  | [.nil, .nil], [] => .ret (.bool (longB 0 0)) []
  | _, _ => .no
theorem ok_Long : FnT Try.prog 4 gLong := by
  intro vs hp v h' e
  unfold gLong at e
  split at e
  · obtain ⟨rfl, rfl⟩ := T.ret_inv e
    refine FnT.runs tabok_lgA Try.func4 rfl rfl ann0 0 _ _ _ _ ?_
    rw [T.run_of]
    refine Eq.trans (run_lgA 0 _ _ _ _ _ _) ?_
    unfold longB
    rename_i n m r q l l'
    cases decide ((n : Int) > 48) <;> rfl
  · obtain ⟨rfl, rfl⟩ := T.ret_inv e
    refine FnT.runs tabok_lgB Try.func4 rfl rfl ann0 0 _ _ _ _ ?_
    rw [T.run_of]
    refine Eq.trans (run_lgB 0 _ _ _) ?_
    unfold longB
    rename_i n r l
    cases decide ((n : Int) > 48) <;> rfl
  · obtain ⟨rfl, rfl⟩ := T.ret_inv e
    refine FnT.runs tabok_lgC Try.func4 rfl rfl ann0 0 _ _ _ _ ?_
    rw [T.run_of]
    refine Eq.trans (run_lgC 0 _ _ _) ?_
    unfold longB
    rfl
  · obtain ⟨rfl, rfl⟩ := T.ret_inv e
    refine FnT.runs tabok_lgD Try.func4 rfl rfl ann0 0 _ _ _ _ ?_
    rw [T.run_of]
    refine Eq.trans (run_lgD 0 ) ?_
    unfold longB
    rfl
  · exact (T.no_inv e).elim
def tab_atA : Fns := tabT []
theorem tabok_atA : ∀ f, FnT Try.prog f (tab_atA f) := tabT_nil
theorem run_atA (N : Nat) (n : Nat) (i : Int) (k : Int) (rw : Bool) (l : List Int) : run ty tab_atA ann0 N Try.f5 [.sl 0 0 n, .int .i64 i, .int .i64 k] [.at rw (.int .u8 l)]
    = (match decide ((k : Int) ≤ 1) with | true => some (.int .i64 0, [.at rw (.int .u8 l)]) | false => (match decide ((i : Int) ≥ ((n : Nat) : Int)) with | true => some (.int .i64 0, [.at rw (.int .u8 l)]) | false => (match decide (0 ≤ (i : Int) ∧ (i : Int) < ((n : Nat) : Int)) with | true => (match l[0 + (i).toNat * 1]? with | some e1 => (match decide (k = 0) with | true => none | false => some (.int .i64 (Int.tmod (IntKind.i64.wrap e1) k), [.at rw (.int .u8 l)])) | none => none) | false => none))) := by
  kernel_rfl
def tab_atB : Fns := tabT []
theorem tabok_atB : ∀ f, FnT Try.prog f (tab_atB f) := tabT_nil
theorem run_atB (N : Nat) (i : Int) (k : Int) : run ty tab_atB ann0 N Try.f5 [.nil, .int .i64 i, .int .i64 k] []
    = (match decide ((k : Int) ≤ 1) with | true => some (.int .i64 0, []) | false => (match decide ((i : Int) ≥ 0) with | true => some (.int .i64 0, []) | false => none)) := by
  kernel_rfl
def gAt : GT := fun vs h => match vs, h with
  | [.sl 0 0 n, .int .i64 i, .int .i64 k], [.at rw (.int .u8 l)] => .ite (atOk n l i) (.ret (.int .i64 (atF l i k)) [.at rw (.int .u8 l)]) .no
  | [.nil, .int .i64 i, .int .i64 k], [] => .ite (atOk 0 [] i) (.ret (.int .i64 (atF [] i k)) []) .no
  | _, _ => .no
theorem ok_At : FnT Try.prog 5 gAt := by
  intro vs hp v h' e
  unfold gAt at e
  split at e
  · rename_i n i k rw l
    obtain ⟨hd, e⟩ := T.pre_inv e
    obtain ⟨rfl, rfl⟩ := T.ret_inv e
    obtain ⟨hn, hn2, hi, hi2⟩ := of_decide_eq_true hd
    refine FnT.runs tabok_atA Try.func5 rfl rfl ann0 0 _ _ _ _ ?_
    rw [T.run_of]
    refine Eq.trans (run_atA 0 n i k rw l) ?_
    unfold atF
    by_cases h1 : k ≤ 1
    · rw [decide_eq_true h1]
    · rw [decide_eq_false h1]
      by_cases h2 : i < (n : Int)
      · have hx : l[i.toNat]? = some l[i.toNat] := List.getElem?_eq_getElem (by omega)
        rw [decide_eq_false (show ¬ i ≥ (n : Int) by omega), decide_eq_true (show 0 ≤ i ∧ i < (n : Int) from ⟨hi, h2⟩), show 0 + i.toNat * 1 = i.toNat by omega, hx]
        dsimp only
        rw [decide_eq_false (show ¬ k = 0 by omega)]
      · have hx : l[i.toNat]? = none := List.getElem?_eq_none (by omega)
        rw [decide_eq_true (show i ≥ (n : Int) by omega), hx]
  · rename_i i k
    obtain ⟨hd, e⟩ := T.pre_inv e
    obtain ⟨rfl, rfl⟩ := T.ret_inv e
    obtain ⟨hn, hn2, hi, hi2⟩ := of_decide_eq_true hd
    refine FnT.runs tabok_atB Try.func5 rfl rfl ann0 0 _ _ _ _ ?_
    rw [T.run_of]
    refine Eq.trans (run_atB 0 i k) ?_
    unfold atF
    by_cases h1 : k ≤ 1
    · rw [decide_eq_true h1]
    · rw [decide_eq_false h1, decide_eq_true (show i ≥ 0 by omega), List.getElem?_nil]
  · exact (T.no_inv e).elim
def r8G (x y : Nat) : Nat := fmax .f64 (fop .sub .f64 (up x) (up y)) (fop .sub .f64 (up y) (up x))
def gG8 : G := fun vs h => match vs, h with | [.fl .f32 x, .fl .f32 y], [] => some (.fl .f64 (r8G x y), []) | _, _ => none
def tab_r8g : Fns := tabT []
theorem tabok_r8g : ∀ f, FnT Try.prog f (tab_r8g f) := tabT_nil
theorem run_r8g (N : Nat) (x : Nat) (y : Nat) : run ty tab_r8g ann0 N Try.f10 [.fl .f32 x, .fl .f32 y] []
    = (match fconv .f32 x .f64 with | some c1 => (match fconv .f32 y .f64 with | some c2 => (match fconv .f32 y .f64 with | some c3 => (match fconv .f32 x .f64 with | some c4 => some (.fl .f64 (fmax .f64 (fop .sub .f64 c1 c2) (fop .sub .f64 c3 c4)), []) | none => none) | none => none) | none => none) | none => none) := by
  kernel_rfl
theorem ok_r8g : FnT Try.prog 10 (gT gG8) := by
  refine fnT tabok_r8g Try.func10 rfl rfl ann0 fun vs h v h' e => ⟨0, ?_⟩
  rw [T.run_of] at e
  unfold gG8 at e
  split at e
  case h_2 => cases e
  rename_i x y
  cases e
  refine Eq.trans (run_r8g 0 x y) ?_
  simp only [fconv_eq]
  rfl
end Go.Proofs.Ytpeplbbphpamhaa.Ab

namespace Go.Proofs.Ytpeplbbphpamhaa.Ab
set_option linter.unusedVariables false
set_option linter.unusedSimpArgs false
open Go
theorem cnt_zero_step {β d c : Rat} {cs : List Rat} (h : cnt β (some d) (c :: cs) = 0) : d ≠ 0 ∧ 0 ≤ c - β / d ∧ cnt β (some (c - β / d)) cs = 0 := by
  have hd : d ≠ 0 := by
    intro h0
    subst h0
    have e : stp β c (some 0) = none := by show (if (0 : Rat) = 0 then none else some (c - β / 0)) = none; rw [if_pos rfl]
    unfold cnt at h
    rw [e] at h
    simp [ngv] at h
  have e : stp β c (some d) = some (c - β / d) := by show (if d = 0 then none else _) = _; rw [if_neg hd]
  unfold cnt at h
  rw [e] at h
  have h1 : (ngv (some (c - β / d))).toNat = 0 := by omega
  have h2 : cnt β (some (c - β / d)) cs = 0 := by omega
  refine ⟨hd, ?_, h2⟩
  refine Rat.not_lt.1 fun hlt => ?_
  simp [ngv, hlt] at h1
theorem sh_drop (ar : List Rat) (e : Rat) {i : Nat} (hi : i < ar.length) : (sh ar e).drop i = (ar.getD i 0 - e) :: (sh ar e).drop (i + 1) := by
  unfold sh
  rw [List.drop_eq_getElem_cons (by rw [List.length_map]; exact hi), List.getElem_map]
  congr 1
  rw [List.getD_eq_getElem?_getD, List.getElem?_eq_getElem hi]
  rfl
theorem cn_zero {β e : Rat} {ar : List Rat} (h : cn β ar e = 0) : ∀ i, i < ar.length → 0 ≤ dP β e (fun j => ar.getD j 0) i ∧ cnt β (some (dP β e (fun j => ar.getD j 0) i)) ((sh ar e).drop (i + 1)) = 0
  | 0, hi => by
    unfold cn at h
    have h0 := sh_drop ar e hi
    rw [List.drop_zero] at h0
    rw [h0] at h
    unfold cnt at h
    have e1 : stp β (ar.getD 0 0 - e) none = some (ar.getD 0 0 - e) := rfl
    rw [e1] at h
    have h1 : (ngv (some (ar.getD 0 0 - e))).toNat = 0 := by omega
    have h2 : cnt β (some (ar.getD 0 0 - e)) ((sh ar e).drop (0 + 1)) = 0 := by omega
    refine ⟨?_, h2⟩
    refine Rat.not_lt.1 fun hlt => ?_
    have hlt : ar.getD 0 0 - e < 0 := hlt
    simp only [ngv, hlt] at h1
    simp at h1
  | i + 1, hi => by
    have ih := (cn_zero h i (by omega)).2
    rw [sh_drop ar e hi] at ih
    have := cnt_zero_step ih
    exact ⟨this.2.1, this.2.2⟩
theorem cn_zero_pos {β e : Rat} {ar : List Rat} (h : cn β ar e = 0) {i : Nat} (hi : i < ar.length) : 0 ≤ dP β e (fun j => ar.getD j 0) i ∧ (i + 1 < ar.length → 0 < dP β e (fun j => ar.getD j 0) i) := by
  obtain ⟨h1, h2⟩ := cn_zero h i hi
  refine ⟨h1, fun hi' => ?_⟩
  rw [sh_drop ar e hi'] at h2
  have := (cnt_zero_step h2).1
  grind
theorem cnt_pos_zero {β e : Rat} {ar : List Rat} (h : ∀ i, i < ar.length → 0 < dP β e (fun j => ar.getD j 0) i) : ∀ t i, i + t + 1 = ar.length → cnt β (some (dP β e (fun j => ar.getD j 0) i)) ((sh ar e).drop (i + 1)) = 0
  | 0, i, hi => by
    have : (sh ar e).drop (i + 1) = [] := List.drop_eq_nil_of_le (by unfold sh; rw [List.length_map]; omega)
    rw [this]
    rfl
  | t + 1, i, hi => by
    rw [sh_drop ar e (show i + 1 < ar.length by omega)]
    have ih := cnt_pos_zero h t (i + 1) (by omega)
    have h0 := h i (by omega)
    have h1 := h (i + 1) (by omega)
    have hD : dP β e (fun j => ar.getD j 0) (i + 1) = ar.getD (i + 1) 0 - e - β / dP β e (fun j => ar.getD j 0) i := rfl
    rw [hD] at ih h1
    generalize dP β e (fun j => ar.getD j 0) i = D at *
    have e1 : stp β (ar.getD (i + 1) 0 - e) (some D) = some (ar.getD (i + 1) 0 - e - β / D) := by show (if D = 0 then none else _) = _; rw [if_neg (by grind)]
    unfold cnt
    rw [e1, ih]
    have : ¬ ar.getD (i + 1) 0 - e - β / D < 0 := by grind
    simp only [ngv, this]
    simp
theorem cn_top {β e : Rat} {ar : List Rat} (h : 1 ≤ cn β ar e) : ∃ m, m < ar.length ∧ (∀ i, i < m → 0 < dP β e (fun j => ar.getD j 0) i) ∧ dP β e (fun j => ar.getD j 0) m ≤ 0 := by
  have hex : ∃ m, m < ar.length ∧ dP β e (fun j => ar.getD j 0) m ≤ 0 := by
    refine Classical.byContradiction fun hno => ?_
    have hall : ∀ i, i < ar.length → 0 < dP β e (fun j => ar.getD j 0) i := by
      intro i hi
      refine Rat.not_le.1 fun hle => hno ⟨i, hi, hle⟩
    cases har : ar.length with
    | zero =>
      have : ar = [] := List.eq_nil_of_length_eq_zero har
      subst this
      exact absurd h (by show ¬ 1 ≤ 0; decide)
    | succ t =>
      have h1 := cnt_pos_zero hall t 0 (by omega)
      have h2 := hall 0 (by omega)
      unfold cn at h
      have h0 := sh_drop ar e (show 0 < ar.length by omega)
      rw [List.drop_zero] at h0
      rw [h0] at h
      unfold cnt at h
      have e1 : stp β (ar.getD 0 0 - e) none = some (ar.getD 0 0 - e) := rfl
      rw [e1] at h
      have h3 : cnt β (some (ar.getD 0 0 - e)) ((sh ar e).drop (0 + 1)) = 0 := h1
      rw [h3] at h
      have h4 : 0 < ar.getD 0 0 - e := h2
      have : ¬ ar.getD 0 0 - e < 0 := by grind
      simp only [ngv, this] at h
      simp at h
  have hfirst : ∀ t m, m ≤ t → m < ar.length → dP β e (fun j => ar.getD j 0) m ≤ 0 → ∃ m, m < ar.length ∧ (∀ i, i < m → 0 < dP β e (fun j => ar.getD j 0) i) ∧ dP β e (fun j => ar.getD j 0) m ≤ 0 := by
    intro t
    induction t with
    | zero =>
      intro m hm h1 h2
      exact ⟨m, h1, fun i hi => by omega, h2⟩
    | succ t ih =>
      intro m hm h1 h2
      by_cases hsm : ∃ i, i < m ∧ dP β e (fun j => ar.getD j 0) i ≤ 0
      · obtain ⟨i, i1, i2⟩ := hsm
        exact ih i (by omega) (by omega) i2
      · refine ⟨m, h1, fun i hi => Rat.not_le.1 fun hle => hsm ⟨i, hi, hle⟩, h2⟩
  obtain ⟨m, h1, h2⟩ := hex
  exact hfirst m m (Nat.le_refl _) h1 h2
theorem d_hi {E R w : Rat} {y : Nat} (h : R64 E R) (hy : V64 y w) (hw : E ≤ w) : R ≤ w := by
  obtain ⟨s, m, e, h1, rfl⟩ := hy
  have := read_place h1
  exact h.hi s m e (by omega) this.1 hw
theorem lelt {a b c : Rat} (h : a ≤ b) (k : b < c) : a < c := by grind
theorem ltle {a b c : Rat} (h : a < b) (k : b ≤ c) : a < c := by grind
theorem lt900 {x : Rat} (h : x ≤ 1000) : x < tw 900 := lelt h (ltle (b := tw 10) (by decide +kernel) (tw_mono (by decide)))
theorem gap_ok {x y K : Nat} {a b c : Rat} (hx : V32 x a) (hy : V32 y b) (hK : V64 K c) (h : absR (a - b) ≤ c) (hc : c ≤ 1) : gtD (r8G x y) K = false := by
  have h2 := h
  rw [le_both] at h2
  obtain ⟨r, r1, r2⟩ := dsub (up_v hx) (up_v hy) (lt900 (Rat.le_trans h (Rat.le_trans hc (by decide +kernel))))
  have hba : absR (b - a) = absR (a - b) := by rw [← absR_neg]; congr 1; grind
  obtain ⟨s, s1, s2⟩ := dsub (up_v hy) (up_v hx) (lt900 (by rw [hba]; exact Rat.le_trans h (Rat.le_trans hc (by decide +kernel))))
  have r3 := d_hi r2 hK h2.2
  have s3 := d_hi s2 hK (by grind)
  have ho : FloatKind.f64.format.order (fop .sub .f64 (up x) (up y)) (fop .sub .f64 (up y) (up x)) = _ := order_v r1 s1
  unfold r8G fmax
  rw [ho]
  by_cases h3 : r < s
  · rw [if_pos h3]
    rw [gtD_v s1 hK, decide_eq_false (by grind)]
  · rw [if_neg h3]
    by_cases h4 : r = s
    · rw [if_pos h4]
      dsimp only
      split
      · rw [gtD_v s1 hK, decide_eq_false (by grind)]
      · rw [gtD_v r1 hK, decide_eq_false (by grind)]
    · rw [if_neg h4]
      rw [gtD_v r1 hK, decide_eq_false (by grind)]
theorem k10 : ∃ c, V64 4576918229304087675 c ∧ 99 / 10000 ≤ c ∧ c ≤ 1 := ⟨_, ⟨false, 5764607523034235, -59, by decide +kernel, rfl⟩, by decide +kernel, by decide +kernel⟩
theorem k1 : ∃ c, V64 4562254508917369340 c ∧ 99 / 100000 ≤ c ∧ c ≤ 1 := ⟨_, ⟨false, 4611686018427388, -62, by decide +kernel, rfl⟩, by decide +kernel, by decide +kernel⟩
def ovW (U : Nat → Nat) : Nat → Nat
  | 0 => 0
  | i + 1 => fop .add .f32 (ovW U i) (fop .mul .f32 (U i) (U i))
theorem ov_abs {n : Nat} {U : Nat → Nat} (n8 : n ≤ 8) (hv : ∀ i, i < n → V32 (U i) (val (U i)) ∧ 0 ≤ val (U i) ∧ val (U i) ≤ 2) (hs : sumF (fun j => val (U j) * val (U j)) n ≤ 2) : ∀ i, i ≤ n → ∃ s, V32 (ovW U i) s ∧ absR (s - sumF (fun j => val (U j) * val (U j)) i) * 2 ^ 20 ≤ i
  | 0, _ => ⟨0, v0, by show absR ((0 : Rat) - 0) * 2 ^ 20 ≤ ((0 : Nat) : Rat); decide +kernel⟩
  | i + 1, hi => by
    obtain ⟨s, s1, s2⟩ := ov_abs n8 hv hs i (by omega)
    obtain ⟨u1, u2, u3⟩ := hv i (by omega)
    have hnn : ∀ j, j < n → 0 ≤ val (U j) * val (U j) := fun j hj => mul_nn (hv j hj).2.1 (hv j hj).2.1
    have hS0 := sum_nn (f := fun j => val (U j) * val (U j)) (n := i) fun j hj => hnn j (by omega)
    have hSi : sumF (fun j => val (U j) * val (U j)) i + val (U i) * val (U i) ≤ 2 := by
      have hmono : ∀ m l : Nat, l ≤ m → m ≤ n → sumF (fun j => val (U j) * val (U j)) l ≤ sumF (fun j => val (U j) * val (U j)) m := by
        intro m
        induction m with
        | zero =>
          intro l hl _
          have h0 : l = 0 := by omega
          rw [h0]
          exact Rat.le_refl
        | succ m ih =>
          intro l hl hm
          by_cases h : l = m + 1
          · rw [h]; exact Rat.le_refl
          · have h1 := ih l (by omega) (by omega)
            have h2 := hnn m (by omega)
            show _ ≤ sumF (fun j => val (U j) * val (U j)) m + val (U m) * val (U m)
            grind
      exact Rat.le_trans (hmono n (i + 1) hi (Nat.le_refl _)) hs
    have hu2 := hnn i (by omega)
    have hir : (i : Rat) ≤ ((8 : Nat) : Rat) := le_nat (by omega)
    have h8c : ((8 : Nat) : Rat) = 8 := rfl
    rw [h8c] at hir
    show ∃ t, V32 (fop .add .f32 (ovW U i) (fop .mul .f32 (U i) (U i))) t ∧ absR (t - (sumF (fun j => val (U j) * val (U j)) i + val (U i) * val (U i))) * 2 ^ 20 ≤ ((i + 1 : Nat) : Rat)
    generalize sumF (fun j => val (U j) * val (U j)) i = S at *
    have e3 : tw 3 = 8 := by decide +kernel
    have habs : absR (val (U i) * val (U i)) = val (U i) * val (U i) := absR_of_nn hu2
    obtain ⟨p, p1, p2⟩ := fmul u1 u1 (lt127 (k := 3) (by rw [habs, e3]; grind) (by decide))
    have p3 := r_er p2
    rw [habs] at p3
    generalize val (U i) * val (U i) = q at *
    have ht : tiny ≤ 1 := by
      have h1 := tiny_le (show (-126 : Int) ≤ 0 by decide)
      have e0 : tw 0 = 1 := by decide +kernel
      rw [e0] at h1
      exact h1
    have hsp : absR (s + p) ≤ 4 := by
      have k1 : absR (s - S) ≤ 1 := by grind
      have k2 : absR (p - q) ≤ 1 / 2 := by grind
      rw [le_both] at k1 k2 ⊢
      constructor <;> grind
    obtain ⟨t, t1, t2⟩ := fadd s1 p1 (lt127 (k := 3) (by rw [e3]; grind) (by decide))
    have t3 := r_er t2
    refine ⟨t, t1, ?_⟩
    have hcast : ((i + 1 : Nat) : Rat) = i + 1 := by push_cast; rfl
    rw [hcast]
    have e : t - (S + q) = (t - (s + p)) + ((s - S) + (p - q)) := by grind
    have q1 := absR_tri (t - (s + p)) ((s - S) + (p - q))
    have q2 := absR_tri (s - S) (p - q)
    rw [e]
    generalize absR (t - (s + p) + (s - S + (p - q))) = B0 at *
    generalize absR (t - (s + p)) = B1 at *
    generalize absR (s - S + (p - q)) = B2 at *
    generalize absR (s - S) = B3 at *
    generalize absR (p - q) = B4 at *
    clear e
    grind
theorem rest0 {x l u : Nat} {a lam v : Rat} (hx : V32 x a) (hl : V32 l lam) (hu : V32 u v) (h1 : absR (a - lam) ≤ 14) (h2 : absR v ≤ 2) : ∃ t, V32 (fop .mul .f32 (fop .sub .f32 x l) u) t ∧ absR (t - (a - lam) * v) * 2 ^ 20 ≤ 4 := by
  have e4 : tw 4 = 16 := by decide +kernel
  have e6 : tw 6 = 64 := by decide +kernel
  obtain ⟨d, d1, d2⟩ := fsub hx hl (lt127 (k := 4) (by rw [e4]; grind) (by decide))
  have d3 := r_er d2
  have ht : tiny ≤ 1 := by
    have h1 := tiny_le (show (-126 : Int) ≤ 0 by decide)
    have e0 : tw 0 = 1 := by decide +kernel
    rw [e0] at h1
    exact h1
  have hd : absR d ≤ 16 := by
    have := r_abs_le d2 (k := 4) (by decide) (by rw [e4]; grind)
    grind
  have hdv : absR (d * v) ≤ 32 := by
    have := abs_mulR hd h2
    grind
  obtain ⟨t, t1, t2⟩ := fmul d1 hu (lt127 (k := 6) (by rw [e6]; grind) (by decide))
  have t3 := r_er t2
  refine ⟨t, t1, ?_⟩
  have e : t - (a - lam) * v = (t - d * v) + (d - (a - lam)) * v := by grind
  have q1 := absR_tri (t - d * v) ((d - (a - lam)) * v)
  have q2 : absR ((d - (a - lam)) * v) ≤ absR (d - (a - lam)) * 2 := by
    rw [absR_mul]
    exact Rat.mul_le_mul_of_nonneg_left h2 (absR_nn _)
  rw [e]
  generalize absR (t - d * v + (d - (a - lam)) * v) = B0 at *
  generalize absR (t - d * v) = B1 at *
  generalize absR ((d - (a - lam)) * v) = B2 at *
  generalize absR (d - (a - lam)) = B3 at *
  clear e
  grind
theorem rest1 {q b u : Nat} {T S g v c : Rat} (hq : V32 q T) (hb : V32 b (-g)) (hu : V32 u v) (hg : 0 ≤ g ∧ g ≤ 2) (hv : absR v ≤ 2) (hT : absR (T - S) * 2 ^ 20 ≤ c) (hc : c ≤ 100) (hS : absR S ≤ 40) : ∃ t, V32 (fop .add .f32 q (fop .mul .f32 b u)) t ∧ absR (t - (S - g * v)) * 2 ^ 20 ≤ c + 4 := by
  have e4 : tw 4 = 16 := by decide +kernel
  have e6 : tw 6 = 64 := by decide +kernel
  have hgv : absR (-g * v) ≤ 4 := by
    have h1 : absR (-g) ≤ 2 := by rw [absR_neg, absR_of_nn hg.1]; exact hg.2
    have := abs_mulR h1 hv
    grind
  obtain ⟨p, p1, p2⟩ := fmul hb hu (lt127 (k := 4) (by rw [e4]; grind) (by decide))
  have p3 := r_er p2
  have ht : tiny ≤ 1 := by
    have h1 := tiny_le (show (-126 : Int) ≤ 0 by decide)
    have e0 : tw 0 = 1 := by decide +kernel
    rw [e0] at h1
    exact h1
  have hTp : absR (T + p) ≤ 48 := by
    have k1 : absR (T - S) ≤ 1 := by grind
    have k2 : absR (p - -g * v) ≤ 1 := by grind
    have e : T + p = (T - S) + S + ((p - -g * v) + -g * v) := by grind
    have q1 := absR_tri ((T - S) + S) ((p - -g * v) + -g * v)
    have q2 := absR_tri (T - S) S
    have q3 := absR_tri (p - -g * v) (-g * v)
    rw [e]
    grind
  obtain ⟨t, t1, t2⟩ := fadd hq p1 (lt127 (k := 6) (by rw [e6]; grind) (by decide))
  have t3 := r_er t2
  refine ⟨t, t1, ?_⟩
  have e : t - (S - g * v) = (t - (T + p)) + ((T - S) + (p - -g * v)) := by grind
  have q1 := absR_tri (t - (T + p)) ((T - S) + (p - -g * v))
  have q2 := absR_tri (T - S) (p - -g * v)
  rw [e]
  generalize absR (t - (T + p) + (T - S + (p - -g * v))) = B0 at *
  generalize absR (t - (T + p)) = B1 at *
  generalize absR (T - S + (p - -g * v)) = B2 at *
  generalize absR (T - S) = B3 at *
  generalize absR (p - -g * v) = B4 at *
  clear e
  grind
def sum64 (W : Nat → Nat) : Nat → Nat
  | 0 => 0
  | k + 1 => fop .add .f64 (sum64 W k) (up (W k))
theorem v0d : V64 0 0 := ⟨false, 0, -1074, by decide +kernel, by decide +kernel⟩
theorem sum64_v {n : Nat} {W : Nat → Nat} {w : Nat → Rat} (n8 : n ≤ 8) (hw : ∀ i, i < n → V32 (W i) (w i) ∧ absR (w i) ≤ 16) : ∀ i, i ≤ n → ∃ s, V64 (sum64 W i) s ∧ absR (s - sumF w i) * 2 ^ 30 ≤ i ∧ absR (sumF w i) ≤ 16 * i
  | 0, _ => ⟨0, v0d, by show absR ((0 : Rat) - 0) * 2 ^ 30 ≤ ((0 : Nat) : Rat); decide +kernel, by show absR (0 : Rat) ≤ 16 * ((0 : Nat) : Rat); decide +kernel⟩
  | i + 1, hi => by
    obtain ⟨s, s1, s2, s3⟩ := sum64_v n8 hw i (by omega)
    obtain ⟨w1, w2⟩ := hw i (by omega)
    have hir : (i : Rat) ≤ ((8 : Nat) : Rat) := le_nat (by omega)
    have h8c : ((8 : Nat) : Rat) = 8 := rfl
    rw [h8c] at hir
    have hcast : ((i + 1 : Nat) : Rat) = i + 1 := by push_cast; rfl
    rw [hcast]
    have hsw : absR (s + w i) ≤ 200 := by
      have e : s + w i = (s - sumF w i) + (sumF w i + w i) := by grind
      have q1 := absR_tri (s - sumF w i) (sumF w i + w i)
      have q2 := absR_tri (sumF w i) (w i)
      rw [e]
      grind
    obtain ⟨t, t1, t2⟩ := dadd s1 (up_v w1) (lt900 (Rat.le_trans hsw (by decide +kernel)))
    have t3 := t2.err
    have u1 : tw (-((52 : Nat) : Int) - 1) * 2 ^ 53 = 1 := by decide +kernel
    have u2 : tw (-1074 - 1) * 2 ^ 53 ≤ 1 := by decide +kernel
    have t4 : absR (t - (s + w i)) * 2 ^ 53 ≤ absR (s + w i) + 1 := by
      have h4 := Rat.mul_le_mul_of_nonneg_right t3 (show (0 : Rat) ≤ 2 ^ 53 by decide +kernel)
      rw [Rat.add_mul, Rat.mul_assoc, u1] at h4
      grind
    refine ⟨t, t1, ?_, ?_⟩
    · show absR (t - (sumF w i + w i)) * 2 ^ 30 ≤ _
      have e : t - (sumF w i + w i) = (t - (s + w i)) + (s - sumF w i) := by grind
      have q1 := absR_tri (t - (s + w i)) (s - sumF w i)
      rw [e]
      generalize absR (t - (s + w i) + (s - sumF w i)) = B0 at *
      generalize absR (t - (s + w i)) = B1 at *
      generalize absR (s - sumF w i) = B2 at *
      clear e t3 u1 u2
      grind
    · show absR (sumF w i + w i) ≤ _
      have := absR_tri (sumF w i) (w i)
      grind
theorem narrow {y : Nat} {a : Rat} (hy : V64 y a) (ha : absR a ≤ 1000) : ∃ r, fconv .f64 y .f32 = some r := by
  obtain ⟨s, m, e, h, rfl⟩ := hy
  have hl : m = 0 ∨ e + (m.log2 : Int) < 127 := by
    by_cases hm : m = 0
    · exact .inl hm
    · right
      rw [dv_abs] at ha
      refine Int.not_le.1 fun hle => ?_
      have k1 := tw_mono hle
      rw [tw_add, tw_nat] at k1
      have k2 := Rat.mul_le_mul_of_nonneg_right (le_nat (Nat.log2_self_le hm)) (Rat.le_of_lt (tw_pos e))
      have k3 : (1000 : Rat) < tw 127 := by decide +kernel
      grind
  exact fconv_small (s := s) (m := m) (e := e) h hl
end Go.Proofs.Ytpeplbbphpamhaa.Ab

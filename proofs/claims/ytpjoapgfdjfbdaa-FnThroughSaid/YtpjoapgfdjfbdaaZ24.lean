/- What the proof names: lemmas and words, merged by a program from its parts. No condition. -/
import Derived.Test.YtpjoapgfdjfbdaaZ22
import Derived.Test.YtpjoapgfdjfbdaaZ23
import Derived.Test.YtpjoapgfdjfbdaaZ17
import Derived.Test.YtpjoapgfdjfbdaaZ18
import Derived.Test.YtpjoapgfdjfbdaaZ19
import Derived.Test.YtpjoapgfdjfbdaaZ20
import Derived.Test.YtpjoapgfdjfbdaaZ21
namespace Go.Proofs.Ytpjoapgfdjfbdaa.Ab
set_option linter.unusedVariables false
set_option linter.unusedSimpArgs false
open Go
theorem bQ {n : Nat} {q : Nat → Bool} (h : (List.range n).all q = true) {i : Nat} (hi : i < n) : q i = true := List.all_eq_true.mp h i (by simpa using hi)
theorem aUH (i : Nat) (hi : i < 36) (q : Nat) (hq : q < if i < 24 then 12 else 6) : phB i q = true := by
  match i, hi with
  | 0, _ => exact bQ aRI hq
  | 1, _ => exact bQ aRJ hq
  | 2, _ => exact bQ aRK hq
  | 3, _ => exact bQ aRL hq
  | 4, _ => exact bQ aRM hq
  | 5, _ => exact bQ aRN hq
  | 6, _ => exact bQ aRO hq
  | 7, _ => exact bQ aRP hq
  | 8, _ => exact bQ aRQ hq
  | 9, _ => exact bQ aRR hq
  | 10, _ => exact bQ aJN hq
  | 11, _ => exact bQ aJO hq
  | 12, _ => exact bQ aJP hq
  | 13, _ => exact bQ aJQ hq
  | 14, _ => exact bQ aJR hq
  | 15, _ => exact bQ aJS hq
  | 16, _ => exact bQ aJT hq
  | 17, _ => exact bQ aJU hq
  | 18, _ => exact bQ aJV hq
  | 19, _ => exact bQ aJW hq
  | 20, _ => exact bQ aJX hq
  | 21, _ => exact bQ aJY hq
  | 22, _ => exact bQ aJZ hq
  | 23, _ => exact bQ aJ0 hq
  | 24, _ => exact bQ aJ1 hq
  | 25, _ => exact bQ aJ2 hq
  | 26, _ => exact bQ aJ3 hq
  | 27, _ => exact bQ aJ4 hq
  | 28, _ => exact bQ aJ5 hq
  | 29, _ => exact bQ aJ6 hq
  | 30, _ => exact bQ aJ7 hq
  | 31, _ => exact bQ aJ8 hq
  | 32, _ => exact bQ aJ9 hq
  | 33, _ => exact bQ aKA hq
  | 34, _ => exact bQ aKB hq
  | 35, _ => exact bQ aKC hq
  | n + 36, h => omega
theorem aY4 (J : Nat) (hJ : J < 32) (x : Nat) (hx : x < 13) (y : Nat) (hy : y < 13) : prB J x y = true := by
  have h1 : (x * 13 + y) / 13 = x := by omega
  have h2 : (x * 13 + y) % 13 = y := by omega
  have h3 : x * 13 + y < 169 := by omega
  match J, hJ with
  | 0, _ => have := bQ aRS h3; rwa [h1, h2] at this
  | 1, _ => have := bQ aRT h3; rwa [h1, h2] at this
  | 2, _ => have := bQ aRU h3; rwa [h1, h2] at this
  | 3, _ => have := bQ aRV h3; rwa [h1, h2] at this
  | 4, _ => have := bQ aRW h3; rwa [h1, h2] at this
  | 5, _ => have := bQ aRX h3; rwa [h1, h2] at this
  | 6, _ => have := bQ aRY h3; rwa [h1, h2] at this
  | 7, _ => have := bQ aRZ h3; rwa [h1, h2] at this
  | 8, _ => have := bQ aR0 h3; rwa [h1, h2] at this
  | 9, _ => have := bQ aR1 h3; rwa [h1, h2] at this
  | 10, _ => have := bQ aKD h3; rwa [h1, h2] at this
  | 11, _ => have := bQ aKE h3; rwa [h1, h2] at this
  | 12, _ => have := bQ aKF h3; rwa [h1, h2] at this
  | 13, _ => have := bQ aKG h3; rwa [h1, h2] at this
  | 14, _ => have := bQ aKH h3; rwa [h1, h2] at this
  | 15, _ => have := bQ aKI h3; rwa [h1, h2] at this
  | 16, _ => have := bQ aKJ h3; rwa [h1, h2] at this
  | 17, _ => have := bQ aKK h3; rwa [h1, h2] at this
  | 18, _ => have := bQ aKL h3; rwa [h1, h2] at this
  | 19, _ => have := bQ aKM h3; rwa [h1, h2] at this
  | 20, _ => have := bQ aKN h3; rwa [h1, h2] at this
  | 21, _ => have := bQ aKO h3; rwa [h1, h2] at this
  | 22, _ => have := bQ aKP h3; rwa [h1, h2] at this
  | 23, _ => have := bQ aKQ h3; rwa [h1, h2] at this
  | 24, _ => have := bQ aKR h3; rwa [h1, h2] at this
  | 25, _ => have := bQ aKS h3; rwa [h1, h2] at this
  | 26, _ => have := bQ aKT h3; rwa [h1, h2] at this
  | 27, _ => have := bQ aKU h3; rwa [h1, h2] at this
  | 28, _ => have := bQ aKV h3; rwa [h1, h2] at this
  | 29, _ => have := bQ aKW h3; rwa [h1, h2] at this
  | 30, _ => have := bQ aKX h3; rwa [h1, h2] at this
  | 31, _ => have := bQ aKY h3; rwa [h1, h2] at this
  | n + 32, h => omega
theorem arB {i : Nat} (hi : i < 36) : V32 (kW i) (kQ i) ∧ 1 / 3 ≤ kQ i ∧ kQ i ≤ 3 := by
  have h := bQ aW9 hi
  unfold kB at h
  rw [Bool.and_eq_true] at h
  obtain ⟨h1, h2, h3⟩ := of_decide_eq_true h.2
  exact ⟨by rw [← h1]; exact aJM h.1, h2, h3⟩
theorem aKZ {J x : Nat} (hJ : J < 32) (hx : x < 13) : iT J x < 36 := by
  unfold iT tT
  by_cases h : x ≤ 4 + J
  · rw [decide_eq_true h]; dsimp only; omega
  · rw [decide_eq_false h]; dsimp only; omega
theorem aK1 (J : Nat) : tT J 4 = true ∧ iT J 4 = J := by
  unfold iT tT
  rw [decide_eq_true (show 4 ≤ 4 + J by omega)]
  exact ⟨rfl, by dsimp only; omega⟩
theorem aXD (J : Nat) : rT J 4 = rO J := by
  unfold rT rO
  rw [(aK1 J).1, (aK1 J).2]
theorem rgv {J x : Nat} (hJ : J < 32) (hx : x < 13) : RgV (rT J x) (KT J x) := by
  obtain ⟨h1, h2, h3⟩ := arB (aKZ hJ hx)
  exact ⟨h1, h2, h3⟩
theorem rgo {J : Nat} (hJ : J < 32) : RgV (rO J) (kQ J) := by
  obtain ⟨h1, h2, h3⟩ := arB (i := J) (by omega)
  exact ⟨h1, h2, h3⟩
structure EnJ (J : Nat) : Prop where
  v : EnV (enT J) (rO J)
  r : rho (enT J).E (kQ J) ≤ 1 + 1 / 2 ^ 18
  t : EnT (enT J) (kQ J * (1 + 1 / 2 ^ 20)) (cN J 7) (cN J 8)
  g : 1 ≤ gR (rho (enT J).E (kQ J)) ∧ gR (rho (enT J).E (kQ J)) ≤ 1 + 1 / 2 ^ 12
  c : pcC true (kQ J) (rho (enT J).E (kQ J)) ≤ (enT J).co * (enT J).U
  m : 1 ≤ cN J 9 ∧ cN J 9 ≤ 254 ∧ 1 ≤ cN J 10
theorem AP {J : Nat} (hJ : J < 32) : EnJ J := by
  have h := bQ aRH hJ
  simp only [Bool.and_eq_true] at h
  obtain ⟨h1, h2, h3⟩ := h
  obtain ⟨a1, a2, a3, a4, ⟨a5, a6⟩, a7, a8⟩ := of_decide_eq_true h1
  obtain ⟨b1, b2, b3, b4, b5, b6, b7, b8, b9⟩ := of_decide_eq_true h2
  obtain ⟨c1, c2, c3, c4, c5, c6⟩ := of_decide_eq_true h3
  obtain ⟨k1, k2, k3⟩ := arB (i := J) (by omega)
  have hU : 0 ≤ (enT J).U := by
    show 0 ≤ kQ J / 2 ^ 24
    grind
  have hκ0 : 0 ≤ kQ J * (1 + 1 / 2 ^ 20) := by grind
  refine ⟨⟨a1, a2, a3, a4, ⟨rgo hJ, a7, a8⟩, rfl, ⟨a5, ?_⟩, hU, b1, b2, b3, b4, b5⟩, a6, ⟨hκ0, b8, b9, b7, b6⟩, ⟨c1, c2⟩, c3, ⟨c4, c5, c6⟩⟩
  have : (1 : Rat) + 1 / 2 ^ 18 ≤ 2 := by decide +kernel
  exact Rat.le_trans a6 this
theorem aY5 {c s : Nat} (h : unB c s = true) : ∃ C S, V32 c C ∧ V32 s S ∧ aH (C * C + S * S - 1) * 2 ^ 23 ≤ 1 := by
  unfold unB at h
  simp only [Bool.and_eq_true] at h
  exact ⟨_, _, aJM h.1.1, aJM h.1.2, of_decide_eq_true h.2⟩
theorem aK2 {i q : Nat} (h : phB i q = true) (ρ : Rat) : PcV ρ true (pcT true i q) (gR ρ) := by
  unfold phB at h
  rw [Bool.and_eq_true] at h
  obtain ⟨C, S, h1, h2, h3⟩ := aY5 h.1
  obtain ⟨C', S', h4, h5, h6⟩ := aY5 h.2
  exact .ph h1 h2 h4 h5 h3 h6
theorem pcv {J x q : Nat} (hJ : J < 32) (hx : x < 13) (hq : q < 6) : PcV (rho (enT J).E (KT J x)) (rT J x).t (pT J x q) (GT' J x q) ∧ 1 ≤ GT' J x q ∧ GT' J x q ≤ cN J 9 := by
  have hg : ggB J x q = true := by
    have := bQ aXC (i := J * 78 + x * 6 + q) (by omega)
    rwa [show (J * 78 + x * 6 + q) / 78 = J by omega, show (J * 78 + x * 6 + q) / 6 % 13 = x by omega, show (J * 78 + x * 6 + q) % 6 = q by omega] at this
  refine ⟨?_, of_decide_eq_true hg⟩
  show PcV _ (tT J x) (pcT (tT J x) (iT J x) q) (GT' J x q)
  unfold GT'
  cases ht : tT J x with
  | true =>
    have hp := aUH (iT J x) (aKZ hJ hx) q (by split <;> omega)
    exact aK2 hp _
  | false =>
    have hJ8 : J < 8 := by
      unfold tT at ht
      have := of_decide_eq_false ht
      omega
    have he : exB J x q = true := by
      have := bQ aXB (i := J * 78 + x * 6 + q) (by omega)
      rwa [show (J * 78 + x * 6 + q) / 78 = J by omega, show (J * 78 + x * 6 + q) / 6 % 13 = x by omega, show (J * 78 + x * 6 + q) % 6 = q by omega] at this
    unfold exB at he
    rw [ht] at he
    dsimp only at he
    simp only [Bool.and_eq_true] at he
    obtain ⟨⟨n1, n2⟩, he⟩ := he
    obtain ⟨e1, e2, e3, e4, e5, e6⟩ := of_decide_eq_true he
    have hg0 : 0 ≤ GT' J x q := by have := (of_decide_eq_true hg).1; grind
    unfold GT' at e6 hg0
    rw [ht] at e6 hg0
    exact .ex (aJM n1) (aJM n2) e1 e2 e3 e4 e5 hg0 e6
theorem aUI {J x : Nat} (hJ : J < 32) (hx : x < 13) : rgB J x = true ∧ rqB J x = true := by
  have := bQ aXA (i := J * 13 + x) (by omega)
  rw [show (J * 13 + x) / 13 = J by omega, show (J * 13 + x) % 13 = x by omega, Bool.and_eq_true] at this
  exact this
theorem pce {J x q : Nat} (hJ : J < 32) (hx : x < 13) (hq : q < 6) : PcE (enT J) (rO J) (rT J x) (pT J x q) (KT J x) (GT' J x q) := by
  obtain ⟨h1, h2, h3⟩ := pcv hJ hx hq
  obtain ⟨r1, r2, r3, r4, r5, r6⟩ := of_decide_eq_true (aUI hJ hx).1
  have hm := (AP hJ).m
  exact ⟨⟨rgv hJ hx, r1, r2⟩, h1, h2, by grind, r3, r4, r5, r6⟩
theorem azR {J x : Nat} (hJ : J < 32) (hx : x < 13) : mx (kQ J / KT J x) + mx (KT J x / kQ J) + 4 ≤ cN J 7 ∧ ppC (KT J x) (rho (enT J).E (KT J x)) ≤ cN J 8 * (enT J).U := of_decide_eq_true (aUI hJ hx).2
theorem agC {J x y : Nat} (hJ : J < 32) (hx : x < 13) (hy : y < 13) : edC (enT J).E (rT J x).t (KT J x) (rT J y).t (KT J y) ≤ (enT J).CP * (enT J).U ∧ mx (KT J x / KT J y) + mx (KT J y / KT J x) + 4 ≤ cN J 7 := of_decide_eq_true (aY4 J hJ x hx y hy)
theorem gpe {J g : Nat} (hJ : J < 24) (hg : g < 12) : GpE (enT J) (rO J) (pcT true J g) (gR (rho (enT J).E (kQ J))) := by
  have e := AP (show J < 32 by omega)
  have hp := aUH J (by omega) g (by rw [if_pos hJ]; exact hg)
  exact ⟨aK2 hp _, e.g.1, e.g.2, e.c⟩
theorem azS {E R w : Rat} {y : Nat} (h : R64 E R) (hy : V64 y w) (hw : E ≤ w) : R ≤ w := by
  obtain ⟨s, m, e, h1, rfl⟩ := hy
  have := kT h1
  exact h.hi s m e (by omega) this.1 hw
theorem ZW {x y K : Nat} {a b c : Rat} (hx : V32 x a) (hy : V32 y b) (hK : V64 K c) (h : aH (a - b) ≤ c) (hc : c ≤ tw 200) : gtD (r8G x y) K = false := by
  have h2 := h
  rw [fA] at h2
  obtain ⟨r, r1, r2⟩ := aAV (aeA hx) (aeA hy) (zU (Rat.le_trans h hc) (by decide))
  have hba : aH (b - a) = aH (a - b) := by rw [← nX]; congr 1; grind
  obtain ⟨s, s1, s2⟩ := aAV (aeA hy) (aeA hx) (zU (by rw [hba]; exact Rat.le_trans h hc) (by decide))
  have r3 := azS r2 hK h2.2
  have s3 := azS s2 hK (by grind)
  have ho : FloatKind.f64.format.order (fop .sub .f64 (up x) (up y)) (fop .sub .f64 (up y) (up x)) = _ := yV r1 s1
  unfold r8G aiZ
  rw [ho]
  by_cases h3 : r < s
  · rw [if_pos h3]
    rw [axU s1 hK, decide_eq_false (by grind)]
  · rw [if_neg h3]
    by_cases h4 : r = s
    · rw [if_pos h4]
      dsimp only
      split
      · rw [axU s1 hK, decide_eq_false (by grind)]
      · rw [axU r1 hK, decide_eq_false (by grind)]
    · rw [if_neg h4]
      rw [axU r1 hK, decide_eq_false (by grind)]
theorem azT {x y : Nat} {a b : Rat} (hx : V64 x a) (hy : V64 y b) : ltD x y = decide (a < b) := by
  have ho : FloatKind.f64.format.order x y = _ := yV hx hy
  unfold ltD
  rw [ho]
  by_cases h : a < b
  · rw [if_pos h, decide_eq_true h]; rfl
  · rw [if_neg h, decide_eq_false h]
    split <;> rfl
theorem aXE {x y K K' : Nat} {a b c d : Rat} (hx : V32 x a) (hy : V32 y b) (hK : V64 K c) (hK' : V64 K' d) (hd : d < c) (h : aH (a - b) ≤ d) (hc : d ≤ tw 200) : ltD (r8G x y) K = true := by
  have h2 := h
  rw [fA] at h2
  obtain ⟨r, r1, r2⟩ := aAV (aeA hx) (aeA hy) (zU (Rat.le_trans h hc) (by decide))
  have hba : aH (b - a) = aH (a - b) := by rw [← nX]; congr 1; grind
  obtain ⟨s, s1, s2⟩ := aAV (aeA hy) (aeA hx) (zU (by rw [hba]; exact Rat.le_trans h hc) (by decide))
  have r3 := azS r2 hK' h2.2
  have s3 := azS s2 hK' (by grind)
  have ho : FloatKind.f64.format.order (fop .sub .f64 (up x) (up y)) (fop .sub .f64 (up y) (up x)) = _ := yV r1 s1
  unfold r8G aiZ
  rw [ho]
  by_cases h3 : r < s
  · rw [if_pos h3]
    rw [azT s1 hK, decide_eq_true (by grind)]
  · rw [if_neg h3]
    by_cases h4 : r = s
    · rw [if_pos h4]
      dsimp only
      split
      · rw [azT s1 hK, decide_eq_true (by grind)]
      · rw [azT r1 hK, decide_eq_true (by grind)]
    · rw [if_neg h4]
      rw [azT r1 hK, decide_eq_true (by grind)]
theorem k10 : ∃ c, V64 4576918229304087675 c ∧ 998 / 100000 ≤ c ∧ c ≤ 1 := ⟨_, ⟨false, 5764607523034235, -59, by decide +kernel, rfl⟩, by decide +kernel, by decide +kernel⟩
theorem k1 : ∃ c, V64 4562254508917369340 c ∧ 999 / 1000000 ≤ c ∧ c ≤ 1 / 100 := ⟨_, ⟨false, 4611686018427388, -62, by decide +kernel, rfl⟩, by decide +kernel, by decide +kernel⟩
theorem k9 : ∃ K, V64 K (155 / 16384) := ⟨4576607199454822400, ⟨false, 5453577673768960, -59, by decide +kernel, by decide +kernel⟩⟩
def Out (k : Nat) (w : W4) (η : Rat) : Prop := ∃ v T R P Q, Has w v ∧ uU v ∧ ShV k w v T R P Q ∧ aH (qR v - 1) ≤ η * sqA v ∧ 2 / 3 ≤ sqA v ∧ sqB v ≤ 2 * sqA v
structure Wd (k : Nat) (w : W4) : Prop where
  fa : cfB (w.ar, w.ai) = true
  fb : cfB (w.br, w.bi) = true
  pa : pwB w.ar w.ai = true
  pb : pwB w.br w.bi = true
  ft : iH (thW k w) = true
  fr : iH (bkW w) = true
  t0 : ltB (thW k w) 0 = false
  r0 : ltB (bkW w) 0 = false
  pw : gtD (r8G (pwN w.br w.bi) (fop .mul .f32 (bkW w) (pwN w.ar w.ai))) (fop .mul .f64 4562254508917369340 (up (fop .add .f32 1065353216 (pwN w.ar w.ai)))) = false
theorem Has.fin {w : W4} {v : Q4} (h : Has w v) : cfB (w.ar, w.ai) = true ∧ cfB (w.br, w.bi) = true := by
  unfold cfB
  rw [ZB h.ar, ZB h.ai, ZB h.br, ZB h.bi]
  exact ⟨rfl, rfl⟩
theorem Out.wd {k : Nat} {w : W4} {η : Rat} (h : Out k w η) : Wd k w := by
  obtain ⟨v, T, R, P, Q, h1, h2, s, h3, h4, h5⟩ := h
  refine ⟨h1.fin.1, h1.fin.2, JQ s.ok.1, JQ s.ok.2, ZB s.t, ZB s.r, ?_, ?_, ?_⟩
  · rw [axT s.t v0, decide_eq_false (by have := s.t0; grind)]
  · rw [axT s.r v0, decide_eq_false (by have := s.r0; grind)]
  · have hA1 : sqA v ≤ tw 40 := by
      have := h2.hi
      have := O5 v
      rw [ax3] at *
      grind
    obtain ⟨X, x1, x2⟩ := aHD s h4 hA1 h5
    obtain ⟨c, c1, c2, c3⟩ := k1
    have hP0 : 0 ≤ P := by
      have := s.pe
      have a0 := ZC v
      have : aH (P - sqA v) ≤ sqA v := by
        generalize aH (P - sqA v) = x at *
        grind
      rw [fA] at this
      grind
    have hP1 : P ≤ tw 41 := by
      have := s.pe
      have a0 := ZC v
      have e41 : tw 41 = 2 * tw 40 := uT 40
      have : aH (P - sqA v) ≤ sqA v := by
        generalize aH (P - sqA v) = x at *
        grind
      rw [fA] at this
      grind
    have e42 : tw 42 = 2 * tw 41 := uT 41
    have p41 := gV 41
    have o41 : (1 : Rat) ≤ tw 41 := by decide +kernel
    obtain ⟨S, s1, s2⟩ := ad9 uN s.p (oV (k := 42) (by rw [bP (by grind)]; grind) (by decide))
    have s3 := O4 s2
    rw [bP (show 0 ≤ 1 + P by grind)] at s3
    have ht : tiny ≤ 1 := by decide +kernel
    have hS : aH (S - (1 + P)) * 2 ^ 22 ≤ 1 + P := by
      generalize aH (S - (1 + P)) = x at *
      grind
    have hS2 : aH (S - (1 + P)) ≤ (1 + P) * (1 / 2 ^ 22) := by
      generalize aH (S - (1 + P)) = x at *
      grind
    rw [fA] at hS2
    have hcS0 : 0 ≤ c * S := aF (by grind) (by grind)
    have hcS : c * S ≤ tw 42 := by
      have := aF (show 0 ≤ S by grind) (show 0 ≤ 1 / 100 - c by grind)
      grind
    obtain ⟨r, R', r1, r2, r3⟩ := ajZ aAT c1 (aeA s1) (B := 900) (zU (by rw [bP hcS0]; exact hcS) (by decide)) (by decide)
    have hr : V64 (fop .mul .f64 4562254508917369340 (up (fop .add .f32 1065353216 (pwN w.ar w.ai)))) R' := by
      show Vw _ ((Ieee.double.mul (4562254508917369340 : Nat) (up _)).getD (rC .f64)) _
      rw [r1]
      exact r2
    have r4 := aj1 r3
    rw [bP hcS0] at r4
    have r5 : aH (R' - c * S) * 2 ^ 50 ≤ c * S + 1 := by
      have := iW (R' - c * S)
      generalize aH (R' - c * S) = x at *
      generalize c * S = y at *
      clear s3 hS hS2
      grind
    have r6 : aH (R' - c * S) ≤ (c * S + 1) * (1 / 2 ^ 50) := by
      generalize aH (R' - c * S) = x at *
      grind
    rw [fA] at r6
    have hlow : 999 / 1000000 * (1 + P) * (1 - 1 / 2 ^ 20) ≤ c * S := by
      have i1 := aF (show 0 ≤ c - 999 / 1000000 by grind) (show 0 ≤ S by grind)
      grind
    refine ZW s.q x1 hr (Rat.le_trans x2 ?_) ?_
    · generalize c * S = y at *
      clear s3 hS hS2
      grind
    · have e200 : tw 42 * 2 ≤ tw 200 := by decide +kernel
      generalize c * S = y at *
      clear s3 hS hS2
      grind
theorem Out.one {k : Nat} {w : W4} {η : Rat} (h : Out k w η) (hη : η ≤ 97 / 100000) : gtD (r8G (fop .add .f32 (thW k w) (bkW w)) 1065353216) 4562254508917369340 = false := by
  obtain ⟨v, T, R, P, Q, h1, h2, s, h3, h4, h5⟩ := h
  obtain ⟨_, S, s1, s2⟩ := acQ s h3 h4 h5 (by grind)
  obtain ⟨c, c1, c2, c3⟩ := k1
  have : (1 : Rat) ≤ tw 200 := by decide +kernel
  exact ZW s1 uN c1 (by grind) (by grind)
theorem Out.rep {k : Nat} {w : W4} {η : Rat} (h : Out k w η) (hη : η ≤ 94 / 10000) : ltD (r8G (fop .add .f32 (thW k w) (bkW w)) 1065353216) 4576918229304087675 = true := by
  obtain ⟨v, T, R, P, Q, h1, h2, s, h3, h4, h5⟩ := h
  obtain ⟨_, S, s1, s2⟩ := acQ s h3 h4 h5 (by grind)
  obtain ⟨c, c1, c2, c3⟩ := k10
  obtain ⟨K, hK⟩ := k9
  have : (1 : Rat) ≤ tw 200 := by decide +kernel
  exact aXE s1 uN c1 hK (by grind) (by grind) (by grind)
theorem aK3 {k : Nat} {w w' : W4} {η δ : Rat} (h : Out k w η) (h' : Out k w' η) (hη : η ≤ 97 / 100000) (hδ : 0 ≤ δ) (hp : ∃ v u, Has w v ∧ Has w' u ∧ ∀ α β, α * α + β * β ≤ 1 → aH (α * v.ar + β * v.ai - (α * u.ar + β * u.ai)) ≤ δ) (hg : 1005 / 500 * δ + 1 / 2 ^ 19 + 2 * (η + 1 / 2 ^ 17) ≤ 98 / 100000) :
    gtD (r8G (thW k w) (thW k w')) 4562254508917369340 = false ∧ gtD (r8G (bkW w) (bkW w')) 4562254508917369340 = false := by
  obtain ⟨v, T, R, P, Q, h1, h2, s, h3, h4, h5⟩ := h
  obtain ⟨u, T', R', P', Q', g1, g2, s', g3, g4, g5⟩ := h'
  obtain ⟨v1, u1, p1, p2, hp⟩ := hp
  have e1 := h1.uniq p1
  have e2 := g1.uniq p2
  subst e1 e2
  have eta0 : 0 ≤ η := by
    have := iW (qR v - 1)
    refine Rat.not_lt.1 fun hl => ?_
    have := Rat.mul_pos (show 0 < -η by grind) (show 0 < sqA v by grind)
    grind
  have big : ∀ {v : Q4}, aH (qR v - 1) ≤ η * sqA v → 999 / 1000 ≤ sqA v := by
    intro v h
    rw [fA, aHC] at h
    have b0 := O5 v
    have a0 := ZC v
    have i := aF a0 (show 0 ≤ 97 / 100000 - η by grind)
    grind
  have dT := aYX hδ hp (big h3) (big g3) s.te s'.te
  obtain ⟨o1, -⟩ := acQ s h3 h4 h5 (by grind)
  obtain ⟨o2, -⟩ := acQ s' g3 g4 g5 (by grind)
  obtain ⟨c, c1, c2, c3⟩ := k1
  have b200 : (1 : Rat) ≤ tw 200 := by decide +kernel
  refine ⟨ZW s.t s'.t c1 (by grind) (by grind), ZW s.r s'.r c1 ?_ (by grind)⟩
  rw [fA] at o1 o2 dT ⊢
  constructor <;> grind
def yN (n : Nat) (S : Rat) : Rat := fa n * (1003 / 1000) * S / 2 ^ 24 * (1 + 1 / 2 ^ 18)
def ab2 (n : Nat) (S η : Rat) : Prop := 0 < 1 - (fa n - 1) - 2 * yN n S ∧ (fa n - 1) + 4 * yN n S ≤ η * (1 - (fa n - 1) - 2 * yN n S) ∧ 0 ≤ η ∧ η ≤ 1 / 2 ∧ 0 ≤ S
theorem YN {J n k : Nat} {w : W4} {v : Q4} {S Sm η : Rat} (hJ : J < 32) (hk : k = kW J) (hw : Has w v) (hv : uU v) (hS : S ≤ Sm) (he : ab2 n Sm η)
    (h : aH ((enT J).K0 * qR v - (enT J).K0) ≤ (fa n - 1) * (enT J).K0 + fa n * ((enT J).U * ((1003 / 1000) * (qW (rho (enT J).E (enT J).K0) v + qW (rho (enT J).E (enT J).K0) lW)) * S)) : Out k w η := by
  obtain ⟨h1, h2, h3, h4, h5⟩ := he
  obtain ⟨k1, k2, k3⟩ := arB (i := J) (by omega)
  have e := AP hJ
  have pK : 0 < (enT J).K0 := by show 0 < kQ J; grind
  have kρ := RgE.pos e.v.hE e.v.hO
  have Z : 0 ≤ qW (rho (enT J).E (enT J).K0) v + qW (rho (enT J).E (enT J).K0) lW := by
    have := kN (Rat.le_of_lt kρ) v
    have := kN (Rat.le_of_lt kρ) lW
    grind
  have f1 := ahV n
  have hU : (enT J).U = (enT J).K0 / 2 ^ 24 := rfl
  have hr : rho (enT J).E (enT J).K0 ≤ 1 + 1 / 2 ^ 18 := e.r
  generalize rho (enT J).E (enT J).K0 = ρ at *
  generalize (enT J).K0 = K at *
  rw [hU] at h
  have hf : aH (K * qR v - K) ≤ (fa n - 1) * K + fa n * (1003 / 1000) * Sm / 2 ^ 24 * K * (qW ρ v + qW ρ lW) := by
    refine Rat.le_trans h ?_
    have i1 := aF (aF (aF (show 0 ≤ fa n by grind) (Rat.le_of_lt pK)) Z) (show 0 ≤ Sm - S by grind)
    generalize qW ρ v + qW ρ lW = z at *
    have e1 : fa n * (K / 2 ^ 24 * (1003 / 1000 * z) * S) = fa n * K * z * S * (1003 / 1000 / 2 ^ 24) := by grind
    have e2 : fa n * (1003 / 1000) * Sm / 2 ^ 24 * K * z = fa n * K * z * Sm * (1003 / 1000 / 2 ^ 24) := by grind
    rw [e1, e2]
    have e3 : fa n * K * z * (Sm - S) = fa n * K * z * Sm - fa n * K * z * S := by grind
    rw [e3] at i1
    generalize fa n * K * z * Sm = a at *
    generalize fa n * K * z * S = b at *
    clear h
    grind
  have hs0 : 0 ≤ fa n * (1003 / 1000) * Sm / 2 ^ 24 := by
    have := aF (show 0 ≤ fa n by grind) h5
    grind
  obtain ⟨d1, d2, d3⟩ := aVN pK ⟨Rat.le_of_lt kρ, hr⟩ hf (by grind) hs0 (show _ = yN n Sm from rfl) h2 h1 h3 h4
  subst hk
  obtain ⟨T, R, P, Q, s⟩ := shares k1 (show 0 < kQ J by grind) hw hv (by grind)
  exact ⟨v, T, R, P, Q, hw, hv, s, d1, d2, d3⟩
def S1 (J : Nat) : Rat := 2 * (enT J).CO + (enT J).CC + (enT J).CD
def S2 (J : Nat) (m : Rat) : Rat := S1 J + ((enT J).CC + (enT J).CD + (enT J).CP) * m
def S11 (J : Nat) (G : Rat) : Rat := S1 J + (2 * (enT J).CO + (enT J).co + (enT J).CC + (enT J).CD) * G
def S22 (J : Nat) : Rat := S1 J + ((enT J).CP + (enT J).CC + (enT J).CD) * (cN J 9 + cN J 10 * cN J 10 / cN J 9) + (2 * (enT J).CO + (enT J).co + (enT J).CC + (enT J).CD) * (cN J 10 * cN J 10)
def dJ (J : Nat) : Rat := cN J 10 * (1003 / 1000) * (1 + rho (enT J).E (enT J).K0) * (3 * (cN J 7 * (1001 / 1000)) + 2 * (enT J).CO + (enT J).CP + 2 * cN J 8) / 2 ^ 24
instance (n : Nat) (S η : Rat) : Decidable (ab2 n S η) := inferInstanceAs (Decidable (_ ∧ _ ∧ _ ∧ _ ∧ _))
def etB (J : Nat) : Bool := decide (ab2 3 (S1 J) (97 / 100000) ∧ ab2 5 (S2 J (cN J 10)) (eN J) ∧ ab2 5 (S2 J (cN J 9)) (1 / 2) ∧ ab2 7 (S11 J (cN J 9)) (94 / 10000) ∧ ab2 11 (S22 J) (94 / 10000) ∧ 1005 / 500 * dJ J + 1 / 2 ^ 19 + 2 * (eN J + 1 / 2 ^ 17) ≤ 98 / 100000 ∧ eN J ≤ 97 / 100000 ∧ (3 ≤ J → cN J 9 = cN J 10))
theorem aXF : ((List.range 32).all etB) = true := by kernel_rfl
def A1 (J x q : Nat) : W4 := chW (rO J) (rO J) [(rT J x, pT J x q)] oP
def A2 (J x q y r : Nat) : W4 := chW (rO J) (rO J) [(rT J y, pT J y r), (rT J x, pT J x q)] oP
def R1 (J x q g : Nat) : W4 := chW (rO J) (rO J) [(rT J x, pT J x q), (rO J, pcT true J g), (rT J x, pT J x q)] oP
def R2 (J x q y r g : Nat) : W4 := chW (rO J) (rO J) [(rT J y, pT J y r), (rT J x, pT J x q), (rO J, pcT true J g), (rT J y, pT J y r), (rT J x, pT J x q)] oP
structure EtJ (J : Nat) : Prop where
  a : ab2 3 (S1 J) (97 / 100000)
  b : ab2 5 (S2 J (cN J 10)) (eN J)
  c : ab2 5 (S2 J (cN J 9)) (1 / 2)
  d : ab2 7 (S11 J (cN J 9)) (94 / 10000)
  e : ab2 11 (S22 J) (94 / 10000)
  g : 1005 / 500 * dJ J + 1 / 2 ^ 19 + 2 * (eN J + 1 / 2 ^ 17) ≤ 98 / 100000
  h : eN J ≤ 97 / 100000
  s : 3 ≤ J → cN J 9 = cN J 10
theorem abT {J : Nat} (hJ : J < 32) : EtJ J := by
  obtain ⟨a, b, c, d, e, g, h, s⟩ := of_decide_eq_true (bQ aXF hJ)
  exact ⟨a, b, c, d, e, g, h, s⟩
theorem out1 {J x q : Nat} (hJ : J < 32) (hx : x < 13) (hq : q < 6) : agN (rO J) (rO J) [(rT J x, pT J x q)] oP ∧ Out (kW J) (A1 J x q) (97 / 100000) := by
  obtain ⟨h1, v, h2, h3, _, h4⟩ := aYV (AP hJ).v (pce hJ hx hq)
  exact ⟨h1, YN hJ rfl h2 h3 Rat.le_refl (abT hJ).a h4⟩
theorem aY6 {a b s : Rat} (ha : 1 ≤ a) (hb : 1 ≤ b) (hs : 1 ≤ s) (h : a * b ≤ s * s) : b ≤ s ∨ a ≤ s := by
  rcases Rat.le_total (a := a) (b := s) with h1 | h1
  · exact .inr h1
  · rcases Rat.le_total (a := b) (b := s) with h2 | h2
    · exact .inl h2
    · have i1 := aF (show 0 ≤ a - s by grind) (show 0 ≤ b - s by grind)
      have i2 := aF (show 0 ≤ a - s by grind) (show 0 ≤ s by grind)
      have i3 := aF (show 0 ≤ b - s by grind) (show 0 ≤ s by grind)
      refine .inl (Rat.not_lt.1 fun h3 => ?_)
      have i4 := Rat.mul_pos (show 0 < b - s by grind) (show 0 < s by grind)
      grind
section
variable {J x q y r : Nat} (hJ : J < 32) (hx : x < 13) (hq : q < 6) (hy : y < 13) (hr : r < 6)
include hJ hx hq hy hr
theorem azU : agN (rO J) (rO J) [(rT J y, pT J y r), (rT J x, pT J x q)] oP ∧ Out (kW J) (A2 J x q y r) (1 / 2) := by
  have hm := (AP hJ).m
  obtain ⟨h1, v, h2, h3, _, h4⟩ := aUE (AP hJ).v (pce hJ hx hq) (pce hJ hy hr) (agC hJ hy hx).1 (m := cN J 9) (.inl (pcv hJ hy hr).2.2) hm.1
  exact ⟨h1, YN hJ rfl h2 h3 Rat.le_refl (abT hJ).c h4⟩
theorem aXG (hG : GT' J x q * GT' J y r ≤ cN J 10 * cN J 10) : Out (kW J) (A2 J x q y r) (eN J) := by
  have hm := (AP hJ).m
  obtain ⟨h1, v, h2, h3, _, h4⟩ := aUE (AP hJ).v (pce hJ hx hq) (pce hJ hy hr) (agC hJ hy hx).1 (m := cN J 10) (aY6 (pcv hJ hx hq).2.1 (pcv hJ hy hr).2.1 hm.2.2 hG) hm.2.2
  exact YN hJ rfl h2 h3 Rat.le_refl (abT hJ).b h4
theorem aY7 (hG : GT' J x q * GT' J y r ≤ cN J 10 * cN J 10) : ∃ v u, Has (A2 J x q y r) v ∧ Has (A2 J y r x q) u ∧ ∀ α β, α * α + β * β ≤ 1 → aH (α * v.ar + β * v.ai - (α * u.ar + β * u.ai)) ≤ dJ J := by
  have e := AP hJ
  obtain ⟨v, u, h1, h2, h3⟩ := aVQ e.v e.t (pce hJ hx hq) (pce hJ hy hr) (agC hJ hy hx).1 (agC hJ hx hy).1 (azR hJ hx).1 (azR hJ hy).1 (agC hJ hx hy).2 (azR hJ hx).2 (azR hJ hy).2 (show 0 ≤ cN J 10 by have := e.m.2.2; grind) hG
  refine ⟨v, u, h1, h2, fun α β hd => ?_⟩
  have h := h3 α β hd
  obtain ⟨k1, k2, k3⟩ := arB (i := J) (by omega)
  have pK : 0 < (enT J).K0 := by show 0 < kQ J; grind
  have hU : (enT J).U = (enT J).K0 / 2 ^ 24 := rfl
  rw [aHA, hU, show (enT J).K0 * (α * v.ar + β * v.ai) - (enT J).K0 * (α * u.ar + β * u.ai) = (enT J).K0 * (α * v.ar + β * v.ai - (α * u.ar + β * u.ai)) by grind, fM, bP (Rat.le_of_lt pK)] at h
  refine fJ (c := (enT J).K0) ?_ pK
  unfold dJ
  generalize aH (α * v.ar + β * v.ai - (α * u.ar + β * u.ai)) = X at *
  generalize (3 * (cN J 7 * (1001 / 1000)) + 2 * (enT J).CO + (enT J).CP + 2 * cN J 8) = S at *
  generalize (enT J).K0 = K at *
  grind
theorem aY8 (hG : GT' J x q * GT' J y r ≤ cN J 10 * cN J 10) : gtD (r8G (thW (kW J) (A2 J x q y r)) (thW (kW J) (A2 J y r x q))) 4562254508917369340 = false ∧ gtD (r8G (bkW (A2 J x q y r)) (bkW (A2 J y r x q))) 4562254508917369340 = false := by
  have e := AP hJ
  have t := abT hJ
  have hG' : GT' J y r * GT' J x q ≤ cN J 10 * cN J 10 := by rw [Rat.mul_comm]; exact hG
  refine aK3 (aXG hJ hx hq hy hr hG) (aXG hJ hy hr hx hq hG') t.h ?_ (aY7 hJ hx hq hy hr hG) t.g
  have hs := e.m.2.2
  have k0 := RgE.pos e.v.hE e.v.hO
  have a := e.v.CO0
  have b := e.v.CP0
  have c := e.t.Q0
  have d := e.t.W0
  unfold dJ
  have i := aF (aF (aF (show 0 ≤ cN J 10 by grind) (show (0 : Rat) ≤ 1003 / 1000 by decide +kernel)) (show 0 ≤ 1 + rho (enT J).E (enT J).K0 by grind)) (show 0 ≤ 3 * (cN J 7 * (1001 / 1000)) + 2 * (enT J).CO + (enT J).CP + 2 * cN J 8 by grind)
  generalize cN J 10 * (1003 / 1000) * (1 + rho (enT J).E (enT J).K0) * (3 * (cN J 7 * (1001 / 1000)) + 2 * (enT J).CO + (enT J).CP + 2 * cN J 8) = X at *
  grind
end
theorem aUJ {J x q g : Nat} (hJ : J < 24) (hx : x < 13) (hq : q < 6) (hg : g < 12) : agN (rO J) (rO J) [(rT J x, pT J x q), (rO J, pcT true J g), (rT J x, pT J x q)] oP ∧ Out (kW J) (R1 J x q g) (94 / 10000) := by
  have hJ' : J < 32 := by omega
  have e := AP hJ'
  obtain ⟨h1, v, h2, h3, _, h4⟩ := aVM e.v (pce hJ' hx hq) (gpe hJ hg)
  refine ⟨h1, YN hJ' rfl h2 h3 ?_ (abT hJ').d h4⟩
  have a := e.v.CO0
  have b := e.v.co0
  have c := e.v.CC0
  have d := e.v.CD0
  have i := aF (show 0 ≤ 2 * (enT J).CO + (enT J).co + (enT J).CC + (enT J).CD by grind) (show 0 ≤ cN J 9 - GT' J x q by have := (pcv hJ' hx hq).2.2; grind)
  unfold S11 S1
  generalize 2 * (enT J).CO + (enT J).co + (enT J).CC + (enT J).CD = X at *
  grind
section
variable {J x q y r g : Nat} (hJ : J < 24) (hx : x < 13) (hq : q < 6) (hy : y < 13) (hr : r < 6) (hg : g < 12)
include hJ hx hq hy hr hg
theorem aY9 : agN (rO J) (rO J) [(rT J y, pT J y r), (rT J x, pT J x q), (rO J, pcT true J g), (rT J y, pT J y r), (rT J x, pT J x q)] oP ∧ ∃ v, Has (R2 J x q y r g) v ∧ uU v := by
  have hJ' : J < 32 := by omega
  obtain ⟨h1, v, h2, h3, _⟩ := aHB (AP hJ').v (pce hJ' hx hq) (pce hJ' hy hr) (gpe hJ hg) (agC hJ' hy hx).1
  exact ⟨h1, v, h2, h3⟩
theorem aZA (hG : GT' J x q * GT' J y r ≤ cN J 10 * cN J 10) : Out (kW J) (R2 J x q y r g) (94 / 10000) := by
  have hJ' : J < 32 := by omega
  have e := AP hJ'
  obtain ⟨h1, v, h2, h3, _, h4⟩ := aHB e.v (pce hJ' hx hq) (pce hJ' hy hr) (gpe hJ hg) (agC hJ' hy hx).1
  refine YN hJ' rfl h2 h3 ?_ (abT hJ').e h4
  have a := e.v.CO0
  have b := e.v.co0
  have c := e.v.CC0
  have d := e.v.CD0
  have f := e.v.CP0
  have m := e.m
  obtain ⟨-, p1, p2⟩ := pcv hJ' hx hq
  obtain ⟨-, p3, p4⟩ := pcv hJ' hy hr
  unfold S22 S1
  have hs : GT' J x q + GT' J y r ≤ cN J 9 + cN J 10 * cN J 10 / cN J 9 := by
    refine fJ (c := cN J 9) ?_ (show 0 < cN J 9 by grind)
    have i := aF (show 0 ≤ cN J 9 - GT' J x q by grind) (show 0 ≤ cN J 9 - GT' J y r by grind)
    have e1 : (cN J 9 + cN J 10 * cN J 10 / cN J 9) * cN J 9 = cN J 9 * cN J 9 + cN J 10 * cN J 10 := by
      have : cN J 9 ≠ 0 := by grind
      rw [Rat.add_mul, Rat.div_mul_cancel this]
    rw [e1]
    grind
  generalize cN J 9 + cN J 10 * cN J 10 / cN J 9 = X at *
  generalize cN J 10 * cN J 10 = Y at *
  have i1 := aF (show 0 ≤ (enT J).CP + (enT J).CC + (enT J).CD by grind) (show 0 ≤ X - (GT' J x q + GT' J y r) by grind)
  have i2 := aF (show 0 ≤ 2 * (enT J).CO + (enT J).co + (enT J).CC + (enT J).CD by grind) (show 0 ≤ Y - GT' J x q * GT' J y r by grind)
  generalize GT' J x q * GT' J y r = Z at *
  generalize GT' J x q + GT' J y r = Z' at *
  generalize (enT J).CP + (enT J).CC + (enT J).CD = U at *
  generalize 2 * (enT J).CO + (enT J).co + (enT J).CC + (enT J).CD = V at *
  generalize 2 * (enT J).CO + (enT J).CC + (enT J).CD = W at *
  clear h4 hG
  grind
end
def frW {α : Type} (w : W4) (K : W4 → α) : α := frc w.ar fun a => frc w.ai fun b => frc w.br fun c => frc w.bi fun d => K ⟨a, b, c, d⟩
theorem awG {α : Type} (w : W4) (K : W4 → α) : frW w K = K w := by unfold frW; simp only [ZV]
def frE {α : Type} (R L : Rg) (w : W4) (K : W4 → α) : α := frc (qre R L) fun a => frc (qim R L) fun b => frc (fop .add .f32 1065353216 a) fun mr => frc (fop .add .f32 0 b) fun mi => frc (fop .sub .f32 1065353216 a) fun lr => frc (fop .sub .f32 0 b) fun li => frW (edW mr mi lr li w) K
theorem aK4 {α : Type} (R L : Rg) (w : W4) (K : W4 → α) : frE R L w K = K (uA R L w) := by unfold frE; simp only [ZV, awG]; rfl
def chF {α : Type} (O : Rg) : Rg → List (Rg × Pc) → W4 → (W4 → α) → α
  | R, [], w, K => frE R O w K
  | R, q :: l, w, K => frE R q.1 w fun u => frW (pG q.2 u) fun u => chF O q.1 l u K
theorem am8 {α : Type} (O : Rg) : ∀ (R : Rg) (l : List (Rg × Pc)) (w : W4) (K : W4 → α), chF O R l w K = K (chW O R l w)
  | R, [], w, K => aK4 R O w K
  | R, q :: l, w, K => by
    unfold chF chW
    rw [aK4, awG]
    exact am8 O q.1 l _ K
def aUK (k : Nat) (w w' w2 : W4) : Bool := frc (thW k w) fun T => frc (bkW w) fun R => frc (thW k w') fun T' => frc (bkW w') fun R' => frc (thW k w2) fun T2 => frc (bkW w2) fun R2 =>
  !gtD (r8G (fop .add .f32 T R) 1065353216) 4562254508917369340 && (!gtD (r8G T T') 4562254508917369340 && (!gtD (r8G R R') 4562254508917369340 && (ltD (r8G (fop .add .f32 T R) 1065353216) 4576918229304087675 && (iH T2 && (iH R2 && ltD (r8G (fop .add .f32 T2 R2) 1065353216) 4576918229304087675)))))
def aXH (J x q y r : Nat) : Bool :=
  chF (rO J) (rO J) [(rT J y, pT J y r), (rT J x, pT J x q)] oP fun w => chF (rO J) (rO J) [(rT J x, pT J x q), (rT J y, pT J y r)] oP fun w' => chF (rO J) (rO J) [(rT J y, pT J y r), (rT J x, pT J x q), (rO J, pcT true J (q + r + 1)), (rT J y, pT J y r), (rT J x, pT J x q)] oP fun w2 => aUK (kW J) w w' w2
def xB (J x q y r : Nat) : Bool := match decide (GT' J x q * GT' J y r ≤ cN J 10 * cN J 10) with
  | true => true
  | false => aXH J x q y r
def xr (x q i : Nat) : Bool := xB 0 x q (i / 6) (i % 6)
theorem jK (P : Nat → Bool) : ∀ i, i < 0 → P i = true := fun i h => absurd h (Nat.not_lt_zero i)
theorem iJ {P : Nat → Bool} {a n : Nat} (h : ∀ i, i < a → P i = true) (k : ((List.range n).all fun i => P (a + i)) = true) : ∀ i, i < a + n → P i = true := fun i hi => by
  by_cases h1 : i < a
  · exact h i h1
  · have := bQ k (i := i - a) (by omega)
    rwa [show a + (i - a) = i by omega] at this
theorem agD {l : List Int} (hb : pI l = true) (i : Nat) {k : Int} (hk : 1 ≤ k) : 0 ≤ drV l i k ∧ drV l i k < k := by
  obtain ⟨h0, h1⟩ := aHZ (l := l) (a := (i : Int)) (s := sdV l i) hb (by omega)
  unfold drV
  rw [Int.tmod_eq_emod_of_nonneg h0]
  exact ⟨Int.emod_nonneg _ (by omega), Int.emod_lt_of_pos _ (by omega)⟩
theorem aXI {l : List Int} (hb : pI l = true) : ∃ p, p < 9 ∧ a0F l = aW p := by
  obtain ⟨h0, h1⟩ := agD hb 0 (k := 9) (by decide)
  have hp : (drV l 0 9).toNat < 9 := by omega
  refine ⟨(drV l 0 9).toNat, hp, ?_⟩
  rw [← eq_of_beq (bQ am6.1 hp)]
  unfold a0F aL
  rw [kP (by omega) (by omega), Int.toNat_of_nonneg h0]
theorem awH {l : List Int} (hb : pI l = true) (i : Nat) : ∃ p, p < 6 ∧ wqF l i = wW p := by
  obtain ⟨h0, h1⟩ := agD hb i (k := 6) (by decide)
  have hp : (drV l i 6).toNat < 6 := by omega
  refine ⟨(drV l i 6).toNat, hp, ?_⟩
  rw [← eq_of_beq (bQ am6.2.1 hp)]
  unfold wqF wL
  rw [kP (by omega) (by omega), Int.toNat_of_nonneg h0]
theorem awI {l : List Int} (hb : pI l = true) (i : Nat) : ∃ p, p < 13 ∧ hqF l i = hW p := by
  obtain ⟨h0, h1⟩ := agD hb i (k := 13) (by decide)
  have hp : (drV l i 13).toNat < 13 := by omega
  refine ⟨(drV l i 13).toNat, hp, ?_⟩
  rw [← eq_of_beq (bQ am6.2.2 hp)]
  unfold hqF hL
  rw [kP (by omega) (by omega), Int.toNat_of_nonneg h0]
theorem aK5 {q : List Int} (hb : pI q = true) : ∃ J, J < 24 ∧ dE q = eT J := by
  obtain ⟨h0, h1⟩ := MX (i := 41) (k := 24) hb (by decide) (by decide) (by decide)
  refine ⟨(atF q 41 24).toNat, by omega, ?_⟩
  unfold dE eT
  rw [show IntKind.i64.wrap (2 * atF q 41 24) = 2 * atF q 41 24 from kP (by omega) (by omega), kP (by omega) (by omega), Int.toNat_of_nonneg h0]
theorem aK6 {q : List Int} (hb : pI q = true) : ∃ j : Nat, j < 8 ∧ dq q = 1 + (j : Int) := by
  obtain ⟨h0, h1⟩ := MX (i := 42) (k := 8) hb (by decide) (by decide) (by decide)
  refine ⟨(atF q 42 8).toNat, by omega, ?_⟩
  unfold dq
  rw [kP (by omega) (by omega), Int.toNat_of_nonneg h0]
theorem aXJ {q : List Int} (hb : pI q = true) : dt q = 1 ∨ dt q = 2 := by
  obtain ⟨h0, h1⟩ := MX (i := 43) (k := 2) hb (by decide) (by decide) (by decide)
  unfold dt
  rw [kP (by omega) (by omega)]
  omega
theorem aXK {q : List Int} (hb : pI q = true) : dn q = 0 ∨ dn q = 1 ∨ dn q = 2 ∨ dn q = 3 := by
  obtain ⟨h0, h1⟩ := MX (i := 40) (k := 4) hb (by decide) (by decide) (by decide)
  unfold dn
  omega
theorem azV (i : Nat) (hi : i < 36) (q : Nat) (hq : q < if i < 24 then 12 else 6) : pM i q = true := by
  match i, hi with
  | 0, _ => exact bQ aWR hq
  | 1, _ => exact bQ aWS hq
  | 2, _ => exact bQ aWT hq
  | 3, _ => exact bQ aWU hq
  | 4, _ => exact bQ aWV hq
  | 5, _ => exact bQ aWW hq
  | 6, _ => exact bQ aWX hq
  | 7, _ => exact bQ aWY hq
  | 8, _ => exact bQ aWZ hq
  | 9, _ => exact bQ aW0 hq
  | 10, _ => exact bQ aQR hq
  | 11, _ => exact bQ aQS hq
  | 12, _ => exact bQ aQT hq
  | 13, _ => exact bQ aQU hq
  | 14, _ => exact bQ aQV hq
  | 15, _ => exact bQ aQW hq
  | 16, _ => exact bQ aQX hq
  | 17, _ => exact bQ aQY hq
  | 18, _ => exact bQ aQZ hq
  | 19, _ => exact bQ aQ0 hq
  | 20, _ => exact bQ aQ1 hq
  | 21, _ => exact bQ aQ2 hq
  | 22, _ => exact bQ aQ3 hq
  | 23, _ => exact bQ aQ4 hq
  | 24, _ => exact bQ aQ5 hq
  | 25, _ => exact bQ aQ6 hq
  | 26, _ => exact bQ aQ7 hq
  | 27, _ => exact bQ aQ8 hq
  | 28, _ => exact bQ aQ9 hq
  | 29, _ => exact bQ aRA hq
  | 30, _ => exact bQ aRB hq
  | 31, _ => exact bQ aRC hq
  | 32, _ => exact bQ aRD hq
  | 33, _ => exact bQ aRE hq
  | 34, _ => exact bQ aRF hq
  | 35, _ => exact bQ aRG hq
  | n + 36, h => omega
theorem aR2 (i : Nat) (hi : i < 8) (q : Nat) (hq : q < 6) : agA i q = true := by
  match i, hi with
  | 0, _ => exact bQ aW1 hq
  | 1, _ => exact bQ aW2 hq
  | 2, _ => exact bQ aW3 hq
  | 3, _ => exact bQ aW4 hq
  | 4, _ => exact bQ aW5 hq
  | 5, _ => exact bQ aW6 hq
  | 6, _ => exact bQ aW7 hq
  | 7, _ => exact bQ aW8 hq
  | n + 8, h => omega
theorem aUL {i : Nat} (hi : i < 36) : (FloatKind.f32.format.order (kW i) 0 != some .eq) = true ∧ eqB (kW i) 0 = false := by
  have h := bQ aWP hi
  simp only [Bool.and_eq_true, Bool.not_eq_true'] at h
  exact h
theorem aK7 {k d : Nat} {i q : Nat} (hk : k = kW i) (hd : d = wW q) (hi : i < 36) (hc : pM i q = true) : OE (k, 0) d = pcT true i q ∧ ∀ w, MP (pcT true i q) w → pcB (k, 0) d w = true := by
  subst hk hd
  unfold pM at hc
  simp only [ZV, Bool.and_eq_true, beq_iff_eq] at hc
  obtain ⟨c1, c2, c3, c4⟩ := hc
  have hr : ahZ (kW i, 0) = true := (aUL hi).1
  have hp : OE (kW i, 0) (wW q) = pcT true i q := by
    unfold OE pcT
    rw [hr]
    dsimp only
    rw [c1, c2, c3, c4]
  refine ⟨hp, fun w h => ?_⟩
  unfold pcB
  rw [hr]
  dsimp only
  rw [c1, c2, c3, c4]
  have h' : A8 w.ar w.ai (phT i q).1 (phT i q).2.1 ∧ A8 w.br w.bi (phT i q).2.2.1 (phT i q).2.2.2 := h
  rw [ZG h'.1, ZG h'.2]
  rfl
theorem aXL {k d : Nat} {i q : Nat} (hk : k = kW i) (hd : d = wW q) (hc : agA i q = true) : OE (0, k) d = pcT false i q ∧ ∀ w, pcB (0, k) d w = true := by
  subst hk hd
  unfold agA at hc
  simp only [ZV, Bool.and_eq_true, beq_iff_eq] at hc
  obtain ⟨⟨c1, c2⟩, c3, c4⟩ := hc
  have hr : ahZ (0, kW i) = false := by
    show (FloatKind.f32.format.order 0 0 != some .eq) = false
    decide +kernel
  refine ⟨?_, fun w => ?_⟩
  · unfold OE pcT
    rw [hr]
    dsimp only
    rw [c3, c4]
  · unfold pcB
    rw [hr]
    dsimp only
    rw [c1, c2]
    rfl
theorem aUM {J x q d : Nat} (hJ : J < 32) (hx : x < 13) (hq : q < 6) (hd : d = wW q) : OE (zT J x) d = pT J x q ∧ ∀ w, MP (pT J x q) w → pcB (zT J x) d w = true := by
  have hi := aKZ hJ hx
  unfold zT rT Rg.re Rg.im pT
  dsimp only
  cases ht : tT J x with
  | true =>
    exact aK7 rfl hd hi (azV _ hi q (by split <;> omega))
  | false =>
    have h8 : iT J x < 8 := by
      unfold iT
      rw [ht]
      unfold tT at ht
      have := of_decide_eq_false ht
      dsimp only
      omega
    obtain ⟨h1, h2⟩ := aXL (k := kW (iT J x)) rfl hd (aR2 _ h8 q hq)
    exact ⟨h1, fun w _ => h2 w⟩
theorem I4 (J : Nat) : zT J 4 = ((rO J).re, (rO J).im) := by unfold zT; rw [aXD]
theorem aUN {J g d : Nat} (hJ : J < 24) (hg : g < 12) (hd : d = wW g) : OE (zT J 4) d = pcT true J g ∧ ∀ w, MP (pcT true J g) w → pcB (zT J 4) d w = true := by
  rw [I4]
  exact aK7 rfl hd (by omega) (azV _ (by omega) g (by rw [if_pos hJ]; exact hg))
theorem arC {R L : Rg} {w : W4} (h : edgeOk R L w) : yY (R.re, R.im) (L.re, L.im) w = true := by
  obtain ⟨⟨q1, q2⟩, m1, m2, m3, m4⟩ := h
  have a1 : qtB R.re R.im L.re L.im = true := by
    unfold qtB
    rw [JQ q1, JQ q2]
    rfl
  unfold yY
  dsimp only
  rw [a1]
  have b1 := ZG m1
  have b2 := ZG m2
  have b3 := ZG m3
  have b4 := ZG m4
  unfold qre qim at b1 b2 b3 b4
  rw [b1, b2, b3, b4]
  rfl
theorem am2 (z0 z1 z2 : Nat × Nat) (d0 d1 : Nat) (w : W4) : amW [z0, z1, z2] [d0, d1] 2 w = mQ z1 z0 (pG (OE z1 (fop .sub .f32 d1 d0)) (mQ z2 z1 w)) ∧ amB [z0, z1, z2] [d0, d1] 2 w = (yY z2 z1 w && (pcB z1 (fop .sub .f32 d1 d0) (mQ z2 z1 w) && yY z1 z0 (pG (OE z1 (fop .sub .f32 d1 d0)) (mQ z2 z1 w)))) := ⟨rfl, rfl⟩
theorem aR3 (L : List (Nat × Nat)) (l : List Nat) (k : Nat) (w : W4) : amW L l (k + 2) w = amW L l (k + 1) (pG (OE (L.getD (k + 1) zz) (fop .sub .f32 (l.getD (k + 1) 0) (l.getD k 0))) (mQ (L.getD (k + 2) zz) (L.getD (k + 1) zz) w)) ∧ amB L l (k + 2) w = (yY (L.getD (k + 2) zz) (L.getD (k + 1) zz) w && (pcB (L.getD (k + 1) zz) (fop .sub .f32 (l.getD (k + 1) 0) (l.getD k 0)) (mQ (L.getD (k + 2) zz) (L.getD (k + 1) zz) w) && amB L l (k + 1) (pG (OE (L.getD (k + 1) zz) (fop .sub .f32 (l.getD (k + 1) 0) (l.getD k 0))) (mQ (L.getD (k + 2) zz) (L.getD (k + 1) zz) w)))) := ⟨rfl, rfl⟩
structure PcW (r : Rg) (P : Pc) (z : Nat × Nat) (d : Nat) : Prop where
  e : z = (r.re, r.im)
  p : OE z d = P
  b : ∀ w, MP P w → pcB z d w = true
theorem agE {O : Rg} {L : List (Nat × Nat)} {l : List Nat} (hO : L.getD 0 zz = (O.re, O.im)) : ∀ (ps : List (Rg × Pc)) (R : Rg) (k : Nat) (w : W4), ps.length = k → L.getD (k + 1) zz = (R.re, R.im) →
    (∀ i (p : Rg × Pc), ps[i]? = some p → PcW p.1 p.2 (L.getD (k - i) zz) (fop .sub .f32 (l.getD (k - i) 0) (l.getD (k - i - 1) 0))) → agN O R ps w → amW L l (k + 1) w = chW O R ps w ∧ amB L l (k + 1) w = true
  | [], R, k, w, hk, hR, _, hc => by
    subst hk
    show mQ (L.getD 1 zz) (L.getD 0 zz) w = _ ∧ yY (L.getD 1 zz) (L.getD 0 zz) w = true
    rw [show L.getD 1 zz = (R.re, R.im) from hR, hO]
    exact ⟨rfl, arC hc⟩
  | p :: ps, R, k, w, hk, hR, hp, hc => by
    obtain ⟨k, rfl⟩ : ∃ j, k = j + 1 := ⟨ps.length, by simpa using hk.symm⟩
    have h0 := hp 0 p rfl
    rw [Nat.sub_zero, Nat.add_sub_cancel] at h0
    obtain ⟨c1, c2, c3⟩ := hc
    have ih := agE (l := l) hO ps p.1 k (pG p.2 (uA R p.1 w)) (by simpa using hk) h0.e (fun i q hq => by
      have := hp (i + 1) q (by simpa using hq)
      rwa [show k + 1 - (i + 1) = k - i by omega] at this) c3
    obtain ⟨s1, s2⟩ := aR3 L l k w
    have e1 : mQ (L.getD (k + 2) zz) (L.getD (k + 1) zz) w = uA R p.1 w := by rw [show L.getD (k + 2) zz = (R.re, R.im) from hR, h0.e]; rfl
    have e2 : yY (L.getD (k + 2) zz) (L.getD (k + 1) zz) w = true := by rw [show L.getD (k + 2) zz = (R.re, R.im) from hR, h0.e]; exact arC c1
    rw [s1, s2, e1, e2, h0.p, ih.1, ih.2, h0.b _ c2]
    exact ⟨rfl, rfl⟩
end Go.Proofs.Ytpjoapgfdjfbdaa.Ab

/- What the proof names: lemmas and words, merged by a program from its parts. No condition. -/
import Derived.Test.YtpjoapgfdjfbdaaZ13
namespace Go.Proofs.Ytpjoapgfdjfbdaa.Ab
set_option linter.unusedVariables false
set_option linter.unusedSimpArgs false
open Go
theorem azP {R : Type} (M : Nat) (K : X → St → Option R) (more1n : Nat) (a8 : Nat) (rw0 : Bool) (l0 : List Int) (rw1 : Bool) (l1 : List Int) {x0 x1 : List Nat} {n : Int} {e : Nat} {q t : Int} (F : TF x0 x1 n e q t) : ∀ k i, (((i + k : Nat) : Nat) : Int) = n + 1 →
    nR 40 (M + k + 1) (nP more1n n e a8 (wvL e x1).length ((i : Nat) : Int) rw0 l0 rw1 l1 x0.length x1.length (wvL e x1) x0 x1) K = K (.exit 0) (LX more1n n e a8 rw0 l0 rw1 l1 x0.length x1.length x0 x1)
  | 0, i, hi => by
    rw [abP, decide_eq_false (show ¬ ((i : Nat) : Int) ≤ n by omega)]
  | k + 1, i, hi => by
    have n3 := F.n3
    have hx0 := F.l0
    have hx1 := F.l1
    have hL : (wvL e x1).length = x1.length := by simp [wvL]
    have ih := azP M K more1n a8 rw0 l0 rw1 l1 F k (i + 1) (by omega)
    have hw : IntKind.i64.wrap (((i : Nat) : Int) + 1) = ((i + 1 : Nat) : Int) := wr (by omega)
    obtain ⟨hlt, hgt, hht⟩ := F.row i (by omega)
    have hs : shD x0.length x1.length x0 x1 = true := decide_eq_true ⟨rfl, by omega, rfl, by omega⟩
    have hv : vsB x0 x1 = true := by have := F.ts; unfold ab1 at this; simp only [Bool.and_eq_true] at this; exact this.2.1
    have g1 := iY (show i < x1.length by omega)
    have g2 := abZ (show i < (wvL e x1).length by omega)
    rw [show M + (k + 1) + 1 = (M + k + 1) + 1 by omega, abP, hw, decide_eq_true (show ((i : Nat) : Int) ≤ n by omega), din (show i < x1.length by omega), ix, g1, din (show i < (wvL e x1).length by omega), g2]
    dsimp only
    generalize (wvL e x1).getD i zz = z at *
    obtain ⟨z1, z2⟩ := z
    dsimp only at hlt hgt ⊢
    cases i with
    | zero =>
      generalize x1.getD 0 0 = hh at *
      rw [show decide (((0 : Nat) : Int) > 0) = false from rfl]
      cases hl : ltB hh e with
      | true =>
        rw [(hlt hl).1, (hlt hl).2]
        cases hg : gtB hh e with
        | true =>
          rw [(hgt hg).1, (hgt hg).2]
          exact ih
        | false => exact ih
      | false =>
        cases hg : gtB hh e with
        | true =>
          rw [(hgt hg).1, (hgt hg).2]
          exact ih
        | false => exact ih
    | succ j =>
      obtain ⟨hf, ho⟩ := hht j rfl
      have hw0 : IntKind.i64.wrap (((j + 1 : Nat) : Int) - 1) = ((j : Nat) : Int) := by rw [kP (by omega) (by omega)]; omega
      rw [decide_eq_true (show ((j + 1 : Nat) : Int) > 0 by omega), hw0, din (show j < x0.length by omega), ix, iY (show j < x0.length by omega)]
      dsimp only
      rw [hs, hv, hf, ho]
      generalize x1.getD (j + 1) 0 = hh at *
      cases hl : ltB hh e with
      | true =>
        rw [(hlt hl).1, (hlt hl).2]
        cases hg : gtB hh e with
        | true =>
          rw [(hgt hg).1, (hgt hg).2]
          exact ih
        | false => exact ih
      | false =>
        cases hg : gtB hh e with
        | true =>
          rw [(hgt hg).1, (hgt hg).2]
          exact ih
        | false => exact ih
theorem aWK (n : Nat) (m : Nat) (r : Bool) (l : List Int) (q : Bool) (l' : List Int) (hn : l.length = n ∧ n < 2147483648) (hm : l'.length = m ∧ m < 2147483648) (F : TF (X0 l' l) (X1 l' l) (dn l') (dE l') (dq l') (dt l')) : uQ ty AL NS wX 40 Try.f3 [.sl 0 0 n, .sl 1 0 m] [.at r (.int .u8 l), .at q (.int .u8 l')] = some (.bool true, [.at r (.int .u8 l), .at q (.int .u8 l')]) := by
  refine Eq.trans (af8 40 n m r l q l') ?_
  cases qG n m
  case true => rfl
  have a40 : atOk m l' 40 = true := decide_eq_true ⟨hm.1, hm.2, by decide, by decide⟩
  have a41 : atOk m l' 41 = true := decide_eq_true ⟨hm.1, hm.2, by decide, by decide⟩
  have a42 : atOk m l' 42 = true := decide_eq_true ⟨hm.1, hm.2, by decide, by decide⟩
  have a43 : atOk m l' 43 = true := decide_eq_true ⟨hm.1, hm.2, by decide, by decide⟩
  have n3 := F.n3
  have cc : decide (dn l' = 1 ∨ dn l' = 2 ∨ dn l' = 3) = true := decide_eq_true n3
  have cl : decide (l.length = n ∧ n < 2147483648) = true := decide_eq_true hn
  generalize hy0 : X0 l' l = y0 at *
  generalize hy1 : X1 l' l = y1 at *
  generalize hye : dE l' = ye at *
  generalize hyn : dn l' = yn at *
  generalize hyq : dq l' = yq at *
  generalize hyt : dt l' = yt at *
  have l0 := F.l0
  have l1 := F.l1
  have s0 : shD y0.length y1.length y0 y1 = true := decide_eq_true ⟨rfl, by omega, rfl, by omega⟩
  have s1 : shD (tE y0).length y1.reverse.length (tE y0) y1.reverse = true := decide_eq_true ⟨rfl, by rw [QP]; omega, rfl, by rw [List.length_reverse]; omega⟩
  have s2 : shD (tE (tE y0)).length y0.length (tE (tE y0)) y0 = true := decide_eq_true ⟨rfl, by rw [QP, QP]; omega, rfl, by omega⟩
  have s3 : shD y1.reverse.reverse.length y1.length y1.reverse.reverse y1 = true := decide_eq_true ⟨rfl, by rw [List.reverse_reverse]; omega, rfl, by omega⟩
  have s4 : decide (y0.length = y0.length ∧ y0.length < 2147483648 ∧ y1.length = y1.length ∧ y1.length < 2147483648 ∧ w32 y1 = true) = true := decide_eq_true ⟨rfl, by omega, rfl, by omega, F.w32⟩
  have hss := F.ss
  unfold uC at hss
  simp only [Bool.and_eq_true, Bool.not_eq_true'] at hss
  obtain ⟨hwa, -, -, hp1, hp2, -, -⟩ := hss
  have hwn : OC y0 y1 ye = true := by unfold ZI at hwa; rw [Bool.and_eq_true] at hwa; exact hwa.1
  have hv : vsB y0 y1 = true := by unfold OC at hwn; rw [Bool.and_eq_true] at hwn; exact hwn.1
  have hL : (wvL ye y1).length = y1.length := by simp [wvL]
  have hwl : ((((wvL ye y1).length : Nat) : Int) != IntKind.i64.wrap (yn + 1)) = false := by rw [hL, kP (by omega) (by omega)]; simp; omega
  have n0 : (yn == 0) = false := beq_eq_false_iff_ne.mpr (by omega)
  have ht12 : decide (yt = 1 ∨ yt = 2) = true := decide_eq_true F.t12
  rw [a40, cc, a41]
  rw [cl]
  rw [s0, F.ss, F.ts, s1, F.ss', F.ts', hwn, hwa, hv, s2, s3, F.eq0, F.eq1, hwl, F.t0, F.r0, F.one, F.gT, F.gR, n0, hp1, hp2, lU]
  dsimp only
  rw [F.pw]
  have hlp := azP (39 - y1.length) (NY 40 (oM Try.f3 2)) m (ssT y0 y1 ye) r l q l' F y1.length 0 (by omega)
  rw [show 39 - y1.length + y1.length + 1 = 40 by omega] at hlp
  refine Eq.trans hlp ?_
  rw [amN]
  rw [a42, s0]
  try rw [hyq]
  try rw [hyt]
  rw [F.sh, F.bt, F.tt, F.b1, F.b2, F.b3, F.b4, n0, a43, ht12, s4]
  by_cases h1 : yn = 1
  · rw [show (yn == 1) = true from beq_iff_eq.mpr h1]
    cases hr : tX y0 y1 yt with
    | true =>
      have := F.rep1 h1 hr
      rw [show (yt == 1) = true from beq_iff_eq.mpr this]
      all_goals rfl
    | false => cases yt == 1 <;> rfl
  · obtain ⟨r1, ⟨r5, r6⟩, r2, r3, r4⟩ := F.rep h1
    have s5 : shD (rpE y0 y1 yt).length (rpM y0 y1 yt).length (rpE y0 y1 yt) (rpM y0 y1 yt) = true := decide_eq_true ⟨rfl, by omega, rfl, by omega⟩
    have r3' : ((((rpE y0 y1 yt).length : Nat) : Int) == IntKind.i64.wrap (yn * yt)) = true := by rw [kP (by rw [← r3]; omega) (by rw [← r3]; omega), ← r3]; exact beq_self_eq_true _
    rw [r1, show (yn == 1) = false from beq_eq_false_iff_ne.mpr h1, s5, r2, r3', r4]
    try rfl
end Go.Proofs.Ytpjoapgfdjfbdaa.Ab

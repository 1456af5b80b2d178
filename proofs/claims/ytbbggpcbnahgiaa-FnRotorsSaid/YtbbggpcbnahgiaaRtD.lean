/- FnRotors: the loops. Only lemmas. Printed by gen_rotors.py. -/
import Derived.Test.YtbbggpcbnahgiaaRtC
namespace Go.Proofs.Ytbbggpcbnahgiaa.Ab
set_option linter.unusedVariables false
set_option linter.unusedSimpArgs false
open Go
noncomputable section
def bF (x : Int) : Nat := fop .quo .f32 (floatOfInt .f32 (IntKind.i64.wrap (1 + x))) 1082130432
def nF (x : Int) : Int := IntKind.i64.wrap (1 + x)
theorem nF_nat {n : Nat} (h : n < 900) : nF (n : Int) = ((n + 1 : Nat) : Int) := by
  unfold nF
  rw [wrap_n (by omega) (by omega)]
  omega
theorem stepT {α : Type} {c : Bool} {A B : α} (h : c = true) : (match (generalizing := false) c with | true => A | false => B) = A := by subst h; rfl
theorem stepF {α : Type} {c : Bool} {A B : α} (h : c = false) : (match (generalizing := false) c with | true => A | false => B) = B := by subst h; rfl
theorem stepS {α : Type} {o : Option Nat} {v : Nat} {f : Nat → Option α} (h : o = some v) : (match (generalizing := false) o with | some x => f x | none => none) = f v := by subst h; rfl
def rA (w1 w2 w3 w4 : Int) (hh : H) (k : Nat → Nat → Int → Nat → Nat → List Nat → Option (V × H)) : Option (V × H) := (match ok_rl (bF w1) 0 (nF w3) with | true => (match wOk (bF w1) 1090519040 (nF w3) with | true => (match wOk (bF w1) 1090519040 (nF w3) with | true => (match decide ([bF w1, bF w2].length = 2 ∧ 2 < 2147483648) with | true => (match shOk [bF w1, bF w2] 1090519040 (nF w3) (nF w4) with | true => (match ok_tl (bF w1) (bF w1) (nF w3) with | true => (match ftB (bF w1) (bF w1) (bF w1) with | true => (match (((nF w3).toNat : Nat) : Int) != (nF w3) with | true => some (.bool false, hh) | false => (match decide ((wD (bF w1) 1090519040 ((nF w3).toNat)).length = (nF w3).toNat ∧ (wD (bF w1) 1090519040 ((nF w3).toNat)).length = (nF w3).toNat ∧ (nF w3).toNat < 2147483648 ∧ (nF w3).toNat < 2147483648) with | true => (match !(eqNB (wD (bF w1) 1090519040 ((nF w3).toNat)) (wD (bF w1) 1090519040 ((nF w3).toNat))) with | true => some (.bool false, hh) | false => (match (((nF w3).toNat : Nat) : Int) != (nF w3) with | true => some (.bool false, hh) | false => (match (shL [bF w1, bF w2] 1090519040 (nF w3))[0]? with | some e5 => (match decide (0 ≤ (IntKind.i64.wrap ((nF w3) - 1) : Int) ∧ (IntKind.i64.wrap ((nF w3) - 1) : Int) < (((nF w3).toNat : Nat) : Int)) with | true => (match (wD (bF w1) 1090519040 ((nF w3).toNat))[0 + (IntKind.i64.wrap ((nF w3) - 1)).toNat * 1]? with | some e6 => (match !(sN e5 e6) with | true => some (.bool false, hh) | false => (match ((((nF w3) + 1).toNat : Nat) : Int) != (IntKind.i64.wrap ((nF w3) + 1)) with | true => some (.bool false, hh) | false => (match FloatKind.f32.format.order (fop .add .f32 (bF w1) (bF w1)) (fop .mul .f32 1073741824 (bF w1)) != some .eq with | true => some (.bool false, hh) | false => (match FloatKind.f32.format.order (fop .add .f32 (bF w1) (bF w1)) (fop .mul .f32 1073741824 (bF w1)) != some .eq with | true => some (.bool false, hh) | false => (mr_rotD16 40 (fun _ _ _ _ _ _ => some (.bool false, hh)) k 40 (bF w1) (bF w2) (nF w3) ((nF w3).toNat) (((nF w3) + 1).toNat) 0 (((nF w3).toNat : Nat) : Int) 0 (li_rl (bF w1) 0 (nF w3)) (wD (bF w1) 1090519040 ((nF w3).toNat)) (li_tl (bF w1) (bF w1) (nF w3))))))) | none => none) | false => none) | none => none))) | false => none)) | false => none) | false => none) | false => none) | false => none) | false => none) | false => none) | false => none)
def rC (w1 w2 : Int) (b o : Nat) (c : Int) (su : Nat) (hh : H) : Option (V × H) := (match ok_br b o 1120403456 1 c with | true => (match ok_br b o 1120403456 (-1) c with | true => (match ok_br b o 1120403456 0 c with | true => (match ok_br b o 1120403456 1 c with | true => (match rsB (nF w1) w2 with | true => (match ((c.toNat : Nat) : Int) != c with | true => some (.bool false, hh) | false => (match ((c.toNat : Nat) : Int) != c with | true => some (.bool false, hh) | false => (match ((c.toNat : Nat) : Int) != c with | true => some (.bool false, hh) | false => (match decide ((((hdI b o 1120403456 c : Nat) : Int) : Int) < 0) with | true => some (.bool false, hh) | false => (match decide ((((hdI b o 1120403456 c : Nat) : Int) : Int) ≥ c) with | true => some (.bool false, hh) | false => (match decide (0 ≤ (((hdI b o 1120403456 c : Nat) : Int) : Int) ∧ (((hdI b o 1120403456 c : Nat) : Int) : Int) < ((c.toNat : Nat) : Int)) with | true => (match (li_br b o 1120403456 1 c)[0 + (((hdI b o 1120403456 c : Nat) : Int)).toNat * 1]? with | some e3 => (match FloatKind.f32.format.order e3 (hdX b o 1120403456 c) != some .eq with | true => some (.bool false, hh) | false => (match gtD (gapD su 4607182418800017408) 4562254508917369340 with | true => some (.bool false, hh) | false => (mr_rotD38 40 (fun _ _ _ => some (.bool false, hh)) (fun a b c => mr_rotD45 40 (fun s => some (.bool (s == 0), hh)) 40 a b c 0) 40 b o c.toNat ((hdI b o 1120403456 c : Nat) : Int) (hdX b o 1120403456 c) (nF w1) w2 (rsD (nF w1) w2) ((c.toNat : Nat) : Int) 0 (li_br b o 1120403456 1 c) (li_br b o 1120403456 (-1) c) (li_br b o 1120403456 0 c)))) | none => none) | false => none)))))) | false => none) | false => none) | false => none) | false => none) | false => none)
def g16 (b e1 e4 : Nat) (i : Int) : Bool := !(FloatKind.f64.format.order (up e1) (fop .mul .f64 (up b) (floatOfInt .f64 (IntKind.i64.wrap (i * (IntKind.i64.wrap (i + 1)))))) != some .eq) && !(ltB e4 0)
def g23 (b : Nat) (c : Int) (e1 : Nat) : Bool := !(gtD (gapD (up e1) (fop .mul .f64 (up b) (floatOfInt .f64 (IntKind.i64.wrap (c * (IntKind.i64.wrap (c + 1))))))) 4576918229304087675)
def g38 (b o e1 e2 e3 : Nat) (i : Int) : Bool := !(gtD (gapD (up e1) (fop .sub .f64 (fop .add .f64 4636737291354636288 (fop .mul .f64 (fop .mul .f64 (up o) (fop .add .f64 (floatOfInt .f64 i) 4607182418800017408)) (fop .add .f64 (floatOfInt .f64 i) 4611686018427387904))) (fop .mul .f64 (fop .mul .f64 (up b) (floatOfInt .f64 i)) (fop .add .f64 (floatOfInt .f64 i) 4607182418800017408)))) 4576918229304087675)
  && (!(gtD (gapD (up e2) (fop .sub .f64 (fop .add .f64 4636737291354636288 (fop .mul .f64 (fop .mul .f64 (up o) (floatOfInt .f64 i)) (fop .add .f64 (floatOfInt .f64 i) 4607182418800017408))) (fop .mul .f64 (fop .mul .f64 (up b) (fop .add .f64 (floatOfInt .f64 i) 4607182418800017408)) (fop .add .f64 (floatOfInt .f64 i) 4611686018427387904)))) 4576918229304087675)
  && !(gtD (gapD (up e3) (fop .add .f64 4636737291354636288 (fop .mul .f64 (fop .mul .f64 (fop .sub .f64 (up o) (up b)) (floatOfInt .f64 i)) (fop .add .f64 (floatOfInt .f64 i) 4607182418800017408)))) 4576918229304087675))
def h38 (e1 x : Nat) (i at_ : Int) : Bool := !(gtB e1 x) && !(eqB e1 x && decide (i < at_))
def sumW (b n : Nat) : Nat := rounds (fun i s => fop .add .f64 s (up ((wD b 1090519040 n).getD i 0))) n 0 0
theorem lp16 (b o : Nat) (c : Int) (tn s0 : Nat) (l0 l1 l2 : List Nat) (k0 k1 : Nat → Nat → Int → Nat → Nat → List Nat → Option (V × H)) (n : Nat) (hn : n ≤ 39)
    (hg : ∀ i, i < n → ∃ e1 e4, l0[i]? = some e1 ∧ l1[i]? = some e4 ∧ g16 b e1 e4 (i : Int) = true) :
    mr_rotD16 40 k0 k1 40 b o c n tn s0 ((n : Nat) : Int) 0 l0 l1 l2 = k1 b o c tn (rounds (fun i s => fop .add .f64 s (up (l1.getD i 0))) n 0 s0) l2 := by
  have hc := count_up n (fun i s => fop .add .f64 s (up (l1.getD i 0))) (fun M i s => mr_rotD16 40 k0 k1 M b o c n tn s ((n : Nat) : Int) (i : Int) l0 l1 l2) (fun s => k1 b o c tn s l2) (fun _ _ => True)
    (fun M i s hi _ => ⟨?_, trivial⟩) (fun M s _ => ?_) n 0 s0 (by omega) trivial (39 - n)
  · rw [show n + 1 + (39 - n) = 40 by omega] at hc
    exact hc
  · obtain ⟨e1, e4, h1, h4, hg⟩ := hg i hi
    unfold g16 at hg
    simp only [Bool.and_eq_true, Bool.not_eq_true', wr (show i < 2147483648 by omega)] at hg
    have h4' : l1.getD i 0 = e4 := by simp [List.getD_eq_getElem?_getD, h4]
    rw [mrs_rotD16, h4']
    unfold mb_rotD16
    simp only [dlt hi, din hi, ix, h1, h4, fconv_eq, hg.1, hg.2, wr (show i < 2147483648 by omega)]
  · rw [mrs_rotD16]
    unfold mb_rotD16
    simp only [dge (Nat.le_refl _)]
theorem lp23 (b o : Nat) (c : Int) (su : Nat) (l0 : List Nat) (k0 k1 : Nat → Nat → Int → Nat → Option (V × H)) (n : Nat) (hn : n ≤ 39)
    (hg : ∀ i, i < n → ∃ e1, l0[i]? = some e1 ∧ g23 b c e1 = true) :
    mr_rotD23 40 k0 k1 40 b o c n su ((n : Nat) : Int) 0 l0 = k1 b o c su := by
  have hc := count_up n (fun _ s => s) (fun M i (_ : Unit) => mr_rotD23 40 k0 k1 M b o c n su ((n : Nat) : Int) (i : Int) l0) (fun _ => k1 b o c su) (fun _ _ => True)
    (fun M i s hi _ => ⟨?_, trivial⟩) (fun M s _ => ?_) n 0 () (by omega) trivial (39 - n)
  · rw [show n + 1 + (39 - n) = 40 by omega] at hc
    exact hc
  · obtain ⟨e1, h1, hg⟩ := hg i hi
    unfold g23 at hg
    simp only [Bool.not_eq_true'] at hg
    rw [mrs_rotD23]
    unfold mb_rotD23
    simp only [dlt hi, din hi, ix, h1, fconv_eq, hg, wr (show i < 2147483648 by omega)]
  · rw [mrs_rotD23]
    unfold mb_rotD23
    simp only [dge (Nat.le_refl _)]
theorem lp38 (b o : Nat) (at_ : Int) (x : Nat) (wh mo st : Int) (l0 l1 l2 : List Nat) (k0 k1 : Int → Int → Int → Option (V × H)) (n : Nat) (hn : n ≤ 39)
    (hg : ∀ i, i < n → ∃ e1 e2 e3, l0[i]? = some e1 ∧ l1[i]? = some e2 ∧ l2[i]? = some e3 ∧ g38 b o e1 e2 e3 (i : Int) = true ∧ h38 e1 x (i : Int) at_ = true) :
    mr_rotD38 40 k0 k1 40 b o n at_ x wh mo st ((n : Nat) : Int) 0 l0 l1 l2 = k1 wh mo st := by
  have hc := count_up n (fun _ s => s) (fun M i (_ : Unit) => mr_rotD38 40 k0 k1 M b o n at_ x wh mo st ((n : Nat) : Int) (i : Int) l0 l1 l2) (fun _ => k1 wh mo st) (fun _ _ => True)
    (fun M i s hi _ => ⟨?_, trivial⟩) (fun M s _ => ?_) n 0 () (by omega) trivial (39 - n)
  · rw [show n + 1 + (39 - n) = 40 by omega] at hc
    exact hc
  · obtain ⟨e1, e2, e3, h1, h2, h3, hg, hh⟩ := hg i hi
    unfold g38 at hg
    unfold h38 at hh
    simp only [Bool.and_eq_true, Bool.not_eq_true'] at hg hh
    rw [mrs_rotD38]
    unfold mb_rotD38
    have hh2 := hh.2
    cases he : eqB e1 x with
    | false => simp only [dlt hi, din hi, ix, h1, h2, h3, fconv_eq, he, hg.1, hg.2.1, hg.2.2, hh.1, wr (show i < 2147483648 by omega)]
    | true =>
      rw [he, Bool.true_and] at hh2
      simp only [dlt hi, din hi, ix, h1, h2, h3, fconv_eq, he, hg.1, hg.2.1, hg.2.2, hh.1, hh2, wr (show i < 2147483648 by omega)]
  · rw [mrs_rotD38]
    unfold mb_rotD38
    simp only [dge (Nat.le_refl _)]
def kI45 (x : Int) : Option (V × H) := some (.int .i64 x, [])
def oI45 : Option (V × H) → Option Int
  | some (.int .i64 x, []) => some x
  | _ => none
theorem nat45 (wh mo : Int) (k : Int → Option (V × H)) : ∀ (M : Nat) (s j : Int), ∀ x, oI45 (mr_rotD45 40 kI45 M wh mo s j) = some x → mr_rotD45 40 k M wh mo s j = k x := by
  intro M
  induction M with
  | zero => intro s j x h; cases h
  | succ M ih =>
    intro s j x h
    rw [mrs_rotD45] at h ⊢
    unfold mb_rotD45 at h ⊢
    revert h
    cases decide (IntKind.i64.wrap (IntKind.i64.wrap (wh * j) * IntKind.i64.wrap (j + 1)) ≤ mo) with
    | true => exact fun h => ih _ _ x h
    | false => intro h; cases h; rfl
def t45 (A B : Nat) : Bool := match oI45 (mr_rotD45 40 kI45 40 ((A + 1 : Nat) : Int) (B : Int) (rsD ((A + 1 : Nat) : Int) (B : Int)) 0) with | some x => x == 0 | none => false
theorem T45 : (List.range 6).all (fun A => (List.range 200).all fun B => t45 A B) = true := by kernel_rfl
theorem lp45 {A B : Nat} (hA : A < 6) (hB : B < 200) (k : Int → Option (V × H)) : mr_rotD45 40 k 40 ((A + 1 : Nat) : Int) (B : Int) (rsD ((A + 1 : Nat) : Int) (B : Int)) 0 = k 0 := by
  have h := List.all_eq_true.mp (List.all_eq_true.mp T45 A (List.mem_range.mpr hA)) B (List.mem_range.mpr hB)
  unfold t45 at h
  split at h
  · rename_i x hx
    obtain rfl : x = 0 := by simpa using h
    exact nat45 _ _ k 40 _ _ 0 hx
  · cases h
end
end Go.Proofs.Ytbbggpcbnahgiaa.Ab

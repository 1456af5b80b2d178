/- SixShare. Only lemmas. Printed by gen_six.py. -/
import Derived.Test.YtbhfjdlhhjeknaaSxK4
import Derived.Test.YtbhfjdlhhjeknaaSxK5
import Derived.Test.YtbhfjdlhhjeknaaSxK6
namespace Go.Proofs.Ytbhfjdlhhjeknaa.Ab
set_option linter.unusedVariables false
set_option linter.unusedSimpArgs false
open Go
theorem xA_all {a b : Nat} (ha : a ≤ 6) (hb : b ≤ 6) : xA a b = true := by
  have : a = 0 ∨ a = 1 ∨ a = 2 ∨ a = 3 ∨ a = 4 ∨ a = 5 ∨ a = 6 := by omega
  rcases this with rfl | rfl | rfl | rfl | rfl | rfl | rfl
  · have : b = 0 ∨ b = 1 ∨ b = 2 ∨ b = 3 ∨ b = 4 ∨ b = 5 ∨ b = 6 := by omega
    rcases this with rfl | rfl | rfl | rfl | rfl | rfl | rfl
    · exact xA_0_0
    · exact xA_0_1
    · exact xA_0_2
    · exact xA_0_3
    · exact xA_0_4
    · exact xA_0_5
    · exact xA_0_6
  · have : b = 0 ∨ b = 1 ∨ b = 2 ∨ b = 3 ∨ b = 4 ∨ b = 5 ∨ b = 6 := by omega
    rcases this with rfl | rfl | rfl | rfl | rfl | rfl | rfl
    · exact xA_1_0
    · exact xA_1_1
    · exact xA_1_2
    · exact xA_1_3
    · exact xA_1_4
    · exact xA_1_5
    · exact xA_1_6
  · have : b = 0 ∨ b = 1 ∨ b = 2 ∨ b = 3 ∨ b = 4 ∨ b = 5 ∨ b = 6 := by omega
    rcases this with rfl | rfl | rfl | rfl | rfl | rfl | rfl
    · exact xA_2_0
    · exact xA_2_1
    · exact xA_2_2
    · exact xA_2_3
    · exact xA_2_4
    · exact xA_2_5
    · exact xA_2_6
  · have : b = 0 ∨ b = 1 ∨ b = 2 ∨ b = 3 ∨ b = 4 ∨ b = 5 ∨ b = 6 := by omega
    rcases this with rfl | rfl | rfl | rfl | rfl | rfl | rfl
    · exact xA_3_0
    · exact xA_3_1
    · exact xA_3_2
    · exact xA_3_3
    · exact xA_3_4
    · exact xA_3_5
    · exact xA_3_6
  · have : b = 0 ∨ b = 1 ∨ b = 2 ∨ b = 3 ∨ b = 4 ∨ b = 5 ∨ b = 6 := by omega
    rcases this with rfl | rfl | rfl | rfl | rfl | rfl | rfl
    · exact xA_4_0
    · exact xA_4_1
    · exact xA_4_2
    · exact xA_4_3
    · exact xA_4_4
    · exact xA_4_5
    · exact xA_4_6
  · have : b = 0 ∨ b = 1 ∨ b = 2 ∨ b = 3 ∨ b = 4 ∨ b = 5 ∨ b = 6 := by omega
    rcases this with rfl | rfl | rfl | rfl | rfl | rfl | rfl
    · exact xA_5_0
    · exact xA_5_1
    · exact xA_5_2
    · exact xA_5_3
    · exact xA_5_4
    · exact xA_5_5
    · exact xA_5_6
  · have : b = 0 ∨ b = 1 ∨ b = 2 ∨ b = 3 ∨ b = 4 ∨ b = 5 ∨ b = 6 := by omega
    rcases this with rfl | rfl | rfl | rfl | rfl | rfl | rfl
    · exact xA_6_0
    · exact xA_6_1
    · exact xA_6_2
    · exact xA_6_3
    · exact xA_6_4
    · exact xA_6_5
    · exact xA_6_6
def turns6 (a b c d e f : Int) : Bool := is6 a && (is6 b && (is6 c && (is6 d && (is6 e && is6 f))))
def sixS (a b c d e f : Int) : Bool := turns6 a b c d e f && (totS a b c && (totS a e f && (totS d b f && totS d e c)))
noncomputable def xV (a b c d e f : Int) : Int × Int × Int := (oJ (md_sxS 60 a b c d e f)).getD (0, 0, 1)
theorem xBoth {a b c d e f : Int} (h : sixS a b c d e f = true) : oJ (md_sxS 60 a b c d e f) = some ((xV a b c d e f).1, (xV a b c d e f).2.1, (xV a b c d e f).2.2) ∧ oJ (md_sxI (35 + 5) a b c d e f) = some ((xV a b c d e f).1, (xV a b c d e f).2.1, (xV a b c d e f).2.2) := by
  unfold sixS turns6 is6 at h
  simp only [Bool.and_eq_true, inB_iff] at h
  obtain ⟨⟨ha, hb, hc, hd, he, hf⟩, t1, t2, t3, t4⟩ := h
  have g1 := (totS_iff ha hb).mp t1
  have g2 := (totS_iff ha he).mp t2
  have g3 := (totS_iff hd hb).mp t3
  have g4 := (totS_iff hd he).mp t4
  unfold TotP at g1 g2 g3 g4
  obtain ⟨A, rfl⟩ : ∃ A : Nat, a = (A : Int) := ⟨a.toNat, by omega⟩
  obtain ⟨B, rfl⟩ : ∃ B : Nat, b = (B : Int) := ⟨b.toNat, by omega⟩
  obtain ⟨D, rfl⟩ : ∃ B : Nat, d = (B : Int) := ⟨d.toNat, by omega⟩
  obtain ⟨E, rfl⟩ : ∃ B : Nat, e = (B : Int) := ⟨e.toNat, by omega⟩
  obtain ⟨F, rfl⟩ : ∃ B : Nat, f = (B : Int) := ⟨f.toNat, by omega⟩
  obtain ⟨m, hm⟩ : ∃ m : Nat, ((A : Int) + (B : Int) - c) / 2 = (m : Int) := ⟨(((A : Int) + (B : Int) - c) / 2).toNat, by omega⟩
  have hcm : c = (A : Int) + (B : Int) - 2 * (m : Int) := by omega
  have hr := List.all_eq_true.mp (List.all_eq_true.mp (List.all_eq_true.mp (xA_all (a := A) (b := B) (by omega) (by omega)) m (List.mem_range.mpr (by omega))) D (List.mem_range.mpr (by omega))) E (List.mem_range.mpr (by omega))
  unfold xD at hr
  rw [decide_eq_true (show A + B - 2 * m ≤ 6 by omega), decide_eq_true (show D ≤ E + (A + B - 2 * m) by omega), decide_eq_true (show E ≤ D + (A + B - 2 * m) by omega), decide_eq_true (show A + B - 2 * m ≤ D + E by omega), decide_eq_true (show (D + E + A + B) % 2 = 0 by omega)] at hr
  have hr2 := List.all_eq_true.mp hr F (List.mem_range.mpr (by omega))
  unfold xC at hr2
  rw [decide_eq_true (show E ≤ A + F by omega), decide_eq_true (show A ≤ E + F by omega), decide_eq_true (show F ≤ A + E by omega), decide_eq_true (show (A + E + F) % 2 = 0 by omega), decide_eq_true (show D ≤ B + F by omega), decide_eq_true (show B ≤ D + F by omega), decide_eq_true (show F ≤ D + B by omega), decide_eq_true (show (D + B + F) % 2 = 0 by omega)] at hr2
  obtain ⟨t, e1, e2⟩ := eJ_inv hr2
  rw [← hcm] at e1 e2
  unfold xV
  rw [e1]
  exact ⟨rfl, e2⟩
noncomputable def gSix : GT := fun vs h => match vs, h with | [.int .i64 a, .int .i64 b, .int .i64 c, .int .i64 d, .int .i64 e, .int .i64 f], [] => .ite (sixS a b c d e f) (.ret (.tup [.a (.int .i64 (xV a b c d e f).1), .a (.int .i64 (xV a b c d e f).2.1), .a (.int .i64 (xV a b c d e f).2.2), .a (.bool true)]) []) (.ret (.tup [.a (.int .i64 0), .a (.int .i64 0), .a (.int .i64 0), .a (.bool false)]) []) | _, _ => .no
theorem H_six_sxS (a b c d e f : Int) : run ty tab_sxS an_sxS (60) Try.f53 [.int .i64 a, .int .i64 b, .int .i64 c, .int .i64 d, .int .i64 e, .int .i64 f] [] = (T.ite (sixS a b c d e f) (.ret (.tup [.a (.int .i64 (xV a b c d e f).1), .a (.int .i64 (xV a b c d e f).2.1), .a (.int .i64 (xV a b c d e f).2.2), .a (.bool true)]) []) (.ret (.tup [.a (.int .i64 0), .a (.int .i64 0), .a (.int .i64 0), .a (.bool false)]) [])).run := by
  show _ = T.k _ _
  simp only [T.k]
  refine Eq.trans (mdl_sxS 60 a b c d e f) ?_
  cases hs : sixS a b c d e f with
  | true => exact oJ_inv (xBoth hs).1
  | false =>
    unfold sixS turns6 at hs
    unfold md_sxS
    rw [show (60 : Nat) = 53 + 7 from rfl, sx2]
    unfold ce_sxS2_0 ce_sxS2_1
    cases h1 : is6 a
    · rfl
    cases h2 : is6 b
    · rfl
    cases h3 : is6 c
    · rfl
    cases h4 : is6 d
    · rfl
    cases h5 : is6 e
    · rfl
    cases h6 : is6 f
    · rfl
    cases g1 : totS a b c
    · rfl
    cases g2 : totS a e f
    · rfl
    cases g3 : totS d b f
    · rfl
    cases g4 : totS d e c
    · rfl
    rw [h1, h2, h3, h4, h5, h6, g1, g2, g3, g4] at hs
    cases hs
theorem ok_sxS : FnT Try.prog 53 gSix := by
  refine fnT tabok_sxS Try.func53 rfl rfl an_sxS fun vs h v h' e => ⟨60, ?_⟩
  unfold gSix at e
  split at e
  case h_2 => exact (T.no_inv e).elim
  rename_i a b c d e' f
  exact Eq.trans (H_six_sxS a b c d e' f) e
theorem H_six_sxI (a b c d e f : Int) : run ty tab_sxI an_sxI (35 + 5) Try.f54 [.int .i64 a, .int .i64 b, .int .i64 c, .int .i64 d, .int .i64 e, .int .i64 f] [] = (T.ite (sixS a b c d e f) (.ret (.tup [.a (.int .i64 (xV a b c d e f).1), .a (.int .i64 (xV a b c d e f).2.1), .a (.int .i64 (xV a b c d e f).2.2), .a (.bool true)]) []) (.ret (.tup [.a (.int .i64 0), .a (.int .i64 0), .a (.int .i64 0), .a (.bool false)]) [])).run := by
  show _ = T.k _ _
  simp only [T.k]
  refine Eq.trans (mdl_sxI 35 a b c d e f) ?_
  cases hs : sixS a b c d e f with
  | true => exact oJ_inv (xBoth hs).2
  | false =>
    unfold sixS at hs
    unfold md_sxI
    have ht : turnsB [a, b, c, d, e, f] = turns6 a b c d e f := by
      unfold turnsB turns6 is6
      simp [List.all]
    have hd : decide ([a, b, c, d, e, f].length = 6 ∧ 6 < 2147483648) = true := decide_eq_true ⟨rfl, by omega⟩
    rw [hd, ht]
    cases h1 : turns6 a b c d e f
    · rfl
    have hh := h1
    unfold turns6 is6 at hh
    simp only [Bool.and_eq_true, inB_iff] at hh
    obtain ⟨ha, hb, hc, hd, he, hf⟩ := hh
    rw [totI_S ha hb, totI_S ha he, totI_S hd hb, totI_S hd he]
    cases g1 : totS a b c
    · rfl
    cases g2 : totS a e f
    · rfl
    cases g3 : totS d b f
    · rfl
    cases g4 : totS d e c
    · rfl
    rw [h1, g1, g2, g3, g4] at hs
    cases hs
theorem ok_sxI : FnT Try.prog 54 gSix := by
  refine fnT tabok_sxI Try.func54 rfl rfl an_sxI fun vs h v h' e => ⟨35 + 5, ?_⟩
  unfold gSix at e
  split at e
  case h_2 => exact (T.no_inv e).elim
  rename_i a b c d e' f
  exact Eq.trans (H_six_sxI a b c d e' f) e
noncomputable section
def tab_lawSixShare : Fns := tabT [(53, gSix), (54, gSix)]
theorem tabok_lawSixShare : ∀ f, FnT Try.prog f (tab_lawSixShare f) := (tabT_cons (k := 53) ok_sxS (tabT_cons (k := 54) ok_sxI tabT_nil))
theorem run_lawSixShare (N : Nat) (a : Int) (b : Int) (c : Int) (d : Int) (e : Int) (f : Int) : run ty tab_lawSixShare ann0 N Try.f10 [.int .i64 a, .int .i64 b, .int .i64 c, .int .i64 d, .int .i64 e, .int .i64 f] []
    = (match sixS a b c d e f with
  | true => (match sixS a b c d e f with
    | true => (match ((xV a b c d e f).1) != ((xV a b c d e f).1) with
      | true => some (.bool false, [])
      | false => (match ((xV a b c d e f).2.1) != ((xV a b c d e f).2.1) with
        | true => some (.bool false, [])
        | false => (match ((xV a b c d e f).2.2) != ((xV a b c d e f).2.2) with
          | true => some (.bool false, [])
          | false => some (.bool true, []))))
    | false => (match 0 != ((xV a b c d e f).1) with
      | true => some (.bool false, [])
      | false => (match 0 != ((xV a b c d e f).2.1) with
        | true => some (.bool false, [])
        | false => (match 0 != ((xV a b c d e f).2.2) with
          | true => some (.bool false, [])
          | false => some (.bool false, [])))))
  | false => (match sixS a b c d e f with
    | true => (match ((xV a b c d e f).1) != 0 with
      | true => some (.bool false, [])
      | false => (match ((xV a b c d e f).2.1) != 0 with
        | true => some (.bool false, [])
        | false => (match ((xV a b c d e f).2.2) != 0 with
          | true => some (.bool false, [])
          | false => some (.bool false, []))))
    | false => some (.bool true, []))) := by
  kernel_rfl

theorem ok_lawSixShare : FnOk Try.prog 10 (fun vs h => match vs, h with | [.int .i64 a, .int .i64 b, .int .i64 c, .int .i64 d, .int .i64 e, .int .i64 f], [] => some (.bool true, []) | _, _ => none) := by
  refine fnOk tabok_lawSixShare Try.func10 rfl rfl ann0 fun vs h v h' e => ⟨0, ?_⟩
  split at e
  case h_2 => cases e
  rename_i a b c d e f
  cases e
  refine Eq.trans (run_lawSixShare 0 a b c d e f) ?_
  cases sixS a b c d e f
  · rfl
  · have hs : ∀ z : Int, (z != z) = false := fun z => by simp
    rw [hs, hs, hs]
end
end Go.Proofs.Ytbhfjdlhhjeknaa.Ab

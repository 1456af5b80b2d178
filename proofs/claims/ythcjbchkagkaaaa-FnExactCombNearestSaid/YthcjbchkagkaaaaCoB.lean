/- CombNearest. Only lemmas. Printed by gen_comb.py. -/
import Derived.Test.YthcjbchkagkaaaaComb
namespace Go.Proofs.Ythcjbchkagkaaaa.Ab
set_option linter.unusedVariables false
set_option linter.unusedSimpArgs false
open Go
def combX (a b c : Nat) : Nat := fop .add .f64 (up (fop .quo .f32 (fop .sub .f32 c a) b)) 4602678819172646912
def coA (a b c : Nat) : Bool := finB a && (finB c && posB b)
def coB (a b c : Nat) : Bool := (flr (combX a b c)).isSome
def coV (a b c : Nat) : Int := (flr (combX a b c)).getD 0
def gComb : GT := fun vs h => match vs, h with
  | [.fl .f32 a, .fl .f32 b, .fl .f32 c], [] => .ite (coA a b c) (.ite (coB a b c) (.ret (.tup [.a (.int .i64 (coV a b c)), .a (.bool true)]) []) (.ret (.tup [.a (.int .i64 0), .a (.bool false)]) [])) (.ret (.tup [.a (.int .i64 0), .a (.bool false)]) [])
  | _, _ => .no
theorem comb_ok {a b c : Nat} (ha : finB a = true) (hc : finB c = true) (hb : posB b = true) : isN .f64 (combX a b c) = false := by
  rw [← ok_iff]
  obtain ⟨s, m, i, hs⟩ := num_of_fin hc
  obtain ⟨t, n, j, ht⟩ := num_of_fin ha
  obtain ⟨k, q, hk, hk0⟩ := pos_num hb
  have h1 : Ok .f32 (fop .sub .f32 c a) := ok_some (by
    show (Ieee.single.sub c a).isSome = true
    unfold Ieee.Format.sub
    have hs : Ieee.single.read c = _ := hs
    have ht : Ieee.single.read a = _ := ht
    rw [hs, ht]
    rfl)
  have h2 : Ok .f32 (fop .quo .f32 (fop .sub .f32 c a) b) := ok_some (by
    show (Ieee.single.div (fop .sub .f32 c a) b).isSome = true
    unfold Ieee.Format.div
    have hk : Ieee.single.read b = _ := hk
    rw [hk]
    cases hd : Ieee.single.read (fop .sub .f32 c a) with
    | nan x y => exact (h1 x y hd).elim
    | infinity x => rfl
    | number x y z =>
      unfold Ieee.Datum.quotient
      dsimp only
      rw [if_neg hk0]
      rfl)
  have h3 := up_ok h2
  refine ok_some ?_
  show (Ieee.double.add (up (fop .quo .f32 (fop .sub .f32 c a) b)) 4602678819172646912).isSome = true
  unfold Ieee.Format.add
  have hh : Ieee.double.read 4602678819172646912 = .number false 4503599627370496 (-53) := by decide +kernel
  rw [hh]
  cases hd : Ieee.double.read (up (fop .quo .f32 (fop .sub .f32 c a) b)) with
  | nan x y => exact (h3 x y hd).elim
  | infinity x => rfl
  | number x y z => rfl
def tab_coi : Fns := tabT [(54, gAllT finB), (55, gAllT posB), (82, (gInteg .down)), (83, gAbs)]
theorem tabok_coi : ∀ f, FnT Try.prog f (tab_coi f) := (tabT_cons (k := 54) ok_areFinite (tabT_cons (k := 55) ok_arePositive (tabT_cons (k := 82) ok_mFloor (tabT_cons (k := 83) ok_mAbs tabT_nil))))
theorem run_coi (N : Nat) (a : Nat) (b : Nat) (c : Nat) : run ty tab_coi ann0 N Try.f48 [.fl .f32 a, .fl .f32 b, .fl .f32 c] []
    = (match !(finB a && (finB c && true)) with | true => some (.tup [.a (.int .i64 0), .a (.bool false)], []) | false => (match !(posB b && true) with | true => some (.tup [.a (.int .i64 0), .a (.bool false)], []) | false => (match fconv .f32 (fop .quo .f32 (fop .sub .f32 c a) b) .f64 with | some c1 => (match !isN .f64 (integD .down (fop .add .f64 c1 4602678819172646912)) with | true => (match !(ltD (absD (integD .down (fop .add .f64 c1 4602678819172646912))) 4696837146684686336 || eqD (absD (integD .down (fop .add .f64 c1 4602678819172646912))) 4696837146684686336) with | true => some (.tup [.a (.int .i64 0), .a (.bool false)], []) | false => (match floatToIntVal .f64 (integD .down (fop .add .f64 c1 4602678819172646912)) .i64 with | some n2 => some (.tup [.a (.int .i64 n2), .a (.bool true)], []) | none => none)) | false => none) | none => none))) := by
  kernel_rfl

theorem ok_coi : FnT Try.prog 48 gComb := by
  refine fnT tabok_coi Try.func48 rfl rfl ann0 fun vs h v h' e => ⟨0, ?_⟩
  unfold gComb at e
  split at e
  case h_2 => exact (T.no_inv e).elim
  rename_i a b c
  refine Eq.trans (run_coi 0 a b c) (Eq.trans ?_ e)
  clear e
  unfold coA
  cases ha : finB a
  case false => rfl
  cases hc : finB c
  case false => rfl
  cases hb : posB b
  case false => rfl
  rw [fconv_eq]
  show _ = T.k _ _
  unfold coB coV
  simp only [T.k]
  refine Eq.trans (flr_impl (x := combX a b c) (comb_ok ha hc hb) (some (V.tup [.a (.int .i64 0), .a (.bool false)], ([] : H))) (fun k => some (V.tup [.a (.int .i64 k), .a (.bool true)], ([] : H)))) ?_
  cases flr (combX a b c) <;> rfl
def tab_cos : Fns := tabT [(76, gT (gF1 finB)), (58, gT (gF1 posB)), (81, gT gIn)]
theorem tabok_cos : ∀ f, FnT Try.prog f (tab_cos f) := (tabT_cons (k := 76) ok_l01Finite (tabT_cons (k := 58) ok_l02Above (tabT_cons (k := 81) ok_l00In tabT_nil)))
theorem run_cos (N : Nat) (a : Nat) (b : Nat) (c : Nat) : run ty tab_cos ann0 N Try.f47 [.fl .f32 a, .fl .f32 b, .fl .f32 c] []
    = (match !(finB a) with | true => some (.tup [.a (.int .i64 0), .a (.bool false)], []) | false => (match !(posB b) with | true => some (.tup [.a (.int .i64 0), .a (.bool false)], []) | false => (match !(finB c) with | true => some (.tup [.a (.int .i64 0), .a (.bool false)], []) | false => (match fconv .f32 (fop .quo .f32 (fop .sub .f32 c a) b) .f64 with | some c1 => (match gtD (fop .add .f64 c1 4602678819172646912) 13920209192129396736 with | true => (match !(ltD (fop .add .f64 c1 4602678819172646912) 4696837155274620928) with | true => some (.tup [.a (.int .i64 0), .a (.bool false)], []) | false => (match floatToIntVal .f64 (fop .add .f64 c1 4602678819172646912) .i64 with | some n2 => (match gtD (floatOfInt .f64 n2) (fop .add .f64 c1 4602678819172646912) with | true => (match !(inB (IntKind.i64.wrap (n2 - 1)) (-1000000) 1000000) with | true => some (.tup [.a (.int .i64 0), .a (.bool false)], []) | false => some (.tup [.a (.int .i64 (IntKind.i64.wrap (n2 - 1))), .a (.bool true)], [])) | false => (match !(inB n2 (-1000000) 1000000) with | true => some (.tup [.a (.int .i64 0), .a (.bool false)], []) | false => some (.tup [.a (.int .i64 n2), .a (.bool true)], []))) | none => none)) | false => some (.tup [.a (.int .i64 0), .a (.bool false)], [])) | none => none)))) := by
  kernel_rfl

theorem ok_cos : FnT Try.prog 47 gComb := by
  refine fnT tabok_cos Try.func47 rfl rfl ann0 fun vs h v h' e => ⟨0, ?_⟩
  unfold gComb at e
  split at e
  case h_2 => exact (T.no_inv e).elim
  rename_i a b c
  refine Eq.trans (run_cos 0 a b c) (Eq.trans ?_ e)
  clear e
  unfold coA
  cases ha : finB a
  case false => rfl
  cases hc : finB c
  case false => cases posB b <;> rfl
  cases hb : posB b
  case false => rfl
  rw [fconv_eq]
  show _ = T.k _ _
  unfold coB coV
  simp only [T.k]
  refine Eq.trans (flr_spec (x := combX a b c) (comb_ok ha hc hb) (some (V.tup [.a (.int .i64 0), .a (.bool false)], ([] : H))) (fun k => some (V.tup [.a (.int .i64 k), .a (.bool true)], ([] : H)))) ?_
  cases flr (combX a b c) <;> rfl
def tab_lawCo : Fns := tabT [(47, gComb), (48, gComb)]
theorem tabok_lawCo : ∀ f, FnT Try.prog f (tab_lawCo f) := (tabT_cons (k := 47) ok_cos (tabT_cons (k := 48) ok_coi tabT_nil))
theorem run_lawCo (N : Nat) (a : Nat) (b : Nat) (c : Nat) : run ty tab_lawCo ann0 N Try.f13 [.fl .f32 a, .fl .f32 b, .fl .f32 c] []
    = (match coA a b c with | true => (match coB a b c with | true => (match coA a b c with | true => (match coB a b c with | true => (match (coV a b c) != (coV a b c) with | true => some (.bool false, []) | false => some (.bool true, [])) | false => (match 0 != (coV a b c) with | true => some (.bool false, []) | false => some (.bool false, []))) | false => (match 0 != (coV a b c) with | true => some (.bool false, []) | false => some (.bool false, []))) | false => (match coA a b c with | true => (match coB a b c with | true => (match (coV a b c) != 0 with | true => some (.bool false, []) | false => some (.bool false, [])) | false => some (.bool true, [])) | false => some (.bool true, []))) | false => (match coA a b c with | true => (match coB a b c with | true => (match (coV a b c) != 0 with | true => some (.bool false, []) | false => some (.bool false, [])) | false => some (.bool true, [])) | false => some (.bool true, []))) := by
  kernel_rfl

theorem ok_lawCombNearest : FnOk Try.prog 13 (fun vs h => match vs, h with | [.fl .f32 a, .fl .f32 b, .fl .f32 c], [] => some (.bool true, []) | _, _ => none) := by
  refine fnOk tabok_lawCo Try.func13 rfl rfl ann0 fun vs h v h' e => ⟨0, ?_⟩
  split at e
  case h_2 => cases e
  rename_i a b c
  cases e
  refine Eq.trans (run_lawCo 0 _ _ _) ?_
  have hv : (coV a b c != coV a b c) = false := by simp
  cases coA a b c
  · rfl
  · cases coB a b c
    · rfl
    · rw [hv]
end Go.Proofs.Ythcjbchkagkaaaa.Ab

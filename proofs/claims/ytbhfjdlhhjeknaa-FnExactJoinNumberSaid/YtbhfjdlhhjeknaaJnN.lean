/- The number of a share. Only lemmas. Printed by gen_join3.py. -/
import Derived.Test.YtbhfjdlhhjeknaaJnL
import Derived.Test.YtbhfjdlhhjeknaaBnd2
namespace Go.Proofs.Ytbhfjdlhhjeknaa.Ab
set_option linter.unusedVariables false
set_option linter.unusedSimpArgs false
open Go
theorem ok_msqrt : FnT Try.prog 155 gSqrt := sqrt_ok Try.func155 (by decide) (by rfl) (by rfl) (by rfl)
def tab_mSqrt : Fns := tabT [(155, gSqrt)]
theorem tabok_mSqrt : ∀ f, FnT Try.prog f (tab_mSqrt f) := (tabT_cons (k := 155) ok_msqrt tabT_nil)
theorem run_mSqrt (N : Nat) (x : Nat) : run ty tab_mSqrt ann0 N Try.f99 [.fl .f64 x] []
    = some (.fl .f64 (fsqrt x), []) := by
  kernel_rfl

theorem ok_mSqrt : FnT Try.prog 99 (gSqrt) := by
  refine fnT tabok_mSqrt Try.func99 rfl rfl ann0 fun vs h v h' e => ⟨0, ?_⟩
  unfold gSqrt at e
  split at e
  case h_2 => exact (T.no_inv e).elim
  obtain ⟨rfl, rfl⟩ := T.ret_inv e
  exact run_mSqrt 0 _
def narOk (x : Nat) : Bool := (fconv .f64 x .f32).isSome
def nar (x : Nat) : Nat := (fconv .f64 x .f32).getD 0
def gNar : GT := fun vs h => match vs, h with | [.fl .f64 x], [] => .ite (narOk x) (.ret (.fl .f32 (nar x)) []) .no | _, _ => .no
def tab_l01Narrow : Fns := tabT []
theorem tabok_l01Narrow : ∀ f, FnT Try.prog f (tab_l01Narrow f) := tabT_nil
theorem run_l01Narrow (N : Nat) (x : Nat) : run ty tab_l01Narrow ann0 N Try.f138 [.fl .f64 x] []
    = (match fconv .f64 x .f32 with
  | some c1 => some (.fl .f32 c1, [])
  | none => none) := by
  kernel_rfl

theorem ok_l01Narrow : FnT Try.prog 138 (gNar) := by
  refine fnT tabok_l01Narrow Try.func138 rfl rfl ann0 fun vs h v h' e => ⟨0, ?_⟩
  unfold gNar at e
  split at e
  case h_2 => exact (T.no_inv e).elim
  rename_i x
  obtain ⟨hx, e⟩ := T.pre_inv e
  obtain ⟨rfl, rfl⟩ := T.ret_inv e
  refine Eq.trans (run_l01Narrow 0 x) ?_
  unfold narOk at hx
  unfold nar
  cases hy : fconv .f64 x .f32 with
  | none => rw [hy] at hx; cases hx
  | some y => rfl
def gRoot : G := fun vs h => match vs, h with | [.fl .f32 x], [] => some (.fl .f32 (rootF x), []) | _, _ => none
def tab_l01Sqrt : Fns := tabT [(99, gSqrt), (138, gNar)]
theorem tabok_l01Sqrt : ∀ f, FnT Try.prog f (tab_l01Sqrt f) := (tabT_cons (k := 99) ok_mSqrt (tabT_cons (k := 138) ok_l01Narrow tabT_nil))
theorem run_l01Sqrt (N : Nat) (x : Nat) : run ty tab_l01Sqrt ann0 N Try.f129 [.fl .f32 x] []
    = (match fconv .f32 x .f64 with
  | some c1 => (match narOk (fsqrt c1) with
    | true => some (.fl .f32 (nar (fsqrt c1)), [])
    | false => none)
  | none => none) := by
  kernel_rfl

theorem ok_l01Sqrt : FnT Try.prog 129 (gT gRoot) := by
  refine fnT tabok_l01Sqrt Try.func129 rfl rfl ann0 fun vs h v h' e => ⟨0, ?_⟩
  rw [T.run_of] at e
  unfold gRoot at e
  split at e
  case h_2 => cases e
  rename_i x
  cases e
  refine Eq.trans (run_l01Sqrt 0 x) ?_
  simp only [fconv_eq, narOk, nar, rootF_eq, Option.isSome_some, Option.getD_some]
def tab_RootNumber : Fns := tabT [(99, gSqrt)]
theorem tabok_RootNumber : ∀ f, FnT Try.prog f (tab_RootNumber f) := (tabT_cons (k := 99) ok_mSqrt tabT_nil)
theorem run_RootNumber (N : Nat) (x : Nat) : run ty tab_RootNumber ann0 N Try.f41 [.fl .f32 x] []
    = (match fconv .f32 x .f64 with
  | some c1 => (match fconv .f64 (fsqrt c1) .f32 with
    | some c2 => some (.fl .f32 c2, [])
    | none => none)
  | none => none) := by
  kernel_rfl

theorem ok_RootNumber : FnT Try.prog 41 (gT gRoot) := by
  refine fnT tabok_RootNumber Try.func41 rfl rfl ann0 fun vs h v h' e => ⟨0, ?_⟩
  rw [T.run_of] at e
  unfold gRoot at e
  split at e
  case h_2 => cases e
  rename_i x
  cases e
  refine Eq.trans (run_RootNumber 0 x) ?_
  simp only [fconv_eq, rootF_eq, Option.isSome_some, Option.getD_some]
def jF (t : Int × Int × Int) : Nat := fop .mul .f32 (floatOfInt .f32 t.1) (rootF (fop .quo .f32 (floatOfInt .f32 t.2.1) (floatOfInt .f32 t.2.2)))
def jD : List (Int × Int × Int) := [(-1, 1, 2), (-1, 1, 3), (-1, 1, 4), (-1, 1, 5), (-1, 1, 6), (-1, 1, 7), (-1, 1, 8), (-1, 1, 10), (-1, 1, 11), (-1, 1, 12), (-1, 1, 14), (-1, 1, 15), (-1, 1, 20), (-1, 1, 21), (-1, 1, 28), (-1, 1, 30), (-1, 1, 35), (-1, 1, 60), (-1, 1, 63), (-1, 1, 70), (-1, 1, 84), (-1, 1, 99), (-1, 1, 105), (-1, 2, 3), (-1, 2, 5), (-1, 2, 7), (-1, 2, 15), (-1, 2, 21), (-1, 2, 35), (-1, 2, 63), (-1, 2, 105), (-1, 3, 4), (-1, 3, 5), (-1, 3, 7), (-1, 3, 8), (-1, 3, 10), (-1, 3, 11), (-1, 3, 14), (-1, 3, 20), (-1, 3, 28), (-1, 3, 35), (-1, 3, 70), (-1, 4, 5), (-1, 4, 7), (-1, 4, 9), (-1, 4, 15), (-1, 4, 21), (-1, 4, 35), (-1, 4, 45), (-1, 4, 63), (-1, 4, 105), (-1, 5, 6), (-1, 5, 7), (-1, 5, 8), (-1, 5, 9), (-1, 5, 11), (-1, 5, 12), (-1, 5, 14), (-1, 5, 21), (-1, 5, 28), (-1, 5, 42), (-1, 5, 84), (-1, 5, 231), (-1, 6, 7), (-1, 6, 11), (-1, 6, 35), (-1, 7, 20), (-1, 7, 30), (-1, 8, 15), (-1, 8, 21), (-1, 8, 35), (-1, 8, 77), (-1, 8, 105), (-1, 9, 20), (-1, 9, 28), (-1, 9, 35), (-1, 9, 70), (-1, 10, 21), (-1, 10, 63), (-1, 10, 99), (-1, 10, 231), (-1, 12, 35), (-1, 14, 45), (-1, 15, 154), (-1, 16, 33), (-1, 16, 35), (-1, 18, 35), (-1, 18, 77), (-1, 20, 77), (-1, 25, 66), (-1, 25, 84), (-1, 27, 70), (-1, 27, 140), (-1, 32, 63), (-1, 32, 105), (-1, 35, 99), (-1, 45, 154), (-1, 49, 120), (-1, 49, 198), (-1, 50, 99), (-1, 50, 231), (-1, 64, 315), (-1, 121, 315), (-1, 125, 1386), (-1, 160, 693), (-1, 169, 462), (-1, 361, 1386), (0, 0, 1), (1, 1, 1), (1, 1, 2), (1, 1, 3), (1, 1, 4), (1, 1, 5), (1, 1, 6), (1, 1, 7), (1, 1, 8), (1, 1, 10), (1, 1, 11), (1, 1, 12), (1, 1, 14), (1, 1, 15), (1, 1, 20), (1, 1, 21), (1, 1, 22), (1, 1, 28), (1, 1, 30), (1, 1, 33), (1, 1, 35), (1, 1, 42), (1, 1, 56), (1, 1, 60), (1, 1, 63), (1, 1, 66), (1, 1, 70), (1, 1, 77), (1, 1, 84), (1, 1, 99), (1, 1, 126), (1, 1, 132), (1, 1, 154), (1, 1, 210), (1, 1, 252), (1, 1, 462), (1, 1, 924), (1, 2, 3), (1, 2, 5), (1, 2, 7), (1, 2, 9), (1, 2, 11), (1, 2, 15), (1, 2, 21), (1, 2, 33), (1, 2, 35), (1, 2, 105), (1, 3, 4), (1, 3, 5), (1, 3, 7), (1, 3, 8), (1, 3, 10), (1, 3, 11), (1, 3, 14), (1, 3, 20), (1, 3, 28), (1, 3, 35), (1, 3, 70), (1, 3, 77), (1, 3, 154), (1, 4, 5), (1, 4, 7), (1, 4, 9), (1, 4, 11), (1, 4, 21), (1, 4, 33), (1, 4, 35), (1, 4, 63), (1, 4, 105), (1, 5, 6), (1, 5, 7), (1, 5, 8), (1, 5, 9), (1, 5, 11), (1, 5, 12), (1, 5, 14), (1, 5, 18), (1, 5, 21), (1, 5, 22), (1, 5, 28), (1, 5, 36), (1, 5, 42), (1, 5, 44), (1, 5, 77), (1, 5, 84), (1, 5, 126), (1, 5, 231), (1, 6, 7), (1, 6, 11), (1, 6, 35), (1, 7, 20), (1, 7, 22), (1, 7, 30), (1, 8, 15), (1, 8, 21), (1, 8, 33), (1, 8, 35), (1, 8, 63), (1, 8, 77), (1, 8, 105), (1, 9, 20), (1, 9, 22), (1, 9, 28), (1, 9, 35), (1, 9, 154), (1, 10, 21), (1, 10, 33), (1, 10, 63), (1, 10, 99), (1, 10, 231), (1, 12, 35), (1, 14, 45), (1, 15, 28), (1, 15, 56), (1, 15, 77), (1, 16, 33), (1, 16, 35), (1, 16, 63), (1, 16, 77), (1, 18, 35), (1, 20, 63), (1, 25, 63), (1, 25, 66), (1, 25, 77), (1, 25, 84), (1, 25, 154), (1, 25, 252), (1, 27, 70), (1, 27, 77), (1, 27, 140), (1, 32, 63), (1, 32, 105), (1, 35, 99), (1, 45, 154), (1, 49, 120), (1, 49, 180), (1, 49, 198), (1, 50, 99), (1, 50, 231), (1, 64, 315), (1, 75, 308), (1, 100, 231), (1, 121, 315), (1, 125, 1386), (1, 160, 693), (1, 169, 462), (1, 361, 1386)]
def jFin (t : Int × Int × Int) : Bool := finB (jF t)
def jEq (s t : Int × Int × Int) : Bool := decide (s.2.2 = t.2.2) && (decide (s.2.1 = t.2.1) && decide (s.1 = t.1))
theorem jEq_eq {s t : Int × Int × Int} (h : jEq s t = true) : s = t := by
  obtain ⟨a, b, c⟩ := s
  obtain ⟨a', b', c'⟩ := t
  unfold jEq at h
  simp only [Bool.and_eq_true, decide_eq_true_eq] at h
  obtain ⟨rfl, rfl, rfl⟩ := h
  rfl
def jIn (t : Int × Int × Int) : Bool := jD.any (jEq t)
theorem jD_0 : ((jD.drop 0).take 64).all jFin = true := by kernel_rfl
theorem jD_64 : ((jD.drop 64).take 64).all jFin = true := by kernel_rfl
theorem jD_128 : ((jD.drop 128).take 64).all jFin = true := by kernel_rfl
theorem jD_192 : ((jD.drop 192).take 64).all jFin = true := by kernel_rfl
theorem jD_fin {t : Int × Int × Int} (h : jIn t = true) : finB (jF t) = true := by
  unfold jIn at h
  rw [List.any_eq_true] at h
  obtain ⟨s, hs, he⟩ := h
  rw [jEq_eq he]
  have hj : jD = (jD.drop 0).take 64 ++ (jD.drop 64).take 64 ++ (jD.drop 128).take 64 ++ (jD.drop 192).take 64 := by kernel_rfl
  rw [hj] at hs
  simp only [List.mem_append] at hs
  rcases hs with (((hs | hs) | hs) | hs)
  · exact List.all_eq_true.mp jD_0 s hs
  · exact List.all_eq_true.mp jD_64 s hs
  · exact List.all_eq_true.mp jD_128 s hs
  · exact List.all_eq_true.mp jD_192 s hs
noncomputable def jInC (a b i j m : Nat) : Bool := match decide (m ≤ i + j) && decide (i + j + m ≤ a + b) with | true => jIn (jN a i b j m) | false => true
noncomputable def jInA (a b : Nat) : Bool := (List.range (a + 1)).all fun i => (List.range (b + 1)).all fun j => (List.range (min a b + 1)).all fun m => jInC a b i j m
theorem ji_0_0 : jInA 0 0 = true := by kernel_rfl
theorem ji_0_1 : jInA 0 1 = true := by kernel_rfl
theorem ji_0_2 : jInA 0 2 = true := by kernel_rfl
theorem ji_0_3 : jInA 0 3 = true := by kernel_rfl
theorem ji_0_4 : jInA 0 4 = true := by kernel_rfl
theorem ji_0_5 : jInA 0 5 = true := by kernel_rfl
theorem ji_0_6 : jInA 0 6 = true := by kernel_rfl
theorem ji_1_0 : jInA 1 0 = true := by kernel_rfl
theorem ji_1_1 : jInA 1 1 = true := by kernel_rfl
theorem ji_1_2 : jInA 1 2 = true := by kernel_rfl
theorem ji_1_3 : jInA 1 3 = true := by kernel_rfl
theorem ji_1_4 : jInA 1 4 = true := by kernel_rfl
theorem ji_1_5 : jInA 1 5 = true := by kernel_rfl
theorem ji_1_6 : jInA 1 6 = true := by kernel_rfl
theorem ji_2_0 : jInA 2 0 = true := by kernel_rfl
theorem ji_2_1 : jInA 2 1 = true := by kernel_rfl
theorem ji_2_2 : jInA 2 2 = true := by kernel_rfl
theorem ji_2_3 : jInA 2 3 = true := by kernel_rfl
theorem ji_2_4 : jInA 2 4 = true := by kernel_rfl
theorem ji_2_5 : jInA 2 5 = true := by kernel_rfl
theorem ji_2_6 : jInA 2 6 = true := by kernel_rfl
theorem ji_3_0 : jInA 3 0 = true := by kernel_rfl
theorem ji_3_1 : jInA 3 1 = true := by kernel_rfl
theorem ji_3_2 : jInA 3 2 = true := by kernel_rfl
theorem ji_3_3 : jInA 3 3 = true := by kernel_rfl
theorem ji_3_4 : jInA 3 4 = true := by kernel_rfl
theorem ji_3_5 : jInA 3 5 = true := by kernel_rfl
theorem ji_3_6 : jInA 3 6 = true := by kernel_rfl
theorem ji_4_0 : jInA 4 0 = true := by kernel_rfl
theorem ji_4_1 : jInA 4 1 = true := by kernel_rfl
theorem ji_4_2 : jInA 4 2 = true := by kernel_rfl
theorem ji_4_3 : jInA 4 3 = true := by kernel_rfl
theorem ji_4_4 : jInA 4 4 = true := by kernel_rfl
theorem ji_4_5 : jInA 4 5 = true := by kernel_rfl
theorem ji_4_6 : jInA 4 6 = true := by kernel_rfl
theorem ji_5_0 : jInA 5 0 = true := by kernel_rfl
theorem ji_5_1 : jInA 5 1 = true := by kernel_rfl
theorem ji_5_2 : jInA 5 2 = true := by kernel_rfl
theorem ji_5_3 : jInA 5 3 = true := by kernel_rfl
theorem ji_5_4 : jInA 5 4 = true := by kernel_rfl
theorem ji_5_5 : jInA 5 5 = true := by kernel_rfl
theorem ji_5_6 : jInA 5 6 = true := by kernel_rfl
theorem ji_6_0 : jInA 6 0 = true := by kernel_rfl
theorem ji_6_1 : jInA 6 1 = true := by kernel_rfl
theorem ji_6_2 : jInA 6 2 = true := by kernel_rfl
theorem ji_6_3 : jInA 6 3 = true := by kernel_rfl
theorem ji_6_4 : jInA 6 4 = true := by kernel_rfl
theorem ji_6_5 : jInA 6 5 = true := by kernel_rfl
theorem ji_6_6 : jInA 6 6 = true := by kernel_rfl
theorem jInA_all {a b : Nat} (ha : a ≤ 6) (hb : b ≤ 6) : jInA a b = true := by
  have : a = 0 ∨ a = 1 ∨ a = 2 ∨ a = 3 ∨ a = 4 ∨ a = 5 ∨ a = 6 := by omega
  rcases this with rfl | rfl | rfl | rfl | rfl | rfl | rfl
  · have : b = 0 ∨ b = 1 ∨ b = 2 ∨ b = 3 ∨ b = 4 ∨ b = 5 ∨ b = 6 := by omega
    rcases this with rfl | rfl | rfl | rfl | rfl | rfl | rfl
    · exact ji_0_0
    · exact ji_0_1
    · exact ji_0_2
    · exact ji_0_3
    · exact ji_0_4
    · exact ji_0_5
    · exact ji_0_6
  · have : b = 0 ∨ b = 1 ∨ b = 2 ∨ b = 3 ∨ b = 4 ∨ b = 5 ∨ b = 6 := by omega
    rcases this with rfl | rfl | rfl | rfl | rfl | rfl | rfl
    · exact ji_1_0
    · exact ji_1_1
    · exact ji_1_2
    · exact ji_1_3
    · exact ji_1_4
    · exact ji_1_5
    · exact ji_1_6
  · have : b = 0 ∨ b = 1 ∨ b = 2 ∨ b = 3 ∨ b = 4 ∨ b = 5 ∨ b = 6 := by omega
    rcases this with rfl | rfl | rfl | rfl | rfl | rfl | rfl
    · exact ji_2_0
    · exact ji_2_1
    · exact ji_2_2
    · exact ji_2_3
    · exact ji_2_4
    · exact ji_2_5
    · exact ji_2_6
  · have : b = 0 ∨ b = 1 ∨ b = 2 ∨ b = 3 ∨ b = 4 ∨ b = 5 ∨ b = 6 := by omega
    rcases this with rfl | rfl | rfl | rfl | rfl | rfl | rfl
    · exact ji_3_0
    · exact ji_3_1
    · exact ji_3_2
    · exact ji_3_3
    · exact ji_3_4
    · exact ji_3_5
    · exact ji_3_6
  · have : b = 0 ∨ b = 1 ∨ b = 2 ∨ b = 3 ∨ b = 4 ∨ b = 5 ∨ b = 6 := by omega
    rcases this with rfl | rfl | rfl | rfl | rfl | rfl | rfl
    · exact ji_4_0
    · exact ji_4_1
    · exact ji_4_2
    · exact ji_4_3
    · exact ji_4_4
    · exact ji_4_5
    · exact ji_4_6
  · have : b = 0 ∨ b = 1 ∨ b = 2 ∨ b = 3 ∨ b = 4 ∨ b = 5 ∨ b = 6 := by omega
    rcases this with rfl | rfl | rfl | rfl | rfl | rfl | rfl
    · exact ji_5_0
    · exact ji_5_1
    · exact ji_5_2
    · exact ji_5_3
    · exact ji_5_4
    · exact ji_5_5
    · exact ji_5_6
  · have : b = 0 ∨ b = 1 ∨ b = 2 ∨ b = 3 ∨ b = 4 ∨ b = 5 ∨ b = 6 := by omega
    rcases this with rfl | rfl | rfl | rfl | rfl | rfl | rfl
    · exact ji_6_0
    · exact ji_6_1
    · exact ji_6_2
    · exact ji_6_3
    · exact ji_6_4
    · exact ji_6_5
    · exact ji_6_6
theorem jF_fin {a x b y c : Int} (h : canJ a x b y c = true) : finB (jF (jV a x b y c)) = true := by
  apply jD_fin
  obtain ⟨h1, h2, h3, h4, h5, h6, h7, h8, h9, h10, h11, h12, h13, h14, h15, h16⟩ := of_decide_eq_true h
  obtain ⟨A, rfl⟩ : ∃ A : Nat, a = (A : Int) := ⟨a.toNat, by omega⟩
  obtain ⟨B, rfl⟩ : ∃ B : Nat, b = (B : Int) := ⟨b.toNat, by omega⟩
  obtain ⟨i, hi⟩ : ∃ i : Nat, ((A : Int) - x) / 2 = (i : Int) := ⟨(((A : Int) - x) / 2).toNat, by omega⟩
  obtain ⟨j, hj⟩ : ∃ j : Nat, ((B : Int) - y) / 2 = (j : Int) := ⟨(((B : Int) - y) / 2).toNat, by omega⟩
  obtain ⟨m, hm⟩ : ∃ m : Nat, ((A : Int) + (B : Int) - c) / 2 = (m : Int) := ⟨(((A : Int) + (B : Int) - c) / 2).toNat, by omega⟩
  have hr := List.all_eq_true.mp (List.all_eq_true.mp (List.all_eq_true.mp (jInA_all (a := A) (b := B) (by omega) (by omega)) i (List.mem_range.mpr (by omega))) j (List.mem_range.mpr (by omega))) m (List.mem_range.mpr (by omega))
  unfold jInC at hr
  rw [decide_eq_true (show m ≤ i + j by omega), decide_eq_true (show i + j + m ≤ A + B by omega)] at hr
  unfold jV
  rw [hi, hj, hm]
  exact hr
def gJnu : GT := fun vs h => match vs, h with | [.int .i64 a, .int .i64 x, .int .i64 b, .int .i64 y, .int .i64 c], [] => .ite (canS a x b y c) (.ret (pairV true (jF (jV a x b y c))) []) (.ret (pairV false 0) []) | _, _ => .no
def tab_jnS : Fns := tabT [(90, gT gcanS), (91, gJn), (129, gT gRoot)]
theorem tabok_jnS : ∀ f, FnT Try.prog f (tab_jnS f) := (tabT_cons (k := 90) ok_l03Can (tabT_cons (k := 91) ok_jn (tabT_cons (k := 129) ok_l01Sqrt tabT_nil)))
theorem run_jnS (N : Nat) (a : Int) (x : Int) (b : Int) (y : Int) (c : Int) : run ty tab_jnS ann0 N Try.f55 [.int .i64 a, .int .i64 x, .int .i64 b, .int .i64 y, .int .i64 c] []
    = (match !(canS a x b y c) with
  | true => some (.tup [.a (.fl .f32 0), .a (.bool false)], [])
  | false => (match canJ a x b y c with
    | true => some (.tup [.a (.fl .f32 (fop .mul .f32 (floatOfInt .f32 ((jV a x b y c).1)) (rootF (fop .quo .f32 (floatOfInt .f32 ((jV a x b y c).2.1)) (floatOfInt .f32 ((jV a x b y c).2.2)))))), .a (.bool true)], [])
    | false => none)) := by
  kernel_rfl

theorem ok_jnS : FnT Try.prog 55 (gJnu) := by
  refine fnT tabok_jnS Try.func55 rfl rfl ann0 fun vs h v h' e => ⟨0, ?_⟩
  unfold gJnu at e
  split at e
  case h_2 => exact (T.no_inv e).elim
  rename_i a x b y c
  refine Eq.trans (run_jnS 0 a x b y c) (Eq.trans ?_ e)
  show _ = T.k _ _
  simp only [T.k]
  cases hs : canS a x b y c
  · rfl
  · have hj := canS_J hs
    have hf : finB (fop .mul .f32 (floatOfInt .f32 (jV a x b y c).1) (rootF (fop .quo .f32 (floatOfInt .f32 (jV a x b y c).2.1) (floatOfInt .f32 (jV a x b y c).2.2)))) = true := jF_fin hj
    simp only [hj, hf]
    rfl
def tab_jnI : Fns := tabT [(33, gJoin), (41, gT gRoot), (85, gNumT)]
theorem tabok_jnI : ∀ f, FnT Try.prog f (tab_jnI f) := (tabT_cons (k := 33) ok_jsI (tabT_cons (k := 41) ok_RootNumber (tabT_cons (k := 85) ok_checked tabT_nil)))
theorem run_jnI (N : Nat) (a : Int) (x : Int) (b : Int) (y : Int) (c : Int) : run ty tab_jnI ann0 N Try.f56 [.int .i64 a, .int .i64 x, .int .i64 b, .int .i64 y, .int .i64 c] []
    = (match canS a x b y c with
  | true => (match finB (fop .mul .f32 (floatOfInt .f32 ((jV a x b y c).1)) (rootF (fop .quo .f32 (floatOfInt .f32 ((jV a x b y c).2.1)) (floatOfInt .f32 ((jV a x b y c).2.2))))) with
    | true => some (.tup [.a (.fl .f32 (fop .mul .f32 (floatOfInt .f32 ((jV a x b y c).1)) (rootF (fop .quo .f32 (floatOfInt .f32 ((jV a x b y c).2.1)) (floatOfInt .f32 ((jV a x b y c).2.2)))))), .a (.bool true)], [])
    | false => some (.tup [.a (.fl .f32 0), .a (.bool false)], []))
  | false => some (.tup [.a (.fl .f32 0), .a (.bool false)], [])) := by
  kernel_rfl

theorem ok_jnI : FnT Try.prog 56 (gJnu) := by
  refine fnT tabok_jnI Try.func56 rfl rfl ann0 fun vs h v h' e => ⟨0, ?_⟩
  unfold gJnu at e
  split at e
  case h_2 => exact (T.no_inv e).elim
  rename_i a x b y c
  refine Eq.trans (run_jnI 0 a x b y c) (Eq.trans ?_ e)
  show _ = T.k _ _
  simp only [T.k]
  cases hs : canS a x b y c
  · rfl
  · have hj := canS_J hs
    have hf : finB (fop .mul .f32 (floatOfInt .f32 (jV a x b y c).1) (rootF (fop .quo .f32 (floatOfInt .f32 (jV a x b y c).2.1) (floatOfInt .f32 (jV a x b y c).2.2)))) = true := jF_fin hj
    simp only [hj, hf]
    rfl
def tab_lawJoinNumber : Fns := tabT [(55, gJnu), (56, gJnu), (26, gT gSame)]
theorem tabok_lawJoinNumber : ∀ f, FnT Try.prog f (tab_lawJoinNumber f) := (tabT_cons (k := 55) ok_jnS (tabT_cons (k := 56) ok_jnI (tabT_cons (k := 26) ok_sameFloat tabT_nil)))
theorem run_lawJoinNumber (N : Nat) (a : Int) (x : Int) (b : Int) (y : Int) (c : Int) : run ty tab_lawJoinNumber ann0 N Try.f11 [.int .i64 a, .int .i64 x, .int .i64 b, .int .i64 y, .int .i64 c] []
    = (match canS a x b y c with
  | true => (match canS a x b y c with
    | true => (match fconv .f32 (jF (jV a x b y c)) .f64 with
      | some c1 => (match fconv .f32 (jF (jV a x b y c)) .f64 with
        | some c2 => (match !(sameB c1 c2) with
          | true => some (.bool false, [])
          | false => some (.bool true, []))
        | none => none)
      | none => none)
    | false => (match fconv .f32 (jF (jV a x b y c)) .f64 with
      | some c3 => (match !(sameB 0 c3) with
        | true => some (.bool false, [])
        | false => some (.bool false, []))
      | none => none))
  | false => (match canS a x b y c with
    | true => (match fconv .f32 (jF (jV a x b y c)) .f64 with
      | some c4 => (match !(sameB c4 0) with
        | true => some (.bool false, [])
        | false => some (.bool false, []))
      | none => none)
    | false => (match !(sameB 0 0) with
      | true => some (.bool false, [])
      | false => some (.bool true, [])))) := by
  kernel_rfl

theorem ok_lawJoinNumber : FnOk Try.prog 11 (fun vs h => match vs, h with | [.int .i64 a, .int .i64 x, .int .i64 b, .int .i64 y, .int .i64 c], [] => some (.bool true, []) | _, _ => none) := by
  refine fnOk tabok_lawJoinNumber Try.func11 rfl rfl ann0 fun vs h v h' e => ⟨0, ?_⟩
  split at e
  case h_2 => cases e
  rename_i a x b y c
  cases e
  refine Eq.trans (run_lawJoinNumber 0 a x b y c) ?_
  simp only [fconv_eq]
  cases hc1 : canS a x b y c
  case false =>
    have hc2 : (!(sameB 0 0)) = false := by rw [sameB_self]; rfl
    rw [hc2]
  case true =>
    have hc3 : (!(sameB (up (jF (jV a x b y c))) (up (jF (jV a x b y c))))) = false := by rw [sameB_self]; rfl
    rw [hc3]
end Go.Proofs.Ytbhfjdlhhjeknaa.Ab

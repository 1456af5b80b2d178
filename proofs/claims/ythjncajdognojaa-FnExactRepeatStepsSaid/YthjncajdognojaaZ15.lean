/- What the proof names: lemmas and words, merged by a program from its parts. No condition. -/
import Derived.Test.YthjncajdognojaaZ14
namespace Go.Proofs.Ythjncajdognojaa.Ab
set_option linter.unusedVariables false
set_option linter.unusedSimpArgs false
open Go
def gRpT (T0 : Int) : GT := fun vs h => match vs, h with
  | [.g [.sl 0 0 n, .sl 1 0 m], .int .i64 t], [.at r0 (.fl .f32 l0), .at r1 (.fl .f32 l1)] => .ite (decide (t = T0)) (gRp [.g [.sl 0 0 n, .sl 1 0 m], .int .i64 t] [.at r0 (.fl .f32 l0), .at r1 (.fl .f32 l1)]) .no
  | _, _ => .no
noncomputable def tab_rpI5 : Fns := tabT [(18, gVs), (19, gT gIn), (20, gSN), (21, gClo), (22, gJnI)]
theorem tabok_rpI5 : ∀ f, FnT Try.prog f (tab_rpI5 f) := (tabT_cons (k := 18) ok_vsI (tabT_cons (k := 19) ok_within (tabT_cons (k := 20) ok_SameNumber (tabT_cons (k := 21) ok_cloI (tabT_cons (k := 22) ok_jnI tabT_nil)))))
noncomputable def opsrpI_3 : Array Oper := (regAt (codeOf Try.f7) 3).getD #[]
def grpI_3 (st : St) : Option (Bool × St) := (match decide (st.t.length = 76) with | true => (match nth st.t 1 with | .int .i64 z0 => (match nth st.t 2 with | .ptr 2 0 => (match nth st.t 4 with | .ptr 3 0 => (match st.h with | [.at z3 (.fl .f32 z4), .at z5 (.fl .f32 z6), .at true (.as 1 [.sl 0 0 z8, .sl 1 0 z10]), .at true (.as 1 [.nil, .nil])] => some ((decide (z4.length = z8 ∧ 1 ≤ z8 ∧ z8 < 2147483648)) && (decide (z6.length = z10 ∧ 1 ≤ z10 ∧ z10 < 2147483648)), ⟨(.any :: .int .i64 z0 :: .ptr 2 0 :: .any :: .ptr 3 0 :: .any :: .ptr 4 0 :: .bool true :: (anys 68 [])), [.at z3 (.fl .f32 z4), .at z5 (.fl .f32 z6), .at true (.as 1 [.sl 0 0 z8, .sl 1 0 z10]), .at true (.as 1 [.nil, .nil]), .at true (.as 1 [.sl 5 0 z8, .sl 6 0 z10]), .at true (.fl .f32 z4), .at true (.fl .f32 z6)]⟩) | _ => none) | _ => none) | _ => none) | _ => none) | false => none)
abbrev zrpI_3 := Int × Bool × List Nat × Bool × List Nat × Nat × Nat
abbrev yrpI_30 (z : zrpI_3) : Int := z.1
abbrev yrpI_31 (z : zrpI_3) : Bool := z.2.1
abbrev yrpI_32 (z : zrpI_3) : List Nat := z.2.2.1
abbrev yrpI_33 (z : zrpI_3) : Bool := z.2.2.2.1
abbrev yrpI_34 (z : zrpI_3) : List Nat := z.2.2.2.2.1
abbrev yrpI_35 (z : zrpI_3) : Nat := z.2.2.2.2.2.1
abbrev yrpI_36 (z : zrpI_3) : Nat := z.2.2.2.2.2.2
def srpI_3 (z : zrpI_3) : List V := (.any :: .int .i64 (yrpI_30 z) :: .ptr 2 0 :: .any :: .ptr 3 0 :: (anys 71 []))
def hrpI_3 (z : zrpI_3) : H := [.at (yrpI_31 z) (.fl .f32 (yrpI_32 z)), .at (yrpI_33 z) (.fl .f32 (yrpI_34 z)), .at true (.as 1 [.sl 0 0 (yrpI_35 z), .sl 1 0 (yrpI_36 z)]), .at true (.as 1 [.nil, .nil])]
theorem horpI_3_0 : (opsrpI_3[0]?).map opD3 = some (.fieldAddr 26 (.tmp 2) 0, some 40, none) := by kernel_rfl
theorem horpI_3_1 : (opsrpI_3[1]?).map opD3 = some (.load 22 (.tmp 40), some 41, none) := by kernel_rfl
theorem horpI_3_2 : (opsrpI_3[2]?).map opD3 = some (.call ⟨.value (.func 21), #[.tmp 41], #[22]⟩, some 42, none) := by kernel_rfl
theorem horpI_3_3 : (opsrpI_3[3]?).map opD3 = some (.fieldAddr 26 (.tmp 2) 1, some 43, none) := by kernel_rfl
theorem horpI_3_4 : (opsrpI_3[4]?).map opD3 = some (.load 22 (.tmp 43), some 44, none) := by kernel_rfl
theorem horpI_3_5 : (opsrpI_3[5]?).map opD3 = some (.call ⟨.value (.func 21), #[.tmp 44], #[22]⟩, some 45, none) := by kernel_rfl
theorem horpI_3_6 : (opsrpI_3[6]?).map opD3 = some (.build 26 #[(0, .tmp 42), (1, .tmp 45)], some 46, none) := by kernel_rfl
theorem horpI_3_7 : (opsrpI_3[7]?).map opD3 = some (.alloc 26, some 6, none) := by kernel_rfl
theorem horpI_3_8 : (opsrpI_3[8]?).map opD3 = some (.store 26 (.tmp 6) (.tmp 46), none, none) := by kernel_rfl
theorem horpI_3_9 : (opsrpI_3[9]?).map opD3 = some (.assign (.const (.bool true)), some 7, none) := by kernel_rfl
def vrpI_3_0 (z : zrpI_3) : Nat → V
  | 0 => .ptr 2 0
  | 1 => .sl 0 0 (yrpI_35 z)
  | 2 => .sl 4 0 (yrpI_35 z)
  | 3 => .ptr 2 1
  | 4 => .sl 1 0 (yrpI_36 z)
  | 5 => .sl 5 0 (yrpI_36 z)
  | 6 => .g [.sl 4 0 (yrpI_35 z), .sl 5 0 (yrpI_36 z)]
  | 7 => .ptr 6 0
  | 8 => V.no
  | 9 => .bool true
  | _ => .any
def qrpI_3_0 (z : zrpI_3) (k : Nat) (l : List (Nat × V)) : List V := setsA l (setsA (selA k [(0, 40), (1, 41), (2, 42), (3, 43), (4, 44), (5, 45), (6, 46), (7, 6), (9, 7)] (vrpI_3_0 z)) (srpI_3 z))
def crpI_3_0 (z : zrpI_3) : Prop := (decide ((yrpI_32 z).length = (yrpI_35 z) ∧ 1 ≤ (yrpI_35 z) ∧ (yrpI_35 z) < 2147483648)) = true ∧ (decide ((yrpI_34 z).length = (yrpI_36 z) ∧ 1 ≤ (yrpI_36 z) ∧ (yrpI_36 z) < 2147483648)) = true
abbrev arpI_3_0 (z : zrpI_3) (m k : Nat) (t : List V) (h : H) : Prop := AnyRun Try.prog opsrpI_3 (FinTo [1, 2, 4, 6, 7] 4 (⟨(.any :: .int .i64 (yrpI_30 z) :: .ptr 2 0 :: .any :: .ptr 3 0 :: .any :: .ptr 4 0 :: .bool true :: (anys 68 [])), [.at (yrpI_31 z) (.fl .f32 (yrpI_32 z)), .at (yrpI_33 z) (.fl .f32 (yrpI_34 z)), .at true (.as 1 [.sl 0 0 (yrpI_35 z), .sl 1 0 (yrpI_36 z)]), .at true (.as 1 [.nil, .nil]), .at true (.as 1 [.sl 5 0 (yrpI_35 z), .sl 6 0 (yrpI_36 z)]), .at true (.fl .f32 (yrpI_32 z)), .at true (.fl .f32 (yrpI_34 z))]⟩ : St)) m (bitsA 10 k) t h
def brpI_3_0 (z : zrpI_3) : Nat → B
  | 0 => .at true (.fl .f32 (yrpI_32 z))
  | 1 => .at true (.fl .f32 (yrpI_34 z))
  | 2 => .at true (.as 1 [.sl 4 0 (yrpI_35 z), .sl 5 0 (yrpI_36 z)])
  | 3 => .at true (.as 1 [.nil, .nil])
  | 4 => .at true (.as 1 [.sl 4 0 (yrpI_35 z), .sl 6 0 (yrpI_36 z)])
  | 5 => .at true (.as 1 [.sl 5 0 (yrpI_35 z), .sl 6 0 (yrpI_36 z)])
  | _ => .gone
def HrpI_3_0 (z : zrpI_3) (l : List Nat) : H := hrpI_3 z ++ l.map (brpI_3_0 z)
theorem anrpI_3_1 {z : zrpI_3} (hc : crpI_3_0 z) : arpI_3_0 z 0 1023 (qrpI_3_0 z 1023 []) (HrpI_3_0 z [0, 1, 2]) := ⟨by kernel_rfl, [0, 1, 2, 3, 6, 4, 5], by decide, by decide, by kernel_rfl, by kernel_rfl⟩
theorem anrpI_3_2 {z : zrpI_3} (hc : crpI_3_0 z) : arpI_3_0 z 1 511 (qrpI_3_0 z 511 []) (HrpI_3_0 z [0, 1, 2]) := by
  refine any_next [9] (by kernel_rfl) (by decide) fun i hi => ?_
  obtain rfl := two1 hi
  · exact any_one _ (v := vrpI_3_0 z 9) tabok_rpI5 horpI_3_9 (trivial) (by kernel_rfl) (by kernel_rfl) (by kernel_rfl) (anrpI_3_1 hc)
theorem anrpI_3_3 {z : zrpI_3} (hc : crpI_3_0 z) : arpI_3_0 z 2 255 (qrpI_3_0 z 255 []) (HrpI_3_0 z [0, 1, 3]) := by
  refine any_next [8] (by kernel_rfl) (by decide) fun i hi => ?_
  obtain rfl := two1 hi
  · exact any_one _ (v := vrpI_3_0 z 8) tabok_rpI5 horpI_3_8 (trivial) (by kernel_rfl) (by kernel_rfl) (by kernel_rfl) (anrpI_3_2 hc)
theorem anrpI_3_4 {z : zrpI_3} (hc : crpI_3_0 z) : arpI_3_0 z 3 127 (qrpI_3_0 z 127 []) (HrpI_3_0 z [0, 1]) := by
  refine any_next [7] (by kernel_rfl) (by decide) fun i hi => ?_
  obtain rfl := two1 hi
  · exact any_one _ (v := vrpI_3_0 z 7) tabok_rpI5 horpI_3_7 (trivial) (by kernel_rfl) (by kernel_rfl) (by kernel_rfl) (anrpI_3_3 hc)
theorem anrpI_3_5 {z : zrpI_3} (hc : crpI_3_0 z) : arpI_3_0 z 3 191 (qrpI_3_0 z 191 []) (HrpI_3_0 z [0, 1, 3]) := by
  refine any_next [6] (by kernel_rfl) (by decide) fun i hi => ?_
  obtain rfl := two1 hi
  · exact any_one _ (v := vrpI_3_0 z 6) tabok_rpI5 horpI_3_6 (trivial) (by kernel_rfl) (by kernel_rfl) (by kernel_rfl) (anrpI_3_3 hc)
theorem anrpI_3_6 {z : zrpI_3} (hc : crpI_3_0 z) : arpI_3_0 z 4 63 (qrpI_3_0 z 63 []) (HrpI_3_0 z [0, 1]) := by
  refine any_next [6, 7] (by kernel_rfl) (by decide) fun i hi => ?_
  rcases two2 hi with rfl | rfl
  · exact any_one _ (v := vrpI_3_0 z 6) tabok_rpI5 horpI_3_6 (trivial) (by kernel_rfl) (by kernel_rfl) (by kernel_rfl) (anrpI_3_4 hc)
  · exact any_one _ (v := vrpI_3_0 z 7) tabok_rpI5 horpI_3_7 (trivial) (by kernel_rfl) (by kernel_rfl) (by kernel_rfl) (anrpI_3_5 hc)
theorem anrpI_3_7 {z : zrpI_3} (hc : crpI_3_0 z) : arpI_3_0 z 0 1023 (qrpI_3_0 z 1023 [(6, .ptr 5 0), (45, .sl 6 0 (yrpI_36 z)), (46, .g [.sl 4 0 (yrpI_35 z), .sl 6 0 (yrpI_36 z)])]) (HrpI_3_0 z [0, 4, 1]) := ⟨by kernel_rfl, [0, 1, 2, 3, 5, 4, 6], by decide, by decide, by kernel_rfl, by kernel_rfl⟩
theorem anrpI_3_8 {z : zrpI_3} (hc : crpI_3_0 z) : arpI_3_0 z 1 511 (qrpI_3_0 z 511 [(6, .ptr 5 0), (45, .sl 6 0 (yrpI_36 z)), (46, .g [.sl 4 0 (yrpI_35 z), .sl 6 0 (yrpI_36 z)])]) (HrpI_3_0 z [0, 4, 1]) := by
  refine any_next [9] (by kernel_rfl) (by decide) fun i hi => ?_
  obtain rfl := two1 hi
  · exact any_one _ (v := vrpI_3_0 z 9) tabok_rpI5 horpI_3_9 (trivial) (by kernel_rfl) (by kernel_rfl) (by kernel_rfl) (anrpI_3_7 hc)
theorem anrpI_3_9 {z : zrpI_3} (hc : crpI_3_0 z) : arpI_3_0 z 2 255 (qrpI_3_0 z 255 [(6, .ptr 5 0), (45, .sl 6 0 (yrpI_36 z)), (46, .g [.sl 4 0 (yrpI_35 z), .sl 6 0 (yrpI_36 z)])]) (HrpI_3_0 z [0, 3, 1]) := by
  refine any_next [8] (by kernel_rfl) (by decide) fun i hi => ?_
  obtain rfl := two1 hi
  · exact any_one _ (v := vrpI_3_0 z 8) tabok_rpI5 horpI_3_8 (trivial) (by kernel_rfl) (by kernel_rfl) (by kernel_rfl) (anrpI_3_8 hc)
theorem anrpI_3_10 {z : zrpI_3} (hc : crpI_3_0 z) : arpI_3_0 z 3 191 (qrpI_3_0 z 191 [(6, .ptr 5 0), (45, .sl 6 0 (yrpI_36 z))]) (HrpI_3_0 z [0, 3, 1]) := by
  refine any_next [6] (by kernel_rfl) (by decide) fun i hi => ?_
  obtain rfl := two1 hi
  · exact any_one _ (v := .g [.sl 4 0 (yrpI_35 z), .sl 6 0 (yrpI_36 z)]) tabok_rpI5 horpI_3_6 (trivial) (by kernel_rfl) (by kernel_rfl) (by kernel_rfl) (anrpI_3_9 hc)
theorem anrpI_3_11 {z : zrpI_3} (hc : crpI_3_0 z) : arpI_3_0 z 4 159 (qrpI_3_0 z 159 [(6, .ptr 5 0)]) (HrpI_3_0 z [0, 3]) := by
  refine any_next [5] (by kernel_rfl) (by decide) fun i hi => ?_
  obtain rfl := two1 hi
  · exact any_one _ (v := .sl 6 0 (yrpI_36 z)) tabok_rpI5 horpI_3_5 (trivial) (by
      refine Eq.trans (b := (match decide ((yrpI_34 z).length = (yrpI_36 z) ∧ 1 ≤ (yrpI_36 z) ∧ (yrpI_36 z) < 2147483648) with | true => some ((.sl 6 0 (yrpI_36 z)), [.at (yrpI_31 z) (.fl .f32 (yrpI_32 z)), .at (yrpI_33 z) (.fl .f32 (yrpI_34 z)), .at true (.as 1 [.sl 0 0 (yrpI_35 z), .sl 1 0 (yrpI_36 z)]), .at true (.as 1 [.nil, .nil]), .at true (.fl .f32 (yrpI_32 z)), .at true (.as 1 [.nil, .nil]), .at true (.fl .f32 (yrpI_34 z))]) | false => none)) (by kernel_rfl) ?_
      rw [hc.2]
      try rfl) (by kernel_rfl) (by kernel_rfl) (anrpI_3_10 hc)
theorem anrpI_3_12 {z : zrpI_3} (hc : crpI_3_0 z) : arpI_3_0 z 5 31 (qrpI_3_0 z 31 []) (HrpI_3_0 z [0]) := by
  refine any_next [5, 7] (by kernel_rfl) (by decide) fun i hi => ?_
  rcases two2 hi with rfl | rfl
  · exact any_one _ (v := vrpI_3_0 z 5) tabok_rpI5 horpI_3_5 (trivial) (by
      refine Eq.trans (b := (match decide ((yrpI_34 z).length = (yrpI_36 z) ∧ 1 ≤ (yrpI_36 z) ∧ (yrpI_36 z) < 2147483648) with | true => some ((.sl 5 0 (yrpI_36 z)), [.at (yrpI_31 z) (.fl .f32 (yrpI_32 z)), .at (yrpI_33 z) (.fl .f32 (yrpI_34 z)), .at true (.as 1 [.sl 0 0 (yrpI_35 z), .sl 1 0 (yrpI_36 z)]), .at true (.as 1 [.nil, .nil]), .at true (.fl .f32 (yrpI_32 z)), .at true (.fl .f32 (yrpI_34 z))]) | false => none)) (by kernel_rfl) ?_
      rw [hc.2]
      try rfl) (by kernel_rfl) (by kernel_rfl) (anrpI_3_6 hc)
  · exact any_one _ (v := .ptr 5 0) tabok_rpI5 horpI_3_7 (trivial) (by kernel_rfl) (by kernel_rfl) (by kernel_rfl) (anrpI_3_11 hc)
theorem anrpI_3_13 {z : zrpI_3} (hc : crpI_3_0 z) : arpI_3_0 z 5 143 (qrpI_3_0 z 143 [(6, .ptr 5 0)]) (HrpI_3_0 z [0, 3]) := by
  refine any_next [4] (by kernel_rfl) (by decide) fun i hi => ?_
  obtain rfl := two1 hi
  · exact any_one _ (v := vrpI_3_0 z 4) tabok_rpI5 horpI_3_4 (trivial) (by kernel_rfl) (by kernel_rfl) (by kernel_rfl) (anrpI_3_11 hc)
theorem anrpI_3_14 {z : zrpI_3} (hc : crpI_3_0 z) : arpI_3_0 z 6 15 (qrpI_3_0 z 15 []) (HrpI_3_0 z [0]) := by
  refine any_next [4, 7] (by kernel_rfl) (by decide) fun i hi => ?_
  rcases two2 hi with rfl | rfl
  · exact any_one _ (v := vrpI_3_0 z 4) tabok_rpI5 horpI_3_4 (trivial) (by kernel_rfl) (by kernel_rfl) (by kernel_rfl) (anrpI_3_12 hc)
  · exact any_one _ (v := .ptr 5 0) tabok_rpI5 horpI_3_7 (trivial) (by kernel_rfl) (by kernel_rfl) (by kernel_rfl) (anrpI_3_13 hc)
theorem anrpI_3_15 {z : zrpI_3} (hc : crpI_3_0 z) : arpI_3_0 z 6 135 (qrpI_3_0 z 135 [(6, .ptr 5 0)]) (HrpI_3_0 z [0, 3]) := by
  refine any_next [3] (by kernel_rfl) (by decide) fun i hi => ?_
  obtain rfl := two1 hi
  · exact any_one _ (v := vrpI_3_0 z 3) tabok_rpI5 horpI_3_3 (trivial) (by kernel_rfl) (by kernel_rfl) (by kernel_rfl) (anrpI_3_13 hc)
theorem anrpI_3_16 {z : zrpI_3} (hc : crpI_3_0 z) : arpI_3_0 z 7 7 (qrpI_3_0 z 7 []) (HrpI_3_0 z [0]) := by
  refine any_next [3, 7] (by kernel_rfl) (by decide) fun i hi => ?_
  rcases two2 hi with rfl | rfl
  · exact any_one _ (v := vrpI_3_0 z 3) tabok_rpI5 horpI_3_3 (trivial) (by kernel_rfl) (by kernel_rfl) (by kernel_rfl) (anrpI_3_14 hc)
  · exact any_one _ (v := .ptr 5 0) tabok_rpI5 horpI_3_7 (trivial) (by kernel_rfl) (by kernel_rfl) (by kernel_rfl) (anrpI_3_15 hc)
theorem anrpI_3_17 {z : zrpI_3} (hc : crpI_3_0 z) : arpI_3_0 z 0 1023 (qrpI_3_0 z 1023 [(6, .ptr 4 0), (42, .sl 5 0 (yrpI_35 z)), (45, .sl 6 0 (yrpI_36 z)), (46, .g [.sl 5 0 (yrpI_35 z), .sl 6 0 (yrpI_36 z)])]) (HrpI_3_0 z [5, 0, 1]) := ⟨by kernel_rfl, [0, 1, 2, 3, 4, 5, 6], by decide, by decide, by kernel_rfl, by kernel_rfl⟩
theorem anrpI_3_18 {z : zrpI_3} (hc : crpI_3_0 z) : arpI_3_0 z 1 511 (qrpI_3_0 z 511 [(6, .ptr 4 0), (42, .sl 5 0 (yrpI_35 z)), (45, .sl 6 0 (yrpI_36 z)), (46, .g [.sl 5 0 (yrpI_35 z), .sl 6 0 (yrpI_36 z)])]) (HrpI_3_0 z [5, 0, 1]) := by
  refine any_next [9] (by kernel_rfl) (by decide) fun i hi => ?_
  obtain rfl := two1 hi
  · exact any_one _ (v := vrpI_3_0 z 9) tabok_rpI5 horpI_3_9 (trivial) (by kernel_rfl) (by kernel_rfl) (by kernel_rfl) (anrpI_3_17 hc)
theorem anrpI_3_19 {z : zrpI_3} (hc : crpI_3_0 z) : arpI_3_0 z 2 255 (qrpI_3_0 z 255 [(6, .ptr 4 0), (42, .sl 5 0 (yrpI_35 z)), (45, .sl 6 0 (yrpI_36 z)), (46, .g [.sl 5 0 (yrpI_35 z), .sl 6 0 (yrpI_36 z)])]) (HrpI_3_0 z [3, 0, 1]) := by
  refine any_next [8] (by kernel_rfl) (by decide) fun i hi => ?_
  obtain rfl := two1 hi
  · exact any_one _ (v := vrpI_3_0 z 8) tabok_rpI5 horpI_3_8 (trivial) (by kernel_rfl) (by kernel_rfl) (by kernel_rfl) (anrpI_3_18 hc)
theorem anrpI_3_20 {z : zrpI_3} (hc : crpI_3_0 z) : arpI_3_0 z 3 191 (qrpI_3_0 z 191 [(6, .ptr 4 0), (42, .sl 5 0 (yrpI_35 z)), (45, .sl 6 0 (yrpI_36 z))]) (HrpI_3_0 z [3, 0, 1]) := by
  refine any_next [6] (by kernel_rfl) (by decide) fun i hi => ?_
  obtain rfl := two1 hi
  · exact any_one _ (v := .g [.sl 5 0 (yrpI_35 z), .sl 6 0 (yrpI_36 z)]) tabok_rpI5 horpI_3_6 (trivial) (by kernel_rfl) (by kernel_rfl) (by kernel_rfl) (anrpI_3_19 hc)
theorem anrpI_3_21 {z : zrpI_3} (hc : crpI_3_0 z) : arpI_3_0 z 4 159 (qrpI_3_0 z 159 [(6, .ptr 4 0), (42, .sl 5 0 (yrpI_35 z))]) (HrpI_3_0 z [3, 0]) := by
  refine any_next [5] (by kernel_rfl) (by decide) fun i hi => ?_
  obtain rfl := two1 hi
  · exact any_one _ (v := .sl 6 0 (yrpI_36 z)) tabok_rpI5 horpI_3_5 (trivial) (by
      refine Eq.trans (b := (match decide ((yrpI_34 z).length = (yrpI_36 z) ∧ 1 ≤ (yrpI_36 z) ∧ (yrpI_36 z) < 2147483648) with | true => some ((.sl 6 0 (yrpI_36 z)), [.at (yrpI_31 z) (.fl .f32 (yrpI_32 z)), .at (yrpI_33 z) (.fl .f32 (yrpI_34 z)), .at true (.as 1 [.sl 0 0 (yrpI_35 z), .sl 1 0 (yrpI_36 z)]), .at true (.as 1 [.nil, .nil]), .at true (.as 1 [.nil, .nil]), .at true (.fl .f32 (yrpI_32 z)), .at true (.fl .f32 (yrpI_34 z))]) | false => none)) (by kernel_rfl) ?_
      rw [hc.2]
      try rfl) (by kernel_rfl) (by kernel_rfl) (anrpI_3_20 hc)
theorem anrpI_3_22 {z : zrpI_3} (hc : crpI_3_0 z) : arpI_3_0 z 5 155 (qrpI_3_0 z 155 [(6, .ptr 4 0)]) (HrpI_3_0 z [3]) := by
  refine any_next [2] (by kernel_rfl) (by decide) fun i hi => ?_
  obtain rfl := two1 hi
  · exact any_one _ (v := .sl 5 0 (yrpI_35 z)) tabok_rpI5 horpI_3_2 (trivial) (by
      refine Eq.trans (b := (match decide ((yrpI_32 z).length = (yrpI_35 z) ∧ 1 ≤ (yrpI_35 z) ∧ (yrpI_35 z) < 2147483648) with | true => some ((.sl 5 0 (yrpI_35 z)), [.at (yrpI_31 z) (.fl .f32 (yrpI_32 z)), .at (yrpI_33 z) (.fl .f32 (yrpI_34 z)), .at true (.as 1 [.sl 0 0 (yrpI_35 z), .sl 1 0 (yrpI_36 z)]), .at true (.as 1 [.nil, .nil]), .at true (.as 1 [.nil, .nil]), .at true (.fl .f32 (yrpI_32 z))]) | false => none)) (by kernel_rfl) ?_
      rw [hc.1]
      try rfl) (by kernel_rfl) (by kernel_rfl) (anrpI_3_21 hc)
theorem anrpI_3_23 {z : zrpI_3} (hc : crpI_3_0 z) : arpI_3_0 z 6 27 (qrpI_3_0 z 27 []) (HrpI_3_0 z []) := by
  refine any_next [2, 7] (by kernel_rfl) (by decide) fun i hi => ?_
  rcases two2 hi with rfl | rfl
  · exact any_one _ (v := vrpI_3_0 z 2) tabok_rpI5 horpI_3_2 (trivial) (by
      refine Eq.trans (b := (match decide ((yrpI_32 z).length = (yrpI_35 z) ∧ 1 ≤ (yrpI_35 z) ∧ (yrpI_35 z) < 2147483648) with | true => some ((.sl 4 0 (yrpI_35 z)), [.at (yrpI_31 z) (.fl .f32 (yrpI_32 z)), .at (yrpI_33 z) (.fl .f32 (yrpI_34 z)), .at true (.as 1 [.sl 0 0 (yrpI_35 z), .sl 1 0 (yrpI_36 z)]), .at true (.as 1 [.nil, .nil]), .at true (.fl .f32 (yrpI_32 z))]) | false => none)) (by kernel_rfl) ?_
      rw [hc.1]
      try rfl) (by kernel_rfl) (by kernel_rfl) (anrpI_3_12 hc)
  · exact any_one _ (v := .ptr 4 0) tabok_rpI5 horpI_3_7 (trivial) (by kernel_rfl) (by kernel_rfl) (by kernel_rfl) (anrpI_3_22 hc)
theorem anrpI_3_24 {z : zrpI_3} (hc : crpI_3_0 z) : arpI_3_0 z 5 143 (qrpI_3_0 z 143 [(6, .ptr 4 0), (42, .sl 5 0 (yrpI_35 z))]) (HrpI_3_0 z [3, 0]) := by
  refine any_next [4] (by kernel_rfl) (by decide) fun i hi => ?_
  obtain rfl := two1 hi
  · exact any_one _ (v := vrpI_3_0 z 4) tabok_rpI5 horpI_3_4 (trivial) (by kernel_rfl) (by kernel_rfl) (by kernel_rfl) (anrpI_3_21 hc)
theorem anrpI_3_25 {z : zrpI_3} (hc : crpI_3_0 z) : arpI_3_0 z 6 139 (qrpI_3_0 z 139 [(6, .ptr 4 0)]) (HrpI_3_0 z [3]) := by
  refine any_next [2, 4] (by kernel_rfl) (by decide) fun i hi => ?_
  rcases two2 hi with rfl | rfl
  · exact any_one _ (v := .sl 5 0 (yrpI_35 z)) tabok_rpI5 horpI_3_2 (trivial) (by
      refine Eq.trans (b := (match decide ((yrpI_32 z).length = (yrpI_35 z) ∧ 1 ≤ (yrpI_35 z) ∧ (yrpI_35 z) < 2147483648) with | true => some ((.sl 5 0 (yrpI_35 z)), [.at (yrpI_31 z) (.fl .f32 (yrpI_32 z)), .at (yrpI_33 z) (.fl .f32 (yrpI_34 z)), .at true (.as 1 [.sl 0 0 (yrpI_35 z), .sl 1 0 (yrpI_36 z)]), .at true (.as 1 [.nil, .nil]), .at true (.as 1 [.nil, .nil]), .at true (.fl .f32 (yrpI_32 z))]) | false => none)) (by kernel_rfl) ?_
      rw [hc.1]
      try rfl) (by kernel_rfl) (by kernel_rfl) (anrpI_3_24 hc)
  · exact any_one _ (v := vrpI_3_0 z 4) tabok_rpI5 horpI_3_4 (trivial) (by kernel_rfl) (by kernel_rfl) (by kernel_rfl) (anrpI_3_22 hc)
theorem anrpI_3_26 {z : zrpI_3} (hc : crpI_3_0 z) : arpI_3_0 z 7 11 (qrpI_3_0 z 11 []) (HrpI_3_0 z []) := by
  refine any_next [2, 4, 7] (by kernel_rfl) (by decide) fun i hi => ?_
  rcases two3 hi with rfl | rfl | rfl
  · exact any_one _ (v := vrpI_3_0 z 2) tabok_rpI5 horpI_3_2 (trivial) (by
      refine Eq.trans (b := (match decide ((yrpI_32 z).length = (yrpI_35 z) ∧ 1 ≤ (yrpI_35 z) ∧ (yrpI_35 z) < 2147483648) with | true => some ((.sl 4 0 (yrpI_35 z)), [.at (yrpI_31 z) (.fl .f32 (yrpI_32 z)), .at (yrpI_33 z) (.fl .f32 (yrpI_34 z)), .at true (.as 1 [.sl 0 0 (yrpI_35 z), .sl 1 0 (yrpI_36 z)]), .at true (.as 1 [.nil, .nil]), .at true (.fl .f32 (yrpI_32 z))]) | false => none)) (by kernel_rfl) ?_
      rw [hc.1]
      try rfl) (by kernel_rfl) (by kernel_rfl) (anrpI_3_14 hc)
  · exact any_one _ (v := vrpI_3_0 z 4) tabok_rpI5 horpI_3_4 (trivial) (by kernel_rfl) (by kernel_rfl) (by kernel_rfl) (anrpI_3_23 hc)
  · exact any_one _ (v := .ptr 4 0) tabok_rpI5 horpI_3_7 (trivial) (by kernel_rfl) (by kernel_rfl) (by kernel_rfl) (anrpI_3_25 hc)
theorem anrpI_3_27 {z : zrpI_3} (hc : crpI_3_0 z) : arpI_3_0 z 6 135 (qrpI_3_0 z 135 [(6, .ptr 4 0), (42, .sl 5 0 (yrpI_35 z))]) (HrpI_3_0 z [3, 0]) := by
  refine any_next [3] (by kernel_rfl) (by decide) fun i hi => ?_
  obtain rfl := two1 hi
  · exact any_one _ (v := vrpI_3_0 z 3) tabok_rpI5 horpI_3_3 (trivial) (by kernel_rfl) (by kernel_rfl) (by kernel_rfl) (anrpI_3_24 hc)
theorem anrpI_3_28 {z : zrpI_3} (hc : crpI_3_0 z) : arpI_3_0 z 7 131 (qrpI_3_0 z 131 [(6, .ptr 4 0)]) (HrpI_3_0 z [3]) := by
  refine any_next [2, 3] (by kernel_rfl) (by decide) fun i hi => ?_
  rcases two2 hi with rfl | rfl
  · exact any_one _ (v := .sl 5 0 (yrpI_35 z)) tabok_rpI5 horpI_3_2 (trivial) (by
      refine Eq.trans (b := (match decide ((yrpI_32 z).length = (yrpI_35 z) ∧ 1 ≤ (yrpI_35 z) ∧ (yrpI_35 z) < 2147483648) with | true => some ((.sl 5 0 (yrpI_35 z)), [.at (yrpI_31 z) (.fl .f32 (yrpI_32 z)), .at (yrpI_33 z) (.fl .f32 (yrpI_34 z)), .at true (.as 1 [.sl 0 0 (yrpI_35 z), .sl 1 0 (yrpI_36 z)]), .at true (.as 1 [.nil, .nil]), .at true (.as 1 [.nil, .nil]), .at true (.fl .f32 (yrpI_32 z))]) | false => none)) (by kernel_rfl) ?_
      rw [hc.1]
      try rfl) (by kernel_rfl) (by kernel_rfl) (anrpI_3_27 hc)
  · exact any_one _ (v := vrpI_3_0 z 3) tabok_rpI5 horpI_3_3 (trivial) (by kernel_rfl) (by kernel_rfl) (by kernel_rfl) (anrpI_3_25 hc)
theorem anrpI_3_29 {z : zrpI_3} (hc : crpI_3_0 z) : arpI_3_0 z 8 3 (qrpI_3_0 z 3 []) (HrpI_3_0 z []) := by
  refine any_next [2, 3, 7] (by kernel_rfl) (by decide) fun i hi => ?_
  rcases two3 hi with rfl | rfl | rfl
  · exact any_one _ (v := vrpI_3_0 z 2) tabok_rpI5 horpI_3_2 (trivial) (by
      refine Eq.trans (b := (match decide ((yrpI_32 z).length = (yrpI_35 z) ∧ 1 ≤ (yrpI_35 z) ∧ (yrpI_35 z) < 2147483648) with | true => some ((.sl 4 0 (yrpI_35 z)), [.at (yrpI_31 z) (.fl .f32 (yrpI_32 z)), .at (yrpI_33 z) (.fl .f32 (yrpI_34 z)), .at true (.as 1 [.sl 0 0 (yrpI_35 z), .sl 1 0 (yrpI_36 z)]), .at true (.as 1 [.nil, .nil]), .at true (.fl .f32 (yrpI_32 z))]) | false => none)) (by kernel_rfl) ?_
      rw [hc.1]
      try rfl) (by kernel_rfl) (by kernel_rfl) (anrpI_3_16 hc)
  · exact any_one _ (v := vrpI_3_0 z 3) tabok_rpI5 horpI_3_3 (trivial) (by kernel_rfl) (by kernel_rfl) (by kernel_rfl) (anrpI_3_26 hc)
  · exact any_one _ (v := .ptr 4 0) tabok_rpI5 horpI_3_7 (trivial) (by kernel_rfl) (by kernel_rfl) (by kernel_rfl) (anrpI_3_28 hc)
theorem anrpI_3_30 {z : zrpI_3} (hc : crpI_3_0 z) : arpI_3_0 z 6 153 (qrpI_3_0 z 153 [(6, .ptr 4 0)]) (HrpI_3_0 z [3]) := by
  refine any_next [1] (by kernel_rfl) (by decide) fun i hi => ?_
  obtain rfl := two1 hi
  · exact any_one _ (v := vrpI_3_0 z 1) tabok_rpI5 horpI_3_1 (trivial) (by kernel_rfl) (by kernel_rfl) (by kernel_rfl) (anrpI_3_22 hc)
theorem anrpI_3_31 {z : zrpI_3} (hc : crpI_3_0 z) : arpI_3_0 z 7 25 (qrpI_3_0 z 25 []) (HrpI_3_0 z []) := by
  refine any_next [1, 7] (by kernel_rfl) (by decide) fun i hi => ?_
  rcases two2 hi with rfl | rfl
  · exact any_one _ (v := vrpI_3_0 z 1) tabok_rpI5 horpI_3_1 (trivial) (by kernel_rfl) (by kernel_rfl) (by kernel_rfl) (anrpI_3_23 hc)
  · exact any_one _ (v := .ptr 4 0) tabok_rpI5 horpI_3_7 (trivial) (by kernel_rfl) (by kernel_rfl) (by kernel_rfl) (anrpI_3_30 hc)
theorem anrpI_3_32 {z : zrpI_3} (hc : crpI_3_0 z) : arpI_3_0 z 7 137 (qrpI_3_0 z 137 [(6, .ptr 4 0)]) (HrpI_3_0 z [3]) := by
  refine any_next [1, 4] (by kernel_rfl) (by decide) fun i hi => ?_
  rcases two2 hi with rfl | rfl
  · exact any_one _ (v := vrpI_3_0 z 1) tabok_rpI5 horpI_3_1 (trivial) (by kernel_rfl) (by kernel_rfl) (by kernel_rfl) (anrpI_3_25 hc)
  · exact any_one _ (v := vrpI_3_0 z 4) tabok_rpI5 horpI_3_4 (trivial) (by kernel_rfl) (by kernel_rfl) (by kernel_rfl) (anrpI_3_30 hc)
theorem anrpI_3_33 {z : zrpI_3} (hc : crpI_3_0 z) : arpI_3_0 z 8 9 (qrpI_3_0 z 9 []) (HrpI_3_0 z []) := by
  refine any_next [1, 4, 7] (by kernel_rfl) (by decide) fun i hi => ?_
  rcases two3 hi with rfl | rfl | rfl
  · exact any_one _ (v := vrpI_3_0 z 1) tabok_rpI5 horpI_3_1 (trivial) (by kernel_rfl) (by kernel_rfl) (by kernel_rfl) (anrpI_3_26 hc)
  · exact any_one _ (v := vrpI_3_0 z 4) tabok_rpI5 horpI_3_4 (trivial) (by kernel_rfl) (by kernel_rfl) (by kernel_rfl) (anrpI_3_31 hc)
  · exact any_one _ (v := .ptr 4 0) tabok_rpI5 horpI_3_7 (trivial) (by kernel_rfl) (by kernel_rfl) (by kernel_rfl) (anrpI_3_32 hc)
theorem anrpI_3_34 {z : zrpI_3} (hc : crpI_3_0 z) : arpI_3_0 z 8 129 (qrpI_3_0 z 129 [(6, .ptr 4 0)]) (HrpI_3_0 z [3]) := by
  refine any_next [1, 3] (by kernel_rfl) (by decide) fun i hi => ?_
  rcases two2 hi with rfl | rfl
  · exact any_one _ (v := vrpI_3_0 z 1) tabok_rpI5 horpI_3_1 (trivial) (by kernel_rfl) (by kernel_rfl) (by kernel_rfl) (anrpI_3_28 hc)
  · exact any_one _ (v := vrpI_3_0 z 3) tabok_rpI5 horpI_3_3 (trivial) (by kernel_rfl) (by kernel_rfl) (by kernel_rfl) (anrpI_3_32 hc)
theorem anrpI_3_35 {z : zrpI_3} (hc : crpI_3_0 z) : arpI_3_0 z 9 1 (qrpI_3_0 z 1 []) (HrpI_3_0 z []) := by
  refine any_next [1, 3, 7] (by kernel_rfl) (by decide) fun i hi => ?_
  rcases two3 hi with rfl | rfl | rfl
  · exact any_one _ (v := vrpI_3_0 z 1) tabok_rpI5 horpI_3_1 (trivial) (by kernel_rfl) (by kernel_rfl) (by kernel_rfl) (anrpI_3_29 hc)
  · exact any_one _ (v := vrpI_3_0 z 3) tabok_rpI5 horpI_3_3 (trivial) (by kernel_rfl) (by kernel_rfl) (by kernel_rfl) (anrpI_3_33 hc)
  · exact any_one _ (v := .ptr 4 0) tabok_rpI5 horpI_3_7 (trivial) (by kernel_rfl) (by kernel_rfl) (by kernel_rfl) (anrpI_3_34 hc)
theorem anrpI_3_36 {z : zrpI_3} (hc : crpI_3_0 z) : arpI_3_0 z 7 152 (qrpI_3_0 z 152 [(6, .ptr 4 0)]) (HrpI_3_0 z [3]) := by
  refine any_next [0] (by kernel_rfl) (by decide) fun i hi => ?_
  obtain rfl := two1 hi
  · exact any_one _ (v := vrpI_3_0 z 0) tabok_rpI5 horpI_3_0 (trivial) (by kernel_rfl) (by kernel_rfl) (by kernel_rfl) (anrpI_3_30 hc)
theorem anrpI_3_37 {z : zrpI_3} (hc : crpI_3_0 z) : arpI_3_0 z 8 24 (qrpI_3_0 z 24 []) (HrpI_3_0 z []) := by
  refine any_next [0, 7] (by kernel_rfl) (by decide) fun i hi => ?_
  rcases two2 hi with rfl | rfl
  · exact any_one _ (v := vrpI_3_0 z 0) tabok_rpI5 horpI_3_0 (trivial) (by kernel_rfl) (by kernel_rfl) (by kernel_rfl) (anrpI_3_31 hc)
  · exact any_one _ (v := .ptr 4 0) tabok_rpI5 horpI_3_7 (trivial) (by kernel_rfl) (by kernel_rfl) (by kernel_rfl) (anrpI_3_36 hc)
theorem anrpI_3_38 {z : zrpI_3} (hc : crpI_3_0 z) : arpI_3_0 z 8 136 (qrpI_3_0 z 136 [(6, .ptr 4 0)]) (HrpI_3_0 z [3]) := by
  refine any_next [0, 4] (by kernel_rfl) (by decide) fun i hi => ?_
  rcases two2 hi with rfl | rfl
  · exact any_one _ (v := vrpI_3_0 z 0) tabok_rpI5 horpI_3_0 (trivial) (by kernel_rfl) (by kernel_rfl) (by kernel_rfl) (anrpI_3_32 hc)
  · exact any_one _ (v := vrpI_3_0 z 4) tabok_rpI5 horpI_3_4 (trivial) (by kernel_rfl) (by kernel_rfl) (by kernel_rfl) (anrpI_3_36 hc)
theorem anrpI_3_39 {z : zrpI_3} (hc : crpI_3_0 z) : arpI_3_0 z 9 8 (qrpI_3_0 z 8 []) (HrpI_3_0 z []) := by
  refine any_next [0, 4, 7] (by kernel_rfl) (by decide) fun i hi => ?_
  rcases two3 hi with rfl | rfl | rfl
  · exact any_one _ (v := vrpI_3_0 z 0) tabok_rpI5 horpI_3_0 (trivial) (by kernel_rfl) (by kernel_rfl) (by kernel_rfl) (anrpI_3_33 hc)
  · exact any_one _ (v := vrpI_3_0 z 4) tabok_rpI5 horpI_3_4 (trivial) (by kernel_rfl) (by kernel_rfl) (by kernel_rfl) (anrpI_3_37 hc)
  · exact any_one _ (v := .ptr 4 0) tabok_rpI5 horpI_3_7 (trivial) (by kernel_rfl) (by kernel_rfl) (by kernel_rfl) (anrpI_3_38 hc)
theorem anrpI_3_40 {z : zrpI_3} (hc : crpI_3_0 z) : arpI_3_0 z 9 128 (qrpI_3_0 z 128 [(6, .ptr 4 0)]) (HrpI_3_0 z [3]) := by
  refine any_next [0, 3] (by kernel_rfl) (by decide) fun i hi => ?_
  rcases two2 hi with rfl | rfl
  · exact any_one _ (v := vrpI_3_0 z 0) tabok_rpI5 horpI_3_0 (trivial) (by kernel_rfl) (by kernel_rfl) (by kernel_rfl) (anrpI_3_34 hc)
  · exact any_one _ (v := vrpI_3_0 z 3) tabok_rpI5 horpI_3_3 (trivial) (by kernel_rfl) (by kernel_rfl) (by kernel_rfl) (anrpI_3_38 hc)
theorem anrpI_3_41 {z : zrpI_3} (hc : crpI_3_0 z) : arpI_3_0 z 10 0 (qrpI_3_0 z 0 []) (HrpI_3_0 z []) := by
  refine any_next [0, 3, 7] (by kernel_rfl) (by decide) fun i hi => ?_
  rcases two3 hi with rfl | rfl | rfl
  · exact any_one _ (v := vrpI_3_0 z 0) tabok_rpI5 horpI_3_0 (trivial) (by kernel_rfl) (by kernel_rfl) (by kernel_rfl) (anrpI_3_35 hc)
  · exact any_one _ (v := vrpI_3_0 z 3) tabok_rpI5 horpI_3_3 (trivial) (by kernel_rfl) (by kernel_rfl) (by kernel_rfl) (anrpI_3_39 hc)
  · exact any_one _ (v := .ptr 4 0) tabok_rpI5 horpI_3_7 (trivial) (by kernel_rfl) (by kernel_rfl) (by kernel_rfl) (anrpI_3_40 hc)
theorem tolrpI_3_0 (z0 : Int) (z3 : Bool) (z4 : List Nat) (z5 : Bool) (z6 : List Nat) (z8 : Nat) (z10 : Nat) (hc : crpI_3_0 (z0, z3, z4, z5, z6, z8, z10)) {st : St} (hl : st.t.length = 76) (et : viewT [1, 2, 4] 76 st.t = (.any :: .int .i64 z0 :: .ptr 2 0 :: .any :: .ptr 3 0 :: (anys 71 []))) (eh : st.h = [.at z3 (.fl .f32 z4), .at z5 (.fl .f32 z6), .at true (.as 1 [.sl 0 0 z8, .sl 1 0 z10]), .at true (.as 1 [.nil, .nil])]) {μ0 : Mu} {h0 : H} {w0 : World} {Q : Exit → Act → World → Prop} (hQ : ∀ μ a w, Inv μ0 h0 w0 μ (⟨(.any :: .int .i64 z0 :: .ptr 2 0 :: .any :: .ptr 3 0 :: .any :: .ptr 4 0 :: .bool true :: (anys 68 [])), [.at z3 (.fl .f32 z4), .at z5 (.fl .f32 z6), .at true (.as 1 [.sl 0 0 z8, .sl 1 0 z10]), .at true (.as 1 [.nil, .nil]), .at true (.as 1 [.sl 5 0 z8, .sl 6 0 z10]), .at true (.fl .f32 z4), .at true (.fl .f32 z6)]⟩ : St) a w → Q .normal a w) {μ : Mu} {a : Act} {w : World} (hi : Inv μ0 h0 w0 μ st a w) : (Code.region 3 opsrpI_3 true).wp Try.prog Q a w :=
  told (L0 := bitsA 10 0) (T0 := qrpI_3_0 (z0, z3, z4, z5, z6, z8, z10) 0 []) (H0 := HrpI_3_0 (z0, z3, z4, z5, z6, z8, z10) []) [1, 2, 4, 6, 7] mixed (by kernel_rfl : opsrpI_3.size = 10) (by kernel_rfl) hl (et.trans (by kernel_rfl)) (eh.trans (by kernel_rfl)) rfl (anrpI_3_41 hc) hQ hi
set_option maxRecDepth 100000 in
theorem sndrpI_3 : GSound1 Try.prog 3 opsrpI_3 true grpI_3 := by
  intro μ0 h0 w0 st st' hg Q hQ μ a w hi
  unfold grpI_3 at hg
  split at hg
  case h_2 => cases hg
  rename_i hl_
  have hl_ := of_decide_eq_true hl_
  split at hg
  case h_2 => cases hg
  rename_i z0 e1_
  split at hg
  case h_2 => cases hg
  rename_i e2_
  split at hg
  case h_2 => cases hg
  rename_i e4_
  split at hg
  case h_2 => cases hg
  rename_i z3 z4 z5 z6 z8 z10 eh_
  have hg := Option.some.inj hg
  have hc := congrArg Prod.fst hg
  have hg := congrArg Prod.snd hg
  dsimp only at hc hg
  subst hg
  obtain ⟨hc, hc1⟩ := Bool.and_eq_true_iff.mp hc
  have hc0 := hc
  exact tolrpI_3_0 z0 z3 z4 z5 z6 z8 z10 ⟨hc0, hc1⟩ hl_ ((view_congr (T0 := (.any :: .int .i64 z0 :: .ptr 2 0 :: .any :: .ptr 3 0 :: (anys 71 []))) (fun i hi => by
    simp only [List.mem_cons, List.not_mem_nil, or_false] at hi
    rcases hi with rfl | rfl | rfl
    · exact e1_.trans rfl
    · exact e2_.trans rfl
    · exact e4_.trans rfl)).trans (by kernel_rfl)) eh_ hQ hi
noncomputable def gs_rpI : GsA := fun i => if i = 3 then some (tu1 grpI_3) else none
theorem regs_rpI : (regList (codeOf Try.f7)).filter (fun p => (gs_rpI p.1).isSome) = [(3, opsrpI_3, true)] := by kernel_rfl
theorem regOk_rpI : RegOkA Try.prog gs_rpI (codeOf Try.f7) := by
  refine regOk_list _ fun p hp g hg => ?_
  have h : p ∈ (regList (codeOf Try.f7)).filter (fun p => (gs_rpI p.1).isSome) := List.mem_filter.2 ⟨hp, by rw [hg]; rfl⟩
  rw [regs_rpI] at h
  simp only [List.mem_cons, List.not_mem_nil, or_false] at h
  rcases h with rfl
  · cases hg; exact tu1_snd sndrpI_3
theorem run_rpI1 (N : Nat) (n : Nat) (m : Nat) (r0 : Bool) (l0 : List Nat) (r1 : Bool) (l1 : List Nat) : runA ty tab_rpI5 ann0 gs_rpI (N + 8) Try.f7 [.g [.sl 0 0 n, .sl 1 0 m], .int .i64 1] [.at r0 (.fl .f32 l0), .at r1 (.fl .f32 l1)]
    = (match decide (l0.length = n ∧ n < 2147483648 ∧ l1.length = m ∧ m < 2147483648) with | true => (match !(vsB l0 l1) with | true => some (.tup [.g [.nil, .nil], .a (.bool false)], [.at r0 (.fl .f32 l0), .at r1 (.fl .f32 l1)]) | false => (match ((n : Nat) : Int) == 0 with | true => some (.tup [.g [.nil, .nil], .a (.bool false)], [.at r0 (.fl .f32 l0), .at r1 (.fl .f32 l1)]) | false => (match decide (0 ≤ (0 : Int) ∧ (0 : Int) < ((m : Nat) : Int)) with | true => (match l1[0]? with | some e1 => (match decide (0 ≤ (IntKind.i64.wrap (((m : Nat) : Int) - 1) : Int) ∧ (IntKind.i64.wrap (((m : Nat) : Int) - 1) : Int) < ((m : Nat) : Int)) with | true => (match l1[0 + (IntKind.i64.wrap (((m : Nat) : Int) - 1)).toNat * 1]? with | some e2 => (match decide (e1 < 4294967296 ∧ e2 < 4294967296) with | true => (match !(sN e1 e2) with | true => some (.tup [.g [.nil, .nil], .a (.bool false)], [.at r0 (.fl .f32 l0), .at r1 (.fl .f32 l1)]) | false => (match (decide (l0.length = n ∧ 1 ≤ n ∧ n < 2147483648)) && (decide (l1.length = m ∧ 1 ≤ m ∧ m < 2147483648)) with | true => some (.tup [.g [.sl 2 0 n, .sl 3 0 m], .a (.bool true)], [.at r0 (.fl .f32 l0), .at r1 (.fl .f32 l1), .at true (.fl .f32 l0), .at true (.fl .f32 l1)]) | false => none)) | false => none) | none => none) | false => none) | none => none) | false => none))) | false => none) := by
  kernel_rfl
theorem c_rpI1 {l0 l1 : List Nat} (r0 r1 : Bool) (hl0 : l0.length < 2147483648) (hl1 : l1.length < 2147483648) (w1 : w32 l1 = true) : runA ty tab_rpI5 ann0 gs_rpI 9 Try.f7 [.g [.sl 0 0 l0.length, .sl 1 0 l1.length], .int .i64 1] [.at r0 (.fl .f32 l0), .at r1 (.fl .f32 l1)] = (match rpOk l0 l1 1 with | true => some (V.tup [.g [.sl 2 0 (rpE l0 l1 1).length, .sl 3 0 (rpM l0 l1 1).length], .a (.bool true)], ([.at r0 (.fl .f32 l0), .at r1 (.fl .f32 l1), .at true (.fl .f32 (rpE l0 l1 1)), .at true (.fl .f32 (rpM l0 l1 1))] : H)) | false => some (V.tup [.g [.nil, .nil], .a (.bool false)], ([.at r0 (.fl .f32 l0), .at r1 (.fl .f32 l1)] : H))) := by
  refine Eq.trans (run_rpI1 1 l0.length l1.length r0 l0 r1 l1) ?_
  have hd0 : decide (l0.length = l0.length ∧ l0.length < 2147483648 ∧ l1.length = l1.length ∧ l1.length < 2147483648) = true := decide_eq_true ⟨rfl, hl0, rfl, hl1⟩
  rw [hd0]
  cases v1 : vsB l0 l1 with
  | false => unfold rpOk; rw [v1]; rfl
  | true =>
  rw [show (!true) = false from rfl]
  cases hb : decide (1 ≤ l0.length) with
  | false =>
    have hb' := of_decide_eq_false hb
    rw [show (((l0.length : Nat) : Int) == 0) = true from beq_iff_eq.mpr (by omega)]
    unfold rpOk
    rw [v1, hb]
    rfl
  | true =>
  have hb' := of_decide_eq_true hb
  rw [show (((l0.length : Nat) : Int) == 0) = false from beq_eq_false_iff_ne.mpr (by omega)]
  have a1 := vs_len v1
  have jp0 := jPre_first v1 hb' w1
  have hw0 : IntKind.i64.wrap (((l0.length : Nat) : Int) - 1) = ((l0.length - 1 : Nat) : Int) := by rw [wrap_z (by omega) (by omega)]; omega
  have hw1 : IntKind.i64.wrap (((l1.length : Nat) : Int) - 1) = ((l1.length - 1 : Nat) : Int) := by rw [wrap_z (by omega) (by omega)]; omega
  have hi0 : 0 + (IntKind.i64.wrap (((l0.length : Nat) : Int) - 1)).toNat * 1 = l0.length - 1 := by rw [hw0]; exact ix
  have hi1 : 0 + (IntKind.i64.wrap (((l1.length : Nat) : Int) - 1)).toNat * 1 = l1.length - 1 := by rw [hw1]; exact ix
  have hin : inB (1) 1 5 = true := rfl
  rw [show (decide (0 ≤ (0 : Int) ∧ (0 : Int) < ((l1.length : Nat) : Int))) = true from decide_eq_true (by omega)]
  rw [show l1[0]? = some (l1.getD 0 0) from getD_some' (by omega)]
  try dsimp only
  rw [show (decide (0 ≤ (IntKind.i64.wrap (((l1.length : Nat) : Int) - 1) : Int) ∧ (IntKind.i64.wrap (((l1.length : Nat) : Int) - 1) : Int) < ((l1.length : Nat) : Int))) = true from by rw [hw1]; exact decide_eq_true (by omega)]
  rw [show l1[0 + (IntKind.i64.wrap (((l1.length : Nat) : Int) - 1)).toNat * 1]? = some (l1.getD (l1.length - 1) 0) from (by rw [hi1]; exact getD_some' (by omega))]
  try dsimp only
  rw [show (decide ((l1.getD 0 0) < 4294967296 ∧ (l1.getD (l1.length - 1) 0) < 4294967296)) = true from decide_eq_true ⟨w32_at w1 (by omega), w32_at w1 (by omega)⟩]
  cases hs : sN (l1.getD 0 0) (l1.getD (l1.length - 1) 0) with
  | false =>
    unfold rpOk
    rw [hs]
    simp only [Bool.false_and, Bool.and_false, Bool.not_false]
  | true =>
  rw [Bool.not_true]
  rw [show ((decide (l0.length = l0.length ∧ 1 ≤ l0.length ∧ l0.length < 2147483648)) && (decide (l1.length = l1.length ∧ 1 ≤ l1.length ∧ l1.length < 2147483648))) = true from by
    rw [decide_eq_true (show l0.length = l0.length ∧ 1 ≤ l0.length ∧ l0.length < 2147483648 from ⟨rfl, by omega, by omega⟩), decide_eq_true (show l1.length = l1.length ∧ 1 ≤ l1.length ∧ l1.length < 2147483648 from ⟨rfl, by omega, by omega⟩)]
    rfl]
  have hr : rpR l0 l1 1 = some (l0, l1) := by
    show rpN l0 l1 (rpG l0) 0 l0 l1 = _
    rfl
  unfold rpE rpM
  rw [show rpOk l0 l1 1 = true from by unfold rpOk; rw [v1, hb, hin, hs, hr]; rfl, hr]
  try rfl
theorem ok_rpI1 : FnT Try.prog 7 (gRpT 1) := by
  refine fnA_ok tyOk tabok_rpI5 mixed Try.func7 rfl rfl ann0 gs_rpI regOk_rpI fun vs h v h' e => ?_
  unfold gRpT at e
  split at e
  case h_2 => exact (T.no_inv e).elim
  rename_i n m t r0 l0 r1 l1
  obtain ⟨ht, e0⟩ := T.pre_inv e
  obtain rfl := of_decide_eq_true ht
  obtain ⟨hd, e1⟩ := T.pre_inv e0
  obtain ⟨rfl, hl0, rfl, hl1, w1⟩ := of_decide_eq_true hd
  refine ⟨9, (c_rpI1 r0 r1 hl0 hl1 w1).trans ?_⟩
  rw [← e1]
  all_goals (cases rpOk l0 l1 1 <;> rfl)
def an_rpI2 : Ann := ⟨fun r =>  none, fun r n => if r = 7 ∧ n = 15 then .grow else .quiet⟩
theorem run_rpI2 (N : Nat) (n : Nat) (m : Nat) (r0 : Bool) (l0 : List Nat) (r1 : Bool) (l1 : List Nat) : runA ty tab_rpI5 an_rpI2 gs_rpI (N + 8) Try.f7 [.g [.sl 0 0 n, .sl 1 0 m], .int .i64 2] [.at r0 (.fl .f32 l0), .at r1 (.fl .f32 l1)]
    = (match decide (l0.length = n ∧ n < 2147483648 ∧ l1.length = m ∧ m < 2147483648) with | true => (match !(vsB l0 l1) with | true => some (.tup [.g [.nil, .nil], .a (.bool false)], [.at r0 (.fl .f32 l0), .at r1 (.fl .f32 l1)]) | false => (match ((n : Nat) : Int) == 0 with | true => some (.tup [.g [.nil, .nil], .a (.bool false)], [.at r0 (.fl .f32 l0), .at r1 (.fl .f32 l1)]) | false => (match decide (0 ≤ (0 : Int) ∧ (0 : Int) < ((m : Nat) : Int)) with | true => (match l1[0]? with | some e1 => (match decide (0 ≤ (IntKind.i64.wrap (((m : Nat) : Int) - 1) : Int) ∧ (IntKind.i64.wrap (((m : Nat) : Int) - 1) : Int) < ((m : Nat) : Int)) with | true => (match l1[0 + (IntKind.i64.wrap (((m : Nat) : Int) - 1)).toNat * 1]? with | some e2 => (match decide (e1 < 4294967296 ∧ e2 < 4294967296) with | true => (match !(sN e1 e2) with | true => some (.tup [.g [.nil, .nil], .a (.bool false)], [.at r0 (.fl .f32 l0), .at r1 (.fl .f32 l1)]) | false => (match (decide (l0.length = n ∧ 1 ≤ n ∧ n < 2147483648)) && (decide (l1.length = m ∧ 1 ≤ m ∧ m < 2147483648)) with | true => (match decide (0 ≤ (IntKind.i64.wrap (((n : Nat) : Int) - 1) : Int) ∧ (IntKind.i64.wrap (((n : Nat) : Int) - 1) : Int) < ((n : Nat) : Int)) with | true => (match l0[0 + (IntKind.i64.wrap (((n : Nat) : Int) - 1)).toNat * 1]? with | some e3 => (match decide (0 ≤ (0 : Int) ∧ (0 : Int) < ((n : Nat) : Int)) with | true => (match l0[0]? with | some e4 => (match decide (l0.length = n ∧ l1.length = m ∧ l0.length = n ∧ l1.length = m) with | true => (match jPre l0 l1 l0 l1 with | true => (match jOk l0 l1 l0 l1 (fop .sub .f32 e3 e4) with | true => some (.tup [.g [.sl 2 0 ((jE l0 l0 (fop .sub .f32 e3 e4)).length), .sl 3 0 ((jM l1 l1).length)], .a (.bool true)], [.at r0 (.fl .f32 l0), .at r1 (.fl .f32 l1), .at true (.fl .f32 (jE l0 l0 (fop .sub .f32 e3 e4))), .at true (.fl .f32 (jM l1 l1))]) | false => some (.tup [.g [.nil, .nil], .a (.bool false)], [.at r0 (.fl .f32 l0), .at r1 (.fl .f32 l1)])) | false => none) | false => none) | none => none) | false => none) | none => none) | false => none) | false => none)) | false => none) | none => none) | false => none) | none => none) | false => none))) | false => none) := by
  kernel_rfl
theorem c_rpI2 {l0 l1 : List Nat} (r0 r1 : Bool) (hl0 : l0.length < 2147483648) (hl1 : l1.length < 2147483648) (w1 : w32 l1 = true) : runA ty tab_rpI5 an_rpI2 gs_rpI 9 Try.f7 [.g [.sl 0 0 l0.length, .sl 1 0 l1.length], .int .i64 2] [.at r0 (.fl .f32 l0), .at r1 (.fl .f32 l1)] = (match rpOk l0 l1 2 with | true => some (V.tup [.g [.sl 2 0 (rpE l0 l1 2).length, .sl 3 0 (rpM l0 l1 2).length], .a (.bool true)], ([.at r0 (.fl .f32 l0), .at r1 (.fl .f32 l1), .at true (.fl .f32 (rpE l0 l1 2)), .at true (.fl .f32 (rpM l0 l1 2))] : H)) | false => some (V.tup [.g [.nil, .nil], .a (.bool false)], ([.at r0 (.fl .f32 l0), .at r1 (.fl .f32 l1)] : H))) := by
  refine Eq.trans (run_rpI2 1 l0.length l1.length r0 l0 r1 l1) ?_
  have hd0 : decide (l0.length = l0.length ∧ l0.length < 2147483648 ∧ l1.length = l1.length ∧ l1.length < 2147483648) = true := decide_eq_true ⟨rfl, hl0, rfl, hl1⟩
  rw [hd0]
  cases v1 : vsB l0 l1 with
  | false => unfold rpOk; rw [v1]; rfl
  | true =>
  rw [show (!true) = false from rfl]
  cases hb : decide (1 ≤ l0.length) with
  | false =>
    have hb' := of_decide_eq_false hb
    rw [show (((l0.length : Nat) : Int) == 0) = true from beq_iff_eq.mpr (by omega)]
    unfold rpOk
    rw [v1, hb]
    rfl
  | true =>
  have hb' := of_decide_eq_true hb
  rw [show (((l0.length : Nat) : Int) == 0) = false from beq_eq_false_iff_ne.mpr (by omega)]
  have a1 := vs_len v1
  have jp0 := jPre_first v1 hb' w1
  have hw0 : IntKind.i64.wrap (((l0.length : Nat) : Int) - 1) = ((l0.length - 1 : Nat) : Int) := by rw [wrap_z (by omega) (by omega)]; omega
  have hw1 : IntKind.i64.wrap (((l1.length : Nat) : Int) - 1) = ((l1.length - 1 : Nat) : Int) := by rw [wrap_z (by omega) (by omega)]; omega
  have hi0 : 0 + (IntKind.i64.wrap (((l0.length : Nat) : Int) - 1)).toNat * 1 = l0.length - 1 := by rw [hw0]; exact ix
  have hi1 : 0 + (IntKind.i64.wrap (((l1.length : Nat) : Int) - 1)).toNat * 1 = l1.length - 1 := by rw [hw1]; exact ix
  have hin : inB (2) 1 5 = true := rfl
  rw [show (decide (0 ≤ (0 : Int) ∧ (0 : Int) < ((l1.length : Nat) : Int))) = true from decide_eq_true (by omega)]
  rw [show l1[0]? = some (l1.getD 0 0) from getD_some' (by omega)]
  try dsimp only
  rw [show (decide (0 ≤ (IntKind.i64.wrap (((l1.length : Nat) : Int) - 1) : Int) ∧ (IntKind.i64.wrap (((l1.length : Nat) : Int) - 1) : Int) < ((l1.length : Nat) : Int))) = true from by rw [hw1]; exact decide_eq_true (by omega)]
  rw [show l1[0 + (IntKind.i64.wrap (((l1.length : Nat) : Int) - 1)).toNat * 1]? = some (l1.getD (l1.length - 1) 0) from (by rw [hi1]; exact getD_some' (by omega))]
  try dsimp only
  rw [show (decide ((l1.getD 0 0) < 4294967296 ∧ (l1.getD (l1.length - 1) 0) < 4294967296)) = true from decide_eq_true ⟨w32_at w1 (by omega), w32_at w1 (by omega)⟩]
  cases hs : sN (l1.getD 0 0) (l1.getD (l1.length - 1) 0) with
  | false =>
    unfold rpOk
    rw [hs]
    simp only [Bool.false_and, Bool.and_false, Bool.not_false]
  | true =>
  rw [Bool.not_true]
  rw [show ((decide (l0.length = l0.length ∧ 1 ≤ l0.length ∧ l0.length < 2147483648)) && (decide (l1.length = l1.length ∧ 1 ≤ l1.length ∧ l1.length < 2147483648))) = true from by
    rw [decide_eq_true (show l0.length = l0.length ∧ 1 ≤ l0.length ∧ l0.length < 2147483648 from ⟨rfl, by omega, by omega⟩), decide_eq_true (show l1.length = l1.length ∧ 1 ≤ l1.length ∧ l1.length < 2147483648 from ⟨rfl, by omega, by omega⟩)]
    rfl]
  rw [show (decide (0 ≤ (IntKind.i64.wrap (((l0.length : Nat) : Int) - 1) : Int) ∧ (IntKind.i64.wrap (((l0.length : Nat) : Int) - 1) : Int) < ((l0.length : Nat) : Int))) = true from by rw [hw0]; exact decide_eq_true (by omega)]
  rw [show l0[0 + (IntKind.i64.wrap (((l0.length : Nat) : Int) - 1)).toNat * 1]? = some (l0.getD (l0.length - 1) 0) from (by rw [hi0]; exact getD_some' (by omega))]
  try dsimp only
  rw [show (decide (0 ≤ (0 : Int) ∧ (0 : Int) < ((l0.length : Nat) : Int))) = true from decide_eq_true (by omega)]
  rw [show l0[0]? = some (l0.getD 0 0) from getD_some' (by omega)]
  try dsimp only
  rw [show (decide (l0.length = l0.length ∧ l1.length = l1.length ∧ l0.length = l0.length ∧ l1.length = l1.length)) = true from decide_eq_true (by omega)]
  rw [show fop .sub .f32 (l0.getD (l0.length - 1) 0) (l0.getD 0 0) = rpG l0 from rfl]
  have jp0_ : jPre l0 l1 l0 l1 = true := jp0
  rw [jp0_]
  cases h1 : jOk l0 l1 l0 l1 (rpG l0) with
  | false =>
    have hr : rpR l0 l1 2 = none := by
      show rpN l0 l1 (rpG l0) 1 l0 l1 = none
      simp only [rpN, h1]
    unfold rpOk
    rw [hr, v1, hb]
    simp only [Option.isSome_none, Bool.and_false]
  | true =>
  have hr : rpR l0 l1 2 = some ((jE l0 l0 (rpG l0)), (jM l1 l1)) := by
    show rpN l0 l1 (rpG l0) 1 l0 l1 = _
    simp only [rpN, h1]
  unfold rpE rpM
  rw [show rpOk l0 l1 2 = true from by unfold rpOk; rw [v1, hb, hin, hs, hr]; rfl, hr]
  try rfl
theorem ok_rpI2 : FnT Try.prog 7 (gRpT 2) := by
  refine fnA_ok tyOk tabok_rpI5 mixed Try.func7 rfl rfl an_rpI2 gs_rpI regOk_rpI fun vs h v h' e => ?_
  unfold gRpT at e
  split at e
  case h_2 => exact (T.no_inv e).elim
  rename_i n m t r0 l0 r1 l1
  obtain ⟨ht, e0⟩ := T.pre_inv e
  obtain rfl := of_decide_eq_true ht
  obtain ⟨hd, e1⟩ := T.pre_inv e0
  obtain ⟨rfl, hl0, rfl, hl1, w1⟩ := of_decide_eq_true hd
  refine ⟨9, (c_rpI2 r0 r1 hl0 hl1 w1).trans ?_⟩
  rw [← e1]
  all_goals (cases rpOk l0 l1 2 <;> rfl)
def an_rpI3 : Ann := ⟨fun r =>  none, fun r n => if r = 7 ∧ n = 15 then .grow else .quiet⟩
theorem run_rpI3 (N : Nat) (n : Nat) (m : Nat) (r0 : Bool) (l0 : List Nat) (r1 : Bool) (l1 : List Nat) : runA ty tab_rpI5 an_rpI3 gs_rpI (N + 8) Try.f7 [.g [.sl 0 0 n, .sl 1 0 m], .int .i64 3] [.at r0 (.fl .f32 l0), .at r1 (.fl .f32 l1)]
    = (match decide (l0.length = n ∧ n < 2147483648 ∧ l1.length = m ∧ m < 2147483648) with | true => (match !(vsB l0 l1) with | true => some (.tup [.g [.nil, .nil], .a (.bool false)], [.at r0 (.fl .f32 l0), .at r1 (.fl .f32 l1)]) | false => (match ((n : Nat) : Int) == 0 with | true => some (.tup [.g [.nil, .nil], .a (.bool false)], [.at r0 (.fl .f32 l0), .at r1 (.fl .f32 l1)]) | false => (match decide (0 ≤ (0 : Int) ∧ (0 : Int) < ((m : Nat) : Int)) with | true => (match l1[0]? with | some e1 => (match decide (0 ≤ (IntKind.i64.wrap (((m : Nat) : Int) - 1) : Int) ∧ (IntKind.i64.wrap (((m : Nat) : Int) - 1) : Int) < ((m : Nat) : Int)) with | true => (match l1[0 + (IntKind.i64.wrap (((m : Nat) : Int) - 1)).toNat * 1]? with | some e2 => (match decide (e1 < 4294967296 ∧ e2 < 4294967296) with | true => (match !(sN e1 e2) with | true => some (.tup [.g [.nil, .nil], .a (.bool false)], [.at r0 (.fl .f32 l0), .at r1 (.fl .f32 l1)]) | false => (match (decide (l0.length = n ∧ 1 ≤ n ∧ n < 2147483648)) && (decide (l1.length = m ∧ 1 ≤ m ∧ m < 2147483648)) with | true => (match decide (0 ≤ (IntKind.i64.wrap (((n : Nat) : Int) - 1) : Int) ∧ (IntKind.i64.wrap (((n : Nat) : Int) - 1) : Int) < ((n : Nat) : Int)) with | true => (match l0[0 + (IntKind.i64.wrap (((n : Nat) : Int) - 1)).toNat * 1]? with | some e3 => (match decide (0 ≤ (0 : Int) ∧ (0 : Int) < ((n : Nat) : Int)) with | true => (match l0[0]? with | some e4 => (match decide (l0.length = n ∧ l1.length = m ∧ l0.length = n ∧ l1.length = m) with | true => (match jPre l0 l1 l0 l1 with | true => (match jOk l0 l1 l0 l1 (fop .sub .f32 e3 e4) with | true => (match decide (0 ≤ (IntKind.i64.wrap (((n : Nat) : Int) - 1) : Int) ∧ (IntKind.i64.wrap (((n : Nat) : Int) - 1) : Int) < ((n : Nat) : Int)) with | true => (match l0[0 + (IntKind.i64.wrap (((n : Nat) : Int) - 1)).toNat * 1]? with | some e5 => (match decide (0 ≤ (0 : Int) ∧ (0 : Int) < ((n : Nat) : Int)) with | true => (match l0[0]? with | some e6 => (match decide ((jE l0 l0 (fop .sub .f32 e3 e4)).length = (jE l0 l0 (fop .sub .f32 e3 e4)).length ∧ (jM l1 l1).length = (jM l1 l1).length ∧ l0.length = n ∧ l1.length = m) with | true => (match jPre (jE l0 l0 (fop .sub .f32 e3 e4)) (jM l1 l1) l0 l1 with | true => (match jOk (jE l0 l0 (fop .sub .f32 e3 e4)) (jM l1 l1) l0 l1 (fop .sub .f32 e5 e6) with | true => some (.tup [.g [.sl 2 0 ((jE (jE l0 l0 (fop .sub .f32 e3 e4)) l0 (fop .sub .f32 e5 e6)).length), .sl 3 0 ((jM (jM l1 l1) l1).length)], .a (.bool true)], [.at r0 (.fl .f32 l0), .at r1 (.fl .f32 l1), .at true (.fl .f32 (jE (jE l0 l0 (fop .sub .f32 e3 e4)) l0 (fop .sub .f32 e5 e6))), .at true (.fl .f32 (jM (jM l1 l1) l1))]) | false => some (.tup [.g [.nil, .nil], .a (.bool false)], [.at r0 (.fl .f32 l0), .at r1 (.fl .f32 l1)])) | false => none) | false => none) | none => none) | false => none) | none => none) | false => none) | false => some (.tup [.g [.nil, .nil], .a (.bool false)], [.at r0 (.fl .f32 l0), .at r1 (.fl .f32 l1)])) | false => none) | false => none) | none => none) | false => none) | none => none) | false => none) | false => none)) | false => none) | none => none) | false => none) | none => none) | false => none))) | false => none) := by
  kernel_rfl
theorem c_rpI3 {l0 l1 : List Nat} (r0 r1 : Bool) (hl0 : l0.length < 2147483648) (hl1 : l1.length < 2147483648) (w1 : w32 l1 = true) : runA ty tab_rpI5 an_rpI3 gs_rpI 9 Try.f7 [.g [.sl 0 0 l0.length, .sl 1 0 l1.length], .int .i64 3] [.at r0 (.fl .f32 l0), .at r1 (.fl .f32 l1)] = (match rpOk l0 l1 3 with | true => some (V.tup [.g [.sl 2 0 (rpE l0 l1 3).length, .sl 3 0 (rpM l0 l1 3).length], .a (.bool true)], ([.at r0 (.fl .f32 l0), .at r1 (.fl .f32 l1), .at true (.fl .f32 (rpE l0 l1 3)), .at true (.fl .f32 (rpM l0 l1 3))] : H)) | false => some (V.tup [.g [.nil, .nil], .a (.bool false)], ([.at r0 (.fl .f32 l0), .at r1 (.fl .f32 l1)] : H))) := by
  refine Eq.trans (run_rpI3 1 l0.length l1.length r0 l0 r1 l1) ?_
  have hd0 : decide (l0.length = l0.length ∧ l0.length < 2147483648 ∧ l1.length = l1.length ∧ l1.length < 2147483648) = true := decide_eq_true ⟨rfl, hl0, rfl, hl1⟩
  rw [hd0]
  cases v1 : vsB l0 l1 with
  | false => unfold rpOk; rw [v1]; rfl
  | true =>
  rw [show (!true) = false from rfl]
  cases hb : decide (1 ≤ l0.length) with
  | false =>
    have hb' := of_decide_eq_false hb
    rw [show (((l0.length : Nat) : Int) == 0) = true from beq_iff_eq.mpr (by omega)]
    unfold rpOk
    rw [v1, hb]
    rfl
  | true =>
  have hb' := of_decide_eq_true hb
  rw [show (((l0.length : Nat) : Int) == 0) = false from beq_eq_false_iff_ne.mpr (by omega)]
  have a1 := vs_len v1
  have jp0 := jPre_first v1 hb' w1
  have hw0 : IntKind.i64.wrap (((l0.length : Nat) : Int) - 1) = ((l0.length - 1 : Nat) : Int) := by rw [wrap_z (by omega) (by omega)]; omega
  have hw1 : IntKind.i64.wrap (((l1.length : Nat) : Int) - 1) = ((l1.length - 1 : Nat) : Int) := by rw [wrap_z (by omega) (by omega)]; omega
  have hi0 : 0 + (IntKind.i64.wrap (((l0.length : Nat) : Int) - 1)).toNat * 1 = l0.length - 1 := by rw [hw0]; exact ix
  have hi1 : 0 + (IntKind.i64.wrap (((l1.length : Nat) : Int) - 1)).toNat * 1 = l1.length - 1 := by rw [hw1]; exact ix
  have hin : inB (3) 1 5 = true := rfl
  rw [show (decide (0 ≤ (0 : Int) ∧ (0 : Int) < ((l1.length : Nat) : Int))) = true from decide_eq_true (by omega)]
  rw [show l1[0]? = some (l1.getD 0 0) from getD_some' (by omega)]
  try dsimp only
  rw [show (decide (0 ≤ (IntKind.i64.wrap (((l1.length : Nat) : Int) - 1) : Int) ∧ (IntKind.i64.wrap (((l1.length : Nat) : Int) - 1) : Int) < ((l1.length : Nat) : Int))) = true from by rw [hw1]; exact decide_eq_true (by omega)]
  rw [show l1[0 + (IntKind.i64.wrap (((l1.length : Nat) : Int) - 1)).toNat * 1]? = some (l1.getD (l1.length - 1) 0) from (by rw [hi1]; exact getD_some' (by omega))]
  try dsimp only
  rw [show (decide ((l1.getD 0 0) < 4294967296 ∧ (l1.getD (l1.length - 1) 0) < 4294967296)) = true from decide_eq_true ⟨w32_at w1 (by omega), w32_at w1 (by omega)⟩]
  cases hs : sN (l1.getD 0 0) (l1.getD (l1.length - 1) 0) with
  | false =>
    unfold rpOk
    rw [hs]
    simp only [Bool.false_and, Bool.and_false, Bool.not_false]
  | true =>
  rw [Bool.not_true]
  rw [show ((decide (l0.length = l0.length ∧ 1 ≤ l0.length ∧ l0.length < 2147483648)) && (decide (l1.length = l1.length ∧ 1 ≤ l1.length ∧ l1.length < 2147483648))) = true from by
    rw [decide_eq_true (show l0.length = l0.length ∧ 1 ≤ l0.length ∧ l0.length < 2147483648 from ⟨rfl, by omega, by omega⟩), decide_eq_true (show l1.length = l1.length ∧ 1 ≤ l1.length ∧ l1.length < 2147483648 from ⟨rfl, by omega, by omega⟩)]
    rfl]
  rw [show (decide (0 ≤ (IntKind.i64.wrap (((l0.length : Nat) : Int) - 1) : Int) ∧ (IntKind.i64.wrap (((l0.length : Nat) : Int) - 1) : Int) < ((l0.length : Nat) : Int))) = true from by rw [hw0]; exact decide_eq_true (by omega)]
  rw [show l0[0 + (IntKind.i64.wrap (((l0.length : Nat) : Int) - 1)).toNat * 1]? = some (l0.getD (l0.length - 1) 0) from (by rw [hi0]; exact getD_some' (by omega))]
  try dsimp only
  rw [show (decide (0 ≤ (0 : Int) ∧ (0 : Int) < ((l0.length : Nat) : Int))) = true from decide_eq_true (by omega)]
  rw [show l0[0]? = some (l0.getD 0 0) from getD_some' (by omega)]
  try dsimp only
  rw [show (decide (l0.length = l0.length ∧ l1.length = l1.length ∧ l0.length = l0.length ∧ l1.length = l1.length)) = true from decide_eq_true (by omega)]
  rw [show fop .sub .f32 (l0.getD (l0.length - 1) 0) (l0.getD 0 0) = rpG l0 from rfl]
  have jp0_ : jPre l0 l1 l0 l1 = true := jp0
  rw [jp0_]
  cases h1 : jOk l0 l1 l0 l1 (rpG l0) with
  | false =>
    have hr : rpR l0 l1 3 = none := by
      show rpN l0 l1 (rpG l0) 2 l0 l1 = none
      simp only [rpN, h1]
    unfold rpOk
    rw [hr, v1, hb]
    simp only [Option.isSome_none, Bool.and_false]
  | true =>
  rw [show (decide ((jE l0 l0 (rpG l0)).length = (jE l0 l0 (rpG l0)).length ∧ (jM l1 l1).length = (jM l1 l1).length ∧ l0.length = l0.length ∧ l1.length = l1.length)) = true from decide_eq_true (by omega)]
  have jp1 : jPre (jE l0 l0 (rpG l0)) (jM l1 l1) l0 l1 = true := jPre_next jp0 h1
  rw [jp1]
  cases h2 : jOk (jE l0 l0 (rpG l0)) (jM l1 l1) l0 l1 (rpG l0) with
  | false =>
    have hr : rpR l0 l1 3 = none := by
      show rpN l0 l1 (rpG l0) 2 l0 l1 = none
      simp only [rpN, h1, h2]
    unfold rpOk
    rw [hr, v1, hb]
    simp only [Option.isSome_none, Bool.and_false]
  | true =>
  have hr : rpR l0 l1 3 = some ((jE (jE l0 l0 (rpG l0)) l0 (rpG l0)), (jM (jM l1 l1) l1)) := by
    show rpN l0 l1 (rpG l0) 2 l0 l1 = _
    simp only [rpN, h1, h2]
  unfold rpE rpM
  rw [show rpOk l0 l1 3 = true from by unfold rpOk; rw [v1, hb, hin, hs, hr]; rfl, hr]
  try rfl
theorem ok_rpI3 : FnT Try.prog 7 (gRpT 3) := by
  refine fnA_ok tyOk tabok_rpI5 mixed Try.func7 rfl rfl an_rpI3 gs_rpI regOk_rpI fun vs h v h' e => ?_
  unfold gRpT at e
  split at e
  case h_2 => exact (T.no_inv e).elim
  rename_i n m t r0 l0 r1 l1
  obtain ⟨ht, e0⟩ := T.pre_inv e
  obtain rfl := of_decide_eq_true ht
  obtain ⟨hd, e1⟩ := T.pre_inv e0
  obtain ⟨rfl, hl0, rfl, hl1, w1⟩ := of_decide_eq_true hd
  refine ⟨9, (c_rpI3 r0 r1 hl0 hl1 w1).trans ?_⟩
  rw [← e1]
  all_goals (cases rpOk l0 l1 3 <;> rfl)
def an_rpI4 : Ann := ⟨fun r =>  none, fun r n => if r = 7 ∧ n = 15 then .grow else .quiet⟩
theorem run_rpI4 (N : Nat) (n : Nat) (m : Nat) (r0 : Bool) (l0 : List Nat) (r1 : Bool) (l1 : List Nat) : runA ty tab_rpI5 an_rpI4 gs_rpI (N + 8) Try.f7 [.g [.sl 0 0 n, .sl 1 0 m], .int .i64 4] [.at r0 (.fl .f32 l0), .at r1 (.fl .f32 l1)]
    = (match decide (l0.length = n ∧ n < 2147483648 ∧ l1.length = m ∧ m < 2147483648) with | true => (match !(vsB l0 l1) with | true => some (.tup [.g [.nil, .nil], .a (.bool false)], [.at r0 (.fl .f32 l0), .at r1 (.fl .f32 l1)]) | false => (match ((n : Nat) : Int) == 0 with | true => some (.tup [.g [.nil, .nil], .a (.bool false)], [.at r0 (.fl .f32 l0), .at r1 (.fl .f32 l1)]) | false => (match decide (0 ≤ (0 : Int) ∧ (0 : Int) < ((m : Nat) : Int)) with | true => (match l1[0]? with | some e1 => (match decide (0 ≤ (IntKind.i64.wrap (((m : Nat) : Int) - 1) : Int) ∧ (IntKind.i64.wrap (((m : Nat) : Int) - 1) : Int) < ((m : Nat) : Int)) with | true => (match l1[0 + (IntKind.i64.wrap (((m : Nat) : Int) - 1)).toNat * 1]? with | some e2 => (match decide (e1 < 4294967296 ∧ e2 < 4294967296) with | true => (match !(sN e1 e2) with | true => some (.tup [.g [.nil, .nil], .a (.bool false)], [.at r0 (.fl .f32 l0), .at r1 (.fl .f32 l1)]) | false => (match (decide (l0.length = n ∧ 1 ≤ n ∧ n < 2147483648)) && (decide (l1.length = m ∧ 1 ≤ m ∧ m < 2147483648)) with | true => (match decide (0 ≤ (IntKind.i64.wrap (((n : Nat) : Int) - 1) : Int) ∧ (IntKind.i64.wrap (((n : Nat) : Int) - 1) : Int) < ((n : Nat) : Int)) with | true => (match l0[0 + (IntKind.i64.wrap (((n : Nat) : Int) - 1)).toNat * 1]? with | some e3 => (match decide (0 ≤ (0 : Int) ∧ (0 : Int) < ((n : Nat) : Int)) with | true => (match l0[0]? with | some e4 => (match decide (l0.length = n ∧ l1.length = m ∧ l0.length = n ∧ l1.length = m) with | true => (match jPre l0 l1 l0 l1 with | true => (match jOk l0 l1 l0 l1 (fop .sub .f32 e3 e4) with | true => (match decide (0 ≤ (IntKind.i64.wrap (((n : Nat) : Int) - 1) : Int) ∧ (IntKind.i64.wrap (((n : Nat) : Int) - 1) : Int) < ((n : Nat) : Int)) with | true => (match l0[0 + (IntKind.i64.wrap (((n : Nat) : Int) - 1)).toNat * 1]? with | some e5 => (match decide (0 ≤ (0 : Int) ∧ (0 : Int) < ((n : Nat) : Int)) with | true => (match l0[0]? with | some e6 => (match decide ((jE l0 l0 (fop .sub .f32 e3 e4)).length = (jE l0 l0 (fop .sub .f32 e3 e4)).length ∧ (jM l1 l1).length = (jM l1 l1).length ∧ l0.length = n ∧ l1.length = m) with | true => (match jPre (jE l0 l0 (fop .sub .f32 e3 e4)) (jM l1 l1) l0 l1 with | true => (match jOk (jE l0 l0 (fop .sub .f32 e3 e4)) (jM l1 l1) l0 l1 (fop .sub .f32 e5 e6) with | true => (match decide (0 ≤ (IntKind.i64.wrap (((n : Nat) : Int) - 1) : Int) ∧ (IntKind.i64.wrap (((n : Nat) : Int) - 1) : Int) < ((n : Nat) : Int)) with | true => (match l0[0 + (IntKind.i64.wrap (((n : Nat) : Int) - 1)).toNat * 1]? with | some e7 => (match decide (0 ≤ (0 : Int) ∧ (0 : Int) < ((n : Nat) : Int)) with | true => (match l0[0]? with | some e8 => (match decide ((jE (jE l0 l0 (fop .sub .f32 e3 e4)) l0 (fop .sub .f32 e5 e6)).length = (jE (jE l0 l0 (fop .sub .f32 e3 e4)) l0 (fop .sub .f32 e5 e6)).length ∧ (jM (jM l1 l1) l1).length = (jM (jM l1 l1) l1).length ∧ l0.length = n ∧ l1.length = m) with | true => (match jPre (jE (jE l0 l0 (fop .sub .f32 e3 e4)) l0 (fop .sub .f32 e5 e6)) (jM (jM l1 l1) l1) l0 l1 with | true => (match jOk (jE (jE l0 l0 (fop .sub .f32 e3 e4)) l0 (fop .sub .f32 e5 e6)) (jM (jM l1 l1) l1) l0 l1 (fop .sub .f32 e7 e8) with | true => some (.tup [.g [.sl 2 0 ((jE (jE (jE l0 l0 (fop .sub .f32 e3 e4)) l0 (fop .sub .f32 e5 e6)) l0 (fop .sub .f32 e7 e8)).length), .sl 3 0 ((jM (jM (jM l1 l1) l1) l1).length)], .a (.bool true)], [.at r0 (.fl .f32 l0), .at r1 (.fl .f32 l1), .at true (.fl .f32 (jE (jE (jE l0 l0 (fop .sub .f32 e3 e4)) l0 (fop .sub .f32 e5 e6)) l0 (fop .sub .f32 e7 e8))), .at true (.fl .f32 (jM (jM (jM l1 l1) l1) l1))]) | false => some (.tup [.g [.nil, .nil], .a (.bool false)], [.at r0 (.fl .f32 l0), .at r1 (.fl .f32 l1)])) | false => none) | false => none) | none => none) | false => none) | none => none) | false => none) | false => some (.tup [.g [.nil, .nil], .a (.bool false)], [.at r0 (.fl .f32 l0), .at r1 (.fl .f32 l1)])) | false => none) | false => none) | none => none) | false => none) | none => none) | false => none) | false => some (.tup [.g [.nil, .nil], .a (.bool false)], [.at r0 (.fl .f32 l0), .at r1 (.fl .f32 l1)])) | false => none) | false => none) | none => none) | false => none) | none => none) | false => none) | false => none)) | false => none) | none => none) | false => none) | none => none) | false => none))) | false => none) := by
  kernel_rfl
theorem c_rpI4 {l0 l1 : List Nat} (r0 r1 : Bool) (hl0 : l0.length < 2147483648) (hl1 : l1.length < 2147483648) (w1 : w32 l1 = true) : runA ty tab_rpI5 an_rpI4 gs_rpI 9 Try.f7 [.g [.sl 0 0 l0.length, .sl 1 0 l1.length], .int .i64 4] [.at r0 (.fl .f32 l0), .at r1 (.fl .f32 l1)] = (match rpOk l0 l1 4 with | true => some (V.tup [.g [.sl 2 0 (rpE l0 l1 4).length, .sl 3 0 (rpM l0 l1 4).length], .a (.bool true)], ([.at r0 (.fl .f32 l0), .at r1 (.fl .f32 l1), .at true (.fl .f32 (rpE l0 l1 4)), .at true (.fl .f32 (rpM l0 l1 4))] : H)) | false => some (V.tup [.g [.nil, .nil], .a (.bool false)], ([.at r0 (.fl .f32 l0), .at r1 (.fl .f32 l1)] : H))) := by
  refine Eq.trans (run_rpI4 1 l0.length l1.length r0 l0 r1 l1) ?_
  have hd0 : decide (l0.length = l0.length ∧ l0.length < 2147483648 ∧ l1.length = l1.length ∧ l1.length < 2147483648) = true := decide_eq_true ⟨rfl, hl0, rfl, hl1⟩
  rw [hd0]
  cases v1 : vsB l0 l1 with
  | false => unfold rpOk; rw [v1]; rfl
  | true =>
  rw [show (!true) = false from rfl]
  cases hb : decide (1 ≤ l0.length) with
  | false =>
    have hb' := of_decide_eq_false hb
    rw [show (((l0.length : Nat) : Int) == 0) = true from beq_iff_eq.mpr (by omega)]
    unfold rpOk
    rw [v1, hb]
    rfl
  | true =>
  have hb' := of_decide_eq_true hb
  rw [show (((l0.length : Nat) : Int) == 0) = false from beq_eq_false_iff_ne.mpr (by omega)]
  have a1 := vs_len v1
  have jp0 := jPre_first v1 hb' w1
  have hw0 : IntKind.i64.wrap (((l0.length : Nat) : Int) - 1) = ((l0.length - 1 : Nat) : Int) := by rw [wrap_z (by omega) (by omega)]; omega
  have hw1 : IntKind.i64.wrap (((l1.length : Nat) : Int) - 1) = ((l1.length - 1 : Nat) : Int) := by rw [wrap_z (by omega) (by omega)]; omega
  have hi0 : 0 + (IntKind.i64.wrap (((l0.length : Nat) : Int) - 1)).toNat * 1 = l0.length - 1 := by rw [hw0]; exact ix
  have hi1 : 0 + (IntKind.i64.wrap (((l1.length : Nat) : Int) - 1)).toNat * 1 = l1.length - 1 := by rw [hw1]; exact ix
  have hin : inB (4) 1 5 = true := rfl
  rw [show (decide (0 ≤ (0 : Int) ∧ (0 : Int) < ((l1.length : Nat) : Int))) = true from decide_eq_true (by omega)]
  rw [show l1[0]? = some (l1.getD 0 0) from getD_some' (by omega)]
  try dsimp only
  rw [show (decide (0 ≤ (IntKind.i64.wrap (((l1.length : Nat) : Int) - 1) : Int) ∧ (IntKind.i64.wrap (((l1.length : Nat) : Int) - 1) : Int) < ((l1.length : Nat) : Int))) = true from by rw [hw1]; exact decide_eq_true (by omega)]
  rw [show l1[0 + (IntKind.i64.wrap (((l1.length : Nat) : Int) - 1)).toNat * 1]? = some (l1.getD (l1.length - 1) 0) from (by rw [hi1]; exact getD_some' (by omega))]
  try dsimp only
  rw [show (decide ((l1.getD 0 0) < 4294967296 ∧ (l1.getD (l1.length - 1) 0) < 4294967296)) = true from decide_eq_true ⟨w32_at w1 (by omega), w32_at w1 (by omega)⟩]
  cases hs : sN (l1.getD 0 0) (l1.getD (l1.length - 1) 0) with
  | false =>
    unfold rpOk
    rw [hs]
    simp only [Bool.false_and, Bool.and_false, Bool.not_false]
  | true =>
  rw [Bool.not_true]
  rw [show ((decide (l0.length = l0.length ∧ 1 ≤ l0.length ∧ l0.length < 2147483648)) && (decide (l1.length = l1.length ∧ 1 ≤ l1.length ∧ l1.length < 2147483648))) = true from by
    rw [decide_eq_true (show l0.length = l0.length ∧ 1 ≤ l0.length ∧ l0.length < 2147483648 from ⟨rfl, by omega, by omega⟩), decide_eq_true (show l1.length = l1.length ∧ 1 ≤ l1.length ∧ l1.length < 2147483648 from ⟨rfl, by omega, by omega⟩)]
    rfl]
  rw [show (decide (0 ≤ (IntKind.i64.wrap (((l0.length : Nat) : Int) - 1) : Int) ∧ (IntKind.i64.wrap (((l0.length : Nat) : Int) - 1) : Int) < ((l0.length : Nat) : Int))) = true from by rw [hw0]; exact decide_eq_true (by omega)]
  rw [show l0[0 + (IntKind.i64.wrap (((l0.length : Nat) : Int) - 1)).toNat * 1]? = some (l0.getD (l0.length - 1) 0) from (by rw [hi0]; exact getD_some' (by omega))]
  try dsimp only
  rw [show (decide (0 ≤ (0 : Int) ∧ (0 : Int) < ((l0.length : Nat) : Int))) = true from decide_eq_true (by omega)]
  rw [show l0[0]? = some (l0.getD 0 0) from getD_some' (by omega)]
  try dsimp only
  rw [show (decide (l0.length = l0.length ∧ l1.length = l1.length ∧ l0.length = l0.length ∧ l1.length = l1.length)) = true from decide_eq_true (by omega)]
  rw [show fop .sub .f32 (l0.getD (l0.length - 1) 0) (l0.getD 0 0) = rpG l0 from rfl]
  have jp0_ : jPre l0 l1 l0 l1 = true := jp0
  rw [jp0_]
  cases h1 : jOk l0 l1 l0 l1 (rpG l0) with
  | false =>
    have hr : rpR l0 l1 4 = none := by
      show rpN l0 l1 (rpG l0) 3 l0 l1 = none
      simp only [rpN, h1]
    unfold rpOk
    rw [hr, v1, hb]
    simp only [Option.isSome_none, Bool.and_false]
  | true =>
  rw [show (decide ((jE l0 l0 (rpG l0)).length = (jE l0 l0 (rpG l0)).length ∧ (jM l1 l1).length = (jM l1 l1).length ∧ l0.length = l0.length ∧ l1.length = l1.length)) = true from decide_eq_true (by omega)]
  have jp1 : jPre (jE l0 l0 (rpG l0)) (jM l1 l1) l0 l1 = true := jPre_next jp0 h1
  rw [jp1]
  cases h2 : jOk (jE l0 l0 (rpG l0)) (jM l1 l1) l0 l1 (rpG l0) with
  | false =>
    have hr : rpR l0 l1 4 = none := by
      show rpN l0 l1 (rpG l0) 3 l0 l1 = none
      simp only [rpN, h1, h2]
    unfold rpOk
    rw [hr, v1, hb]
    simp only [Option.isSome_none, Bool.and_false]
  | true =>
  rw [show (decide ((jE (jE l0 l0 (rpG l0)) l0 (rpG l0)).length = (jE (jE l0 l0 (rpG l0)) l0 (rpG l0)).length ∧ (jM (jM l1 l1) l1).length = (jM (jM l1 l1) l1).length ∧ l0.length = l0.length ∧ l1.length = l1.length)) = true from decide_eq_true (by omega)]
  have jp2 : jPre (jE (jE l0 l0 (rpG l0)) l0 (rpG l0)) (jM (jM l1 l1) l1) l0 l1 = true := jPre_next jp1 h2
  rw [jp2]
  cases h3 : jOk (jE (jE l0 l0 (rpG l0)) l0 (rpG l0)) (jM (jM l1 l1) l1) l0 l1 (rpG l0) with
  | false =>
    have hr : rpR l0 l1 4 = none := by
      show rpN l0 l1 (rpG l0) 3 l0 l1 = none
      simp only [rpN, h1, h2, h3]
    unfold rpOk
    rw [hr, v1, hb]
    simp only [Option.isSome_none, Bool.and_false]
  | true =>
  have hr : rpR l0 l1 4 = some ((jE (jE (jE l0 l0 (rpG l0)) l0 (rpG l0)) l0 (rpG l0)), (jM (jM (jM l1 l1) l1) l1)) := by
    show rpN l0 l1 (rpG l0) 3 l0 l1 = _
    simp only [rpN, h1, h2, h3]
  unfold rpE rpM
  rw [show rpOk l0 l1 4 = true from by unfold rpOk; rw [v1, hb, hin, hs, hr]; rfl, hr]
  try rfl
theorem ok_rpI4 : FnT Try.prog 7 (gRpT 4) := by
  refine fnA_ok tyOk tabok_rpI5 mixed Try.func7 rfl rfl an_rpI4 gs_rpI regOk_rpI fun vs h v h' e => ?_
  unfold gRpT at e
  split at e
  case h_2 => exact (T.no_inv e).elim
  rename_i n m t r0 l0 r1 l1
  obtain ⟨ht, e0⟩ := T.pre_inv e
  obtain rfl := of_decide_eq_true ht
  obtain ⟨hd, e1⟩ := T.pre_inv e0
  obtain ⟨rfl, hl0, rfl, hl1, w1⟩ := of_decide_eq_true hd
  refine ⟨9, (c_rpI4 r0 r1 hl0 hl1 w1).trans ?_⟩
  rw [← e1]
  all_goals (cases rpOk l0 l1 4 <;> rfl)
def an_rpI5 : Ann := ⟨fun r =>  none, fun r n => if r = 7 ∧ n = 15 then .grow else .quiet⟩
theorem run_rpI5 (N : Nat) (n : Nat) (m : Nat) (r0 : Bool) (l0 : List Nat) (r1 : Bool) (l1 : List Nat) : runA ty tab_rpI5 an_rpI5 gs_rpI (N + 8) Try.f7 [.g [.sl 0 0 n, .sl 1 0 m], .int .i64 5] [.at r0 (.fl .f32 l0), .at r1 (.fl .f32 l1)]
    = (match decide (l0.length = n ∧ n < 2147483648 ∧ l1.length = m ∧ m < 2147483648) with | true => (match !(vsB l0 l1) with | true => some (.tup [.g [.nil, .nil], .a (.bool false)], [.at r0 (.fl .f32 l0), .at r1 (.fl .f32 l1)]) | false => (match ((n : Nat) : Int) == 0 with | true => some (.tup [.g [.nil, .nil], .a (.bool false)], [.at r0 (.fl .f32 l0), .at r1 (.fl .f32 l1)]) | false => (match decide (0 ≤ (0 : Int) ∧ (0 : Int) < ((m : Nat) : Int)) with | true => (match l1[0]? with | some e1 => (match decide (0 ≤ (IntKind.i64.wrap (((m : Nat) : Int) - 1) : Int) ∧ (IntKind.i64.wrap (((m : Nat) : Int) - 1) : Int) < ((m : Nat) : Int)) with | true => (match l1[0 + (IntKind.i64.wrap (((m : Nat) : Int) - 1)).toNat * 1]? with | some e2 => (match decide (e1 < 4294967296 ∧ e2 < 4294967296) with | true => (match !(sN e1 e2) with | true => some (.tup [.g [.nil, .nil], .a (.bool false)], [.at r0 (.fl .f32 l0), .at r1 (.fl .f32 l1)]) | false => (match (decide (l0.length = n ∧ 1 ≤ n ∧ n < 2147483648)) && (decide (l1.length = m ∧ 1 ≤ m ∧ m < 2147483648)) with | true => (match decide (0 ≤ (IntKind.i64.wrap (((n : Nat) : Int) - 1) : Int) ∧ (IntKind.i64.wrap (((n : Nat) : Int) - 1) : Int) < ((n : Nat) : Int)) with | true => (match l0[0 + (IntKind.i64.wrap (((n : Nat) : Int) - 1)).toNat * 1]? with | some e3 => (match decide (0 ≤ (0 : Int) ∧ (0 : Int) < ((n : Nat) : Int)) with | true => (match l0[0]? with | some e4 => (match decide (l0.length = n ∧ l1.length = m ∧ l0.length = n ∧ l1.length = m) with | true => (match jPre l0 l1 l0 l1 with | true => (match jOk l0 l1 l0 l1 (fop .sub .f32 e3 e4) with | true => (match decide (0 ≤ (IntKind.i64.wrap (((n : Nat) : Int) - 1) : Int) ∧ (IntKind.i64.wrap (((n : Nat) : Int) - 1) : Int) < ((n : Nat) : Int)) with | true => (match l0[0 + (IntKind.i64.wrap (((n : Nat) : Int) - 1)).toNat * 1]? with | some e5 => (match decide (0 ≤ (0 : Int) ∧ (0 : Int) < ((n : Nat) : Int)) with | true => (match l0[0]? with | some e6 => (match decide ((jE l0 l0 (fop .sub .f32 e3 e4)).length = (jE l0 l0 (fop .sub .f32 e3 e4)).length ∧ (jM l1 l1).length = (jM l1 l1).length ∧ l0.length = n ∧ l1.length = m) with | true => (match jPre (jE l0 l0 (fop .sub .f32 e3 e4)) (jM l1 l1) l0 l1 with | true => (match jOk (jE l0 l0 (fop .sub .f32 e3 e4)) (jM l1 l1) l0 l1 (fop .sub .f32 e5 e6) with | true => (match decide (0 ≤ (IntKind.i64.wrap (((n : Nat) : Int) - 1) : Int) ∧ (IntKind.i64.wrap (((n : Nat) : Int) - 1) : Int) < ((n : Nat) : Int)) with | true => (match l0[0 + (IntKind.i64.wrap (((n : Nat) : Int) - 1)).toNat * 1]? with | some e7 => (match decide (0 ≤ (0 : Int) ∧ (0 : Int) < ((n : Nat) : Int)) with | true => (match l0[0]? with | some e8 => (match decide ((jE (jE l0 l0 (fop .sub .f32 e3 e4)) l0 (fop .sub .f32 e5 e6)).length = (jE (jE l0 l0 (fop .sub .f32 e3 e4)) l0 (fop .sub .f32 e5 e6)).length ∧ (jM (jM l1 l1) l1).length = (jM (jM l1 l1) l1).length ∧ l0.length = n ∧ l1.length = m) with | true => (match jPre (jE (jE l0 l0 (fop .sub .f32 e3 e4)) l0 (fop .sub .f32 e5 e6)) (jM (jM l1 l1) l1) l0 l1 with | true => (match jOk (jE (jE l0 l0 (fop .sub .f32 e3 e4)) l0 (fop .sub .f32 e5 e6)) (jM (jM l1 l1) l1) l0 l1 (fop .sub .f32 e7 e8) with | true => (match decide (0 ≤ (IntKind.i64.wrap (((n : Nat) : Int) - 1) : Int) ∧ (IntKind.i64.wrap (((n : Nat) : Int) - 1) : Int) < ((n : Nat) : Int)) with | true => (match l0[0 + (IntKind.i64.wrap (((n : Nat) : Int) - 1)).toNat * 1]? with | some e9 => (match decide (0 ≤ (0 : Int) ∧ (0 : Int) < ((n : Nat) : Int)) with | true => (match l0[0]? with | some e10 => (match decide ((jE (jE (jE l0 l0 (fop .sub .f32 e3 e4)) l0 (fop .sub .f32 e5 e6)) l0 (fop .sub .f32 e7 e8)).length = (jE (jE (jE l0 l0 (fop .sub .f32 e3 e4)) l0 (fop .sub .f32 e5 e6)) l0 (fop .sub .f32 e7 e8)).length ∧ (jM (jM (jM l1 l1) l1) l1).length = (jM (jM (jM l1 l1) l1) l1).length ∧ l0.length = n ∧ l1.length = m) with | true => (match jPre (jE (jE (jE l0 l0 (fop .sub .f32 e3 e4)) l0 (fop .sub .f32 e5 e6)) l0 (fop .sub .f32 e7 e8)) (jM (jM (jM l1 l1) l1) l1) l0 l1 with | true => (match jOk (jE (jE (jE l0 l0 (fop .sub .f32 e3 e4)) l0 (fop .sub .f32 e5 e6)) l0 (fop .sub .f32 e7 e8)) (jM (jM (jM l1 l1) l1) l1) l0 l1 (fop .sub .f32 e9 e10) with | true => some (.tup [.g [.sl 2 0 ((jE (jE (jE (jE l0 l0 (fop .sub .f32 e3 e4)) l0 (fop .sub .f32 e5 e6)) l0 (fop .sub .f32 e7 e8)) l0 (fop .sub .f32 e9 e10)).length), .sl 3 0 ((jM (jM (jM (jM l1 l1) l1) l1) l1).length)], .a (.bool true)], [.at r0 (.fl .f32 l0), .at r1 (.fl .f32 l1), .at true (.fl .f32 (jE (jE (jE (jE l0 l0 (fop .sub .f32 e3 e4)) l0 (fop .sub .f32 e5 e6)) l0 (fop .sub .f32 e7 e8)) l0 (fop .sub .f32 e9 e10))), .at true (.fl .f32 (jM (jM (jM (jM l1 l1) l1) l1) l1))]) | false => some (.tup [.g [.nil, .nil], .a (.bool false)], [.at r0 (.fl .f32 l0), .at r1 (.fl .f32 l1)])) | false => none) | false => none) | none => none) | false => none) | none => none) | false => none) | false => some (.tup [.g [.nil, .nil], .a (.bool false)], [.at r0 (.fl .f32 l0), .at r1 (.fl .f32 l1)])) | false => none) | false => none) | none => none) | false => none) | none => none) | false => none) | false => some (.tup [.g [.nil, .nil], .a (.bool false)], [.at r0 (.fl .f32 l0), .at r1 (.fl .f32 l1)])) | false => none) | false => none) | none => none) | false => none) | none => none) | false => none) | false => some (.tup [.g [.nil, .nil], .a (.bool false)], [.at r0 (.fl .f32 l0), .at r1 (.fl .f32 l1)])) | false => none) | false => none) | none => none) | false => none) | none => none) | false => none) | false => none)) | false => none) | none => none) | false => none) | none => none) | false => none))) | false => none) := by
  kernel_rfl
theorem c_rpI5 {l0 l1 : List Nat} (r0 r1 : Bool) (hl0 : l0.length < 2147483648) (hl1 : l1.length < 2147483648) (w1 : w32 l1 = true) : runA ty tab_rpI5 an_rpI5 gs_rpI 9 Try.f7 [.g [.sl 0 0 l0.length, .sl 1 0 l1.length], .int .i64 5] [.at r0 (.fl .f32 l0), .at r1 (.fl .f32 l1)] = (match rpOk l0 l1 5 with | true => some (V.tup [.g [.sl 2 0 (rpE l0 l1 5).length, .sl 3 0 (rpM l0 l1 5).length], .a (.bool true)], ([.at r0 (.fl .f32 l0), .at r1 (.fl .f32 l1), .at true (.fl .f32 (rpE l0 l1 5)), .at true (.fl .f32 (rpM l0 l1 5))] : H)) | false => some (V.tup [.g [.nil, .nil], .a (.bool false)], ([.at r0 (.fl .f32 l0), .at r1 (.fl .f32 l1)] : H))) := by
  refine Eq.trans (run_rpI5 1 l0.length l1.length r0 l0 r1 l1) ?_
  have hd0 : decide (l0.length = l0.length ∧ l0.length < 2147483648 ∧ l1.length = l1.length ∧ l1.length < 2147483648) = true := decide_eq_true ⟨rfl, hl0, rfl, hl1⟩
  rw [hd0]
  cases v1 : vsB l0 l1 with
  | false => unfold rpOk; rw [v1]; rfl
  | true =>
  rw [show (!true) = false from rfl]
  cases hb : decide (1 ≤ l0.length) with
  | false =>
    have hb' := of_decide_eq_false hb
    rw [show (((l0.length : Nat) : Int) == 0) = true from beq_iff_eq.mpr (by omega)]
    unfold rpOk
    rw [v1, hb]
    rfl
  | true =>
  have hb' := of_decide_eq_true hb
  rw [show (((l0.length : Nat) : Int) == 0) = false from beq_eq_false_iff_ne.mpr (by omega)]
  have a1 := vs_len v1
  have jp0 := jPre_first v1 hb' w1
  have hw0 : IntKind.i64.wrap (((l0.length : Nat) : Int) - 1) = ((l0.length - 1 : Nat) : Int) := by rw [wrap_z (by omega) (by omega)]; omega
  have hw1 : IntKind.i64.wrap (((l1.length : Nat) : Int) - 1) = ((l1.length - 1 : Nat) : Int) := by rw [wrap_z (by omega) (by omega)]; omega
  have hi0 : 0 + (IntKind.i64.wrap (((l0.length : Nat) : Int) - 1)).toNat * 1 = l0.length - 1 := by rw [hw0]; exact ix
  have hi1 : 0 + (IntKind.i64.wrap (((l1.length : Nat) : Int) - 1)).toNat * 1 = l1.length - 1 := by rw [hw1]; exact ix
  have hin : inB (5) 1 5 = true := rfl
  rw [show (decide (0 ≤ (0 : Int) ∧ (0 : Int) < ((l1.length : Nat) : Int))) = true from decide_eq_true (by omega)]
  rw [show l1[0]? = some (l1.getD 0 0) from getD_some' (by omega)]
  try dsimp only
  rw [show (decide (0 ≤ (IntKind.i64.wrap (((l1.length : Nat) : Int) - 1) : Int) ∧ (IntKind.i64.wrap (((l1.length : Nat) : Int) - 1) : Int) < ((l1.length : Nat) : Int))) = true from by rw [hw1]; exact decide_eq_true (by omega)]
  rw [show l1[0 + (IntKind.i64.wrap (((l1.length : Nat) : Int) - 1)).toNat * 1]? = some (l1.getD (l1.length - 1) 0) from (by rw [hi1]; exact getD_some' (by omega))]
  try dsimp only
  rw [show (decide ((l1.getD 0 0) < 4294967296 ∧ (l1.getD (l1.length - 1) 0) < 4294967296)) = true from decide_eq_true ⟨w32_at w1 (by omega), w32_at w1 (by omega)⟩]
  cases hs : sN (l1.getD 0 0) (l1.getD (l1.length - 1) 0) with
  | false =>
    unfold rpOk
    rw [hs]
    simp only [Bool.false_and, Bool.and_false, Bool.not_false]
  | true =>
  rw [Bool.not_true]
  rw [show ((decide (l0.length = l0.length ∧ 1 ≤ l0.length ∧ l0.length < 2147483648)) && (decide (l1.length = l1.length ∧ 1 ≤ l1.length ∧ l1.length < 2147483648))) = true from by
    rw [decide_eq_true (show l0.length = l0.length ∧ 1 ≤ l0.length ∧ l0.length < 2147483648 from ⟨rfl, by omega, by omega⟩), decide_eq_true (show l1.length = l1.length ∧ 1 ≤ l1.length ∧ l1.length < 2147483648 from ⟨rfl, by omega, by omega⟩)]
    rfl]
  rw [show (decide (0 ≤ (IntKind.i64.wrap (((l0.length : Nat) : Int) - 1) : Int) ∧ (IntKind.i64.wrap (((l0.length : Nat) : Int) - 1) : Int) < ((l0.length : Nat) : Int))) = true from by rw [hw0]; exact decide_eq_true (by omega)]
  rw [show l0[0 + (IntKind.i64.wrap (((l0.length : Nat) : Int) - 1)).toNat * 1]? = some (l0.getD (l0.length - 1) 0) from (by rw [hi0]; exact getD_some' (by omega))]
  try dsimp only
  rw [show (decide (0 ≤ (0 : Int) ∧ (0 : Int) < ((l0.length : Nat) : Int))) = true from decide_eq_true (by omega)]
  rw [show l0[0]? = some (l0.getD 0 0) from getD_some' (by omega)]
  try dsimp only
  rw [show (decide (l0.length = l0.length ∧ l1.length = l1.length ∧ l0.length = l0.length ∧ l1.length = l1.length)) = true from decide_eq_true (by omega)]
  rw [show fop .sub .f32 (l0.getD (l0.length - 1) 0) (l0.getD 0 0) = rpG l0 from rfl]
  have jp0_ : jPre l0 l1 l0 l1 = true := jp0
  rw [jp0_]
  cases h1 : jOk l0 l1 l0 l1 (rpG l0) with
  | false =>
    have hr : rpR l0 l1 5 = none := by
      show rpN l0 l1 (rpG l0) 4 l0 l1 = none
      simp only [rpN, h1]
    unfold rpOk
    rw [hr, v1, hb]
    simp only [Option.isSome_none, Bool.and_false]
  | true =>
  rw [show (decide ((jE l0 l0 (rpG l0)).length = (jE l0 l0 (rpG l0)).length ∧ (jM l1 l1).length = (jM l1 l1).length ∧ l0.length = l0.length ∧ l1.length = l1.length)) = true from decide_eq_true (by omega)]
  have jp1 : jPre (jE l0 l0 (rpG l0)) (jM l1 l1) l0 l1 = true := jPre_next jp0 h1
  rw [jp1]
  cases h2 : jOk (jE l0 l0 (rpG l0)) (jM l1 l1) l0 l1 (rpG l0) with
  | false =>
    have hr : rpR l0 l1 5 = none := by
      show rpN l0 l1 (rpG l0) 4 l0 l1 = none
      simp only [rpN, h1, h2]
    unfold rpOk
    rw [hr, v1, hb]
    simp only [Option.isSome_none, Bool.and_false]
  | true =>
  rw [show (decide ((jE (jE l0 l0 (rpG l0)) l0 (rpG l0)).length = (jE (jE l0 l0 (rpG l0)) l0 (rpG l0)).length ∧ (jM (jM l1 l1) l1).length = (jM (jM l1 l1) l1).length ∧ l0.length = l0.length ∧ l1.length = l1.length)) = true from decide_eq_true (by omega)]
  have jp2 : jPre (jE (jE l0 l0 (rpG l0)) l0 (rpG l0)) (jM (jM l1 l1) l1) l0 l1 = true := jPre_next jp1 h2
  rw [jp2]
  cases h3 : jOk (jE (jE l0 l0 (rpG l0)) l0 (rpG l0)) (jM (jM l1 l1) l1) l0 l1 (rpG l0) with
  | false =>
    have hr : rpR l0 l1 5 = none := by
      show rpN l0 l1 (rpG l0) 4 l0 l1 = none
      simp only [rpN, h1, h2, h3]
    unfold rpOk
    rw [hr, v1, hb]
    simp only [Option.isSome_none, Bool.and_false]
  | true =>
  rw [show (decide ((jE (jE (jE l0 l0 (rpG l0)) l0 (rpG l0)) l0 (rpG l0)).length = (jE (jE (jE l0 l0 (rpG l0)) l0 (rpG l0)) l0 (rpG l0)).length ∧ (jM (jM (jM l1 l1) l1) l1).length = (jM (jM (jM l1 l1) l1) l1).length ∧ l0.length = l0.length ∧ l1.length = l1.length)) = true from decide_eq_true (by omega)]
  have jp3 : jPre (jE (jE (jE l0 l0 (rpG l0)) l0 (rpG l0)) l0 (rpG l0)) (jM (jM (jM l1 l1) l1) l1) l0 l1 = true := jPre_next jp2 h3
  rw [jp3]
  cases h4 : jOk (jE (jE (jE l0 l0 (rpG l0)) l0 (rpG l0)) l0 (rpG l0)) (jM (jM (jM l1 l1) l1) l1) l0 l1 (rpG l0) with
  | false =>
    have hr : rpR l0 l1 5 = none := by
      show rpN l0 l1 (rpG l0) 4 l0 l1 = none
      simp only [rpN, h1, h2, h3, h4]
    unfold rpOk
    rw [hr, v1, hb]
    simp only [Option.isSome_none, Bool.and_false]
  | true =>
  have hr : rpR l0 l1 5 = some ((jE (jE (jE (jE l0 l0 (rpG l0)) l0 (rpG l0)) l0 (rpG l0)) l0 (rpG l0)), (jM (jM (jM (jM l1 l1) l1) l1) l1)) := by
    show rpN l0 l1 (rpG l0) 4 l0 l1 = _
    simp only [rpN, h1, h2, h3, h4]
  unfold rpE rpM
  rw [show rpOk l0 l1 5 = true from by unfold rpOk; rw [v1, hb, hin, hs, hr]; rfl, hr]
  try rfl
theorem ok_rpI5 : FnT Try.prog 7 (gRpT 5) := by
  refine fnA_ok tyOk tabok_rpI5 mixed Try.func7 rfl rfl an_rpI5 gs_rpI regOk_rpI fun vs h v h' e => ?_
  unfold gRpT at e
  split at e
  case h_2 => exact (T.no_inv e).elim
  rename_i n m t r0 l0 r1 l1
  obtain ⟨ht, e0⟩ := T.pre_inv e
  obtain rfl := of_decide_eq_true ht
  obtain ⟨hd, e1⟩ := T.pre_inv e0
  obtain ⟨rfl, hl0, rfl, hl1, w1⟩ := of_decide_eq_true hd
  refine ⟨9, (c_rpI5 r0 r1 hl0 hl1 w1).trans ?_⟩
  rw [← e1]
  all_goals (cases rpOk l0 l1 5 <;> rfl)
end Go.Proofs.Ythjncajdognojaa.Ab

namespace Go.Proofs.Ythjncajdognojaa.Ab
set_option linter.unusedVariables false
set_option linter.unusedSimpArgs false
open Go
def gInF : GT := fun vs h => match vs, h with | [.int .i64 n, .int .i64 a, .int .i64 b], [] => .ite (inB n a b) .no (.ret (.bool false) []) | _, _ => .no
theorem inF {f : FuncId} (h : FnT Try.prog f (gT gIn)) : FnT Try.prog f gInF := fun vs hp v h' e => h vs hp v h' (by
  unfold gInF at e
  split at e
  · rename_i n a b
    show (T.of (some (V.bool (inB n a b), []))).run = _
    rw [← e]
    cases hs : inB n a b
    · rfl
    · rw [hs] at e
      exact (T.no_inv e).elim
  · exact (T.no_inv e).elim)
def gRpF : GT := fun vs h => match vs, h with
  | [.g [.sl 0 0 n, .sl 1 0 m], .int .i64 t], [.at r0 (.fl .f32 l0), .at r1 (.fl .f32 l1)] => .ite (inB t 1 5) .no (gRp [.g [.sl 0 0 n, .sl 1 0 m], .int .i64 t] [.at r0 (.fl .f32 l0), .at r1 (.fl .f32 l1)])
  | _, _ => .no
noncomputable def tab_rpIF : Fns := tabT [(18, gVs), (19, gInF)]
theorem tabok_rpIF : ∀ f, FnT Try.prog f (tab_rpIF f) := (tabT_cons (k := 18) ok_vsI (tabT_cons (k := 19) (inF ok_within) tabT_nil))
theorem run_rpIF (N : Nat) (n : Nat) (m : Nat) (t : Int) (r0 : Bool) (l0 : List Nat) (r1 : Bool) (l1 : List Nat) : run ty tab_rpIF ann0 N Try.f7 [.g [.sl 0 0 n, .sl 1 0 m], .int .i64 t] [.at r0 (.fl .f32 l0), .at r1 (.fl .f32 l1)]
    = (match decide (l0.length = n ∧ n < 2147483648 ∧ l1.length = m ∧ m < 2147483648) with | true => (match !(vsB l0 l1) with | true => some (.tup [.g [.nil, .nil], .a (.bool false)], [.at r0 (.fl .f32 l0), .at r1 (.fl .f32 l1)]) | false => (match ((n : Nat) : Int) == 0 with | true => some (.tup [.g [.nil, .nil], .a (.bool false)], [.at r0 (.fl .f32 l0), .at r1 (.fl .f32 l1)]) | false => (match inB t 1 5 with | true => none | false => some (.tup [.g [.nil, .nil], .a (.bool false)], [.at r0 (.fl .f32 l0), .at r1 (.fl .f32 l1)])))) | false => none) := by
  kernel_rfl
theorem ok_rpIF : FnT Try.prog 7 gRpF := by
  refine fnT tabok_rpIF Try.func7 rfl rfl ann0 fun vs h v h' e => ?_
  unfold gRpF at e
  split at e
  case h_2 => exact (T.no_inv e).elim
  rename_i n m t r0 l0 r1 l1
  obtain ⟨_, e0⟩ | ⟨hin, e0⟩ := T.ite_inv e
  · exact (T.no_inv e0).elim
  obtain ⟨hd, e1⟩ := T.pre_inv e0
  obtain ⟨rfl, hl0, rfl, hl1, w1⟩ := of_decide_eq_true hd
  refine ⟨9, (run_rpIF 9 l0.length l1.length t r0 l0 r1 l1).trans ?_⟩
  rw [← e1]
  clear e e0 e1 hd
  have hd0 : decide (l0.length = l0.length ∧ l0.length < 2147483648 ∧ l1.length = l1.length ∧ l1.length < 2147483648) = true := decide_eq_true ⟨rfl, hl0, rfl, hl1⟩
  rw [hd0]
  cases v1 : vsB l0 l1 with
  | false => unfold rpOk; rw [v1]; rfl
  | true =>
  rw [show (!true) = false from rfl]
  cases hb : decide (1 ≤ l0.length) with
  | false =>
    have hb' := of_decide_eq_false hb
    rw [show (((l0.length : Nat) : Int) == 0) = true from beq_iff_eq.mpr (by omega)]
    unfold rpOk
    rw [v1, hb]
    rfl
  | true =>
  have hb' := of_decide_eq_true hb
  rw [show (((l0.length : Nat) : Int) == 0) = false from beq_eq_false_iff_ne.mpr (by omega)]
  have a1 := vs_len v1
  have jp0 := jPre_first v1 hb' w1
  have hw0 : IntKind.i64.wrap (((l0.length : Nat) : Int) - 1) = ((l0.length - 1 : Nat) : Int) := by rw [wrap_z (by omega) (by omega)]; omega
  have hw1 : IntKind.i64.wrap (((l1.length : Nat) : Int) - 1) = ((l1.length - 1 : Nat) : Int) := by rw [wrap_z (by omega) (by omega)]; omega
  have hi0 : 0 + (IntKind.i64.wrap (((l0.length : Nat) : Int) - 1)).toNat * 1 = l0.length - 1 := by rw [hw0]; exact ix
  have hi1 : 0 + (IntKind.i64.wrap (((l1.length : Nat) : Int) - 1)).toNat * 1 = l1.length - 1 := by rw [hw1]; exact ix
  rw [hin]
  unfold rpOk
  rw [v1, hb, hin]
  rfl
theorem ok_rpI : FnT Try.prog 7 gRp := fun vs hp v h' e => by
  have e' := e
  unfold gRp at e'
  split at e'
  case h_2 => exact (T.no_inv e').elim
  rename_i n m t r0 l0 r1 l1
  cases hin : inB t 1 5 with
  | false =>
    refine ok_rpIF _ _ _ _ ?_
    show (T.ite (inB t 1 5) .no (gRp _ _)).run = _
    rw [hin]
    exact e
  | true =>
    have ht := inB_of hin
    have h5 : t = 1 ∨ t = 2 ∨ t = 3 ∨ t = 4 ∨ t = 5 := by omega
    rcases h5 with rfl | rfl | rfl | rfl | rfl
    · exact ok_rpI1 _ _ _ _ e
    · exact ok_rpI2 _ _ _ _ e
    · exact ok_rpI3 _ _ _ _ e
    · exact ok_rpI4 _ _ _ _ e
    · exact ok_rpI5 _ _ _ _ e
end Go.Proofs.Ythjncajdognojaa.Ab

namespace Go.Proofs.Ythjncajdognojaa.Ab
set_option linter.unusedVariables false
set_option linter.unusedSimpArgs false
open Go
theorem rpN_vs {l0 l1 : List Nat} {g : Nat} : ∀ (k : Nat) (e m : List Nat) (q : List Nat × List Nat), vsB e m = true → rpN l0 l1 g k e m = some q → vsB q.1 q.2 = true
  | 0, e, m, q, hv, h => by
    cases h
    exact hv
  | k + 1, e, m, q, hv, h => by
    rw [rpN] at h
    cases hj : jOk e m l0 l1 g with
    | false => rw [hj] at h; cases h
    | true =>
      rw [hj] at h
      unfold jOk at hj
      simp only [Bool.and_eq_true] at hj
      exact rpN_vs k _ _ q hj.2.2 h
theorem rp_len {l0 l1 : List Nat} {t : Int} (h : rpOk l0 l1 t = true) : (rpE l0 l1 t).length < 100 ∧ (rpM l0 l1 t).length < 100 := by
  unfold rpOk at h
  simp only [Bool.and_eq_true] at h
  obtain ⟨hv, _, _, _, hr⟩ := h
  obtain ⟨q, hq⟩ := Option.isSome_iff_exists.mp hr
  have h1 := vs_len (rpN_vs _ _ _ q hv hq)
  unfold rpE rpM
  rw [hq]
  show q.1.length < 100 ∧ q.2.length < 100
  omega
theorem w32_of {l : List Nat} (h : ∀ z ∈ l, z < 4294967296) : w32 l = true := by
  unfold w32
  rw [List.all_eq_true]
  intro z hz
  exact decide_eq_true (h z hz)
def tab_A_stlawsszFloat32S_0 : Fns := tabT []
theorem tabok_A_stlawsszFloat32S_0 : ∀ f, FnT Try.prog f (tab_A_stlawsszFloat32S_0 f) := tabT_nil
theorem run_A_stlawsszFloat32S_0 (N : Nat) (a0n : Nat) (a1 : Int) (r0 : Bool) (l0 : List Nat) : run ty tab_A_stlawsszFloat32S_0 ann0 N Try.f11 [.sl 0 0 a0n, .int .i64 a1] [.at r0 (.fl .f32 l0)]
    = (match decide ((IntKind.i64.wrap (a1 - ((a0n : Nat) : Int)) : Int) < 0) with | true => some (.int .i64 (-1), [.at r0 (.fl .f32 l0)]) | false => some (.int .i64 (IntKind.i64.wrap (a1 - ((a0n : Nat) : Int))), [.at r0 (.fl .f32 l0)])) := by
  kernel_rfl
def tab_A_stlawsszFloat32S_1 : Fns := tabT []
theorem tabok_A_stlawsszFloat32S_1 : ∀ f, FnT Try.prog f (tab_A_stlawsszFloat32S_1 f) := tabT_nil
theorem run_A_stlawsszFloat32S_1 (N : Nat) (a1 : Int) : run ty tab_A_stlawsszFloat32S_1 ann0 N Try.f11 [.nil, .int .i64 a1] []
    = (match decide ((IntKind.i64.wrap (a1 - 0) : Int) < 0) with | true => some (.int .i64 (-1), []) | false => some (.int .i64 (IntKind.i64.wrap (a1 - 0)), [])) := by
  kernel_rfl
def gA_stlawsszFloat32S : GT := fun vs h => match vs, h with
  | [.sl 0 0 a0n, .int .i64 a1], [.at r0 (.fl .f32 l0)] => .ite (decide ((IntKind.i64.wrap (a1 - ((a0n : Nat) : Int)) : Int) < 0)) (.ret (.int .i64 (-1)) [.at r0 (.fl .f32 l0)]) (.ret (.int .i64 (IntKind.i64.wrap (a1 - ((a0n : Nat) : Int)))) [.at r0 (.fl .f32 l0)])
  | [.nil, .int .i64 a1], [] => .ite (decide ((IntKind.i64.wrap (a1 - 0) : Int) < 0)) (.ret (.int .i64 (-1)) []) (.ret (.int .i64 (IntKind.i64.wrap (a1 - 0))) [])
  | _, _ => .no
theorem okA_stlawsszFloat32S : FnT Try.prog 11 gA_stlawsszFloat32S := by
  intro vs hp v h' e
  unfold gA_stlawsszFloat32S at e
  split at e
  · exact FnT.runs tabok_A_stlawsszFloat32S_0 Try.func11 rfl rfl ann0 0 _ _ v h' (by rw [T.run_of]; exact Eq.trans (run_A_stlawsszFloat32S_0 0 _ _ _ _) e)
  · exact FnT.runs tabok_A_stlawsszFloat32S_1 Try.func11 rfl rfl ann0 0 _ _ v h' (by rw [T.run_of]; exact Eq.trans (run_A_stlawsszFloat32S_1 0 _) e)
  · exact (T.no_inv e).elim
def tab_A_stlawsszSteps_0 : Fns := tabT [(11, gA_stlawsszFloat32S)]
theorem tabok_A_stlawsszSteps_0 : ∀ f, FnT Try.prog f (tab_A_stlawsszSteps_0 f) := (tabT_cons (k := 11) okA_stlawsszFloat32S tabT_nil)
theorem run_A_stlawsszSteps_0 (N : Nat) (a0_0n : Nat) (a0_1n : Nat) (a1 : Int) (r0 : Bool) (l0 : List Nat) (r1 : Bool) (l1 : List Nat) : run ty tab_A_stlawsszSteps_0 ann0 N Try.f4 [.g [.sl 0 0 a0_0n, .sl 1 0 a0_1n], .int .i64 a1] [.at r0 (.fl .f32 l0), .at r1 (.fl .f32 l1)]
    = (match decide ((IntKind.i64.wrap (a1 - ((a0_0n : Nat) : Int)) : Int) < 0) with | true => some (.int .i64 (-1), [.at r0 (.fl .f32 l0), .at r1 (.fl .f32 l1)]) | false => (match decide ((IntKind.i64.wrap (a1 - ((a0_0n : Nat) : Int)) : Int) < 0) with | true => some (.int .i64 (-1), [.at r0 (.fl .f32 l0), .at r1 (.fl .f32 l1)]) | false => (match decide ((IntKind.i64.wrap ((IntKind.i64.wrap (a1 - ((a0_0n : Nat) : Int))) - ((a0_1n : Nat) : Int)) : Int) < 0) with | true => some (.int .i64 (-1), [.at r0 (.fl .f32 l0), .at r1 (.fl .f32 l1)]) | false => (match decide ((IntKind.i64.wrap ((IntKind.i64.wrap (a1 - ((a0_0n : Nat) : Int))) - ((a0_1n : Nat) : Int)) : Int) < 0) with | true => some (.int .i64 (-1), [.at r0 (.fl .f32 l0), .at r1 (.fl .f32 l1)]) | false => some (.int .i64 (IntKind.i64.wrap ((IntKind.i64.wrap (a1 - ((a0_0n : Nat) : Int))) - ((a0_1n : Nat) : Int))), [.at r0 (.fl .f32 l0), .at r1 (.fl .f32 l1)]))))) := by
  kernel_rfl
def tab_A_stlawsszSteps_1 : Fns := tabT [(11, gA_stlawsszFloat32S)]
theorem tabok_A_stlawsszSteps_1 : ∀ f, FnT Try.prog f (tab_A_stlawsszSteps_1 f) := (tabT_cons (k := 11) okA_stlawsszFloat32S tabT_nil)
theorem run_A_stlawsszSteps_1 (N : Nat) (a0_0n : Nat) (a1 : Int) (r0 : Bool) (l0 : List Nat) : run ty tab_A_stlawsszSteps_1 ann0 N Try.f4 [.g [.sl 0 0 a0_0n, .nil], .int .i64 a1] [.at r0 (.fl .f32 l0)]
    = (match decide ((IntKind.i64.wrap (a1 - ((a0_0n : Nat) : Int)) : Int) < 0) with | true => some (.int .i64 (-1), [.at r0 (.fl .f32 l0)]) | false => (match decide ((IntKind.i64.wrap (a1 - ((a0_0n : Nat) : Int)) : Int) < 0) with | true => some (.int .i64 (-1), [.at r0 (.fl .f32 l0)]) | false => (match decide ((IntKind.i64.wrap ((IntKind.i64.wrap (a1 - ((a0_0n : Nat) : Int))) - 0) : Int) < 0) with | true => some (.int .i64 (-1), [.at r0 (.fl .f32 l0)]) | false => (match decide ((IntKind.i64.wrap ((IntKind.i64.wrap (a1 - ((a0_0n : Nat) : Int))) - 0) : Int) < 0) with | true => some (.int .i64 (-1), [.at r0 (.fl .f32 l0)]) | false => some (.int .i64 (IntKind.i64.wrap ((IntKind.i64.wrap (a1 - ((a0_0n : Nat) : Int))) - 0)), [.at r0 (.fl .f32 l0)]))))) := by
  kernel_rfl
def tab_A_stlawsszSteps_2 : Fns := tabT [(11, gA_stlawsszFloat32S)]
theorem tabok_A_stlawsszSteps_2 : ∀ f, FnT Try.prog f (tab_A_stlawsszSteps_2 f) := (tabT_cons (k := 11) okA_stlawsszFloat32S tabT_nil)
theorem run_A_stlawsszSteps_2 (N : Nat) (a0_1n : Nat) (a1 : Int) (r0 : Bool) (l0 : List Nat) : run ty tab_A_stlawsszSteps_2 ann0 N Try.f4 [.g [.nil, .sl 0 0 a0_1n], .int .i64 a1] [.at r0 (.fl .f32 l0)]
    = (match decide ((IntKind.i64.wrap (a1 - 0) : Int) < 0) with | true => some (.int .i64 (-1), [.at r0 (.fl .f32 l0)]) | false => (match decide ((IntKind.i64.wrap (a1 - 0) : Int) < 0) with | true => some (.int .i64 (-1), [.at r0 (.fl .f32 l0)]) | false => (match decide ((IntKind.i64.wrap ((IntKind.i64.wrap (a1 - 0)) - ((a0_1n : Nat) : Int)) : Int) < 0) with | true => some (.int .i64 (-1), [.at r0 (.fl .f32 l0)]) | false => (match decide ((IntKind.i64.wrap ((IntKind.i64.wrap (a1 - 0)) - ((a0_1n : Nat) : Int)) : Int) < 0) with | true => some (.int .i64 (-1), [.at r0 (.fl .f32 l0)]) | false => some (.int .i64 (IntKind.i64.wrap ((IntKind.i64.wrap (a1 - 0)) - ((a0_1n : Nat) : Int))), [.at r0 (.fl .f32 l0)]))))) := by
  kernel_rfl
def tab_A_stlawsszSteps_3 : Fns := tabT [(11, gA_stlawsszFloat32S)]
theorem tabok_A_stlawsszSteps_3 : ∀ f, FnT Try.prog f (tab_A_stlawsszSteps_3 f) := (tabT_cons (k := 11) okA_stlawsszFloat32S tabT_nil)
theorem run_A_stlawsszSteps_3 (N : Nat) (a1 : Int) : run ty tab_A_stlawsszSteps_3 ann0 N Try.f4 [.g [.nil, .nil], .int .i64 a1] []
    = (match decide ((IntKind.i64.wrap (a1 - 0) : Int) < 0) with | true => some (.int .i64 (-1), []) | false => (match decide ((IntKind.i64.wrap (a1 - 0) : Int) < 0) with | true => some (.int .i64 (-1), []) | false => (match decide ((IntKind.i64.wrap ((IntKind.i64.wrap (a1 - 0)) - 0) : Int) < 0) with | true => some (.int .i64 (-1), []) | false => (match decide ((IntKind.i64.wrap ((IntKind.i64.wrap (a1 - 0)) - 0) : Int) < 0) with | true => some (.int .i64 (-1), []) | false => some (.int .i64 (IntKind.i64.wrap ((IntKind.i64.wrap (a1 - 0)) - 0)), []))))) := by
  kernel_rfl
def gA_stlawsszSteps : GT := fun vs h => match vs, h with
  | [.g [.sl 0 0 a0_0n, .sl 1 0 a0_1n], .int .i64 a1], [.at r0 (.fl .f32 l0), .at r1 (.fl .f32 l1)] => .ite (decide ((IntKind.i64.wrap (a1 - ((a0_0n : Nat) : Int)) : Int) < 0)) (.ret (.int .i64 (-1)) [.at r0 (.fl .f32 l0), .at r1 (.fl .f32 l1)]) (.ite (decide ((IntKind.i64.wrap (a1 - ((a0_0n : Nat) : Int)) : Int) < 0)) (.ret (.int .i64 (-1)) [.at r0 (.fl .f32 l0), .at r1 (.fl .f32 l1)]) (.ite (decide ((IntKind.i64.wrap ((IntKind.i64.wrap (a1 - ((a0_0n : Nat) : Int))) - ((a0_1n : Nat) : Int)) : Int) < 0)) (.ret (.int .i64 (-1)) [.at r0 (.fl .f32 l0), .at r1 (.fl .f32 l1)]) (.ite (decide ((IntKind.i64.wrap ((IntKind.i64.wrap (a1 - ((a0_0n : Nat) : Int))) - ((a0_1n : Nat) : Int)) : Int) < 0)) (.ret (.int .i64 (-1)) [.at r0 (.fl .f32 l0), .at r1 (.fl .f32 l1)]) (.ret (.int .i64 (IntKind.i64.wrap ((IntKind.i64.wrap (a1 - ((a0_0n : Nat) : Int))) - ((a0_1n : Nat) : Int)))) [.at r0 (.fl .f32 l0), .at r1 (.fl .f32 l1)]))))
  | [.g [.sl 0 0 a0_0n, .nil], .int .i64 a1], [.at r0 (.fl .f32 l0)] => .ite (decide ((IntKind.i64.wrap (a1 - ((a0_0n : Nat) : Int)) : Int) < 0)) (.ret (.int .i64 (-1)) [.at r0 (.fl .f32 l0)]) (.ite (decide ((IntKind.i64.wrap (a1 - ((a0_0n : Nat) : Int)) : Int) < 0)) (.ret (.int .i64 (-1)) [.at r0 (.fl .f32 l0)]) (.ite (decide ((IntKind.i64.wrap ((IntKind.i64.wrap (a1 - ((a0_0n : Nat) : Int))) - 0) : Int) < 0)) (.ret (.int .i64 (-1)) [.at r0 (.fl .f32 l0)]) (.ite (decide ((IntKind.i64.wrap ((IntKind.i64.wrap (a1 - ((a0_0n : Nat) : Int))) - 0) : Int) < 0)) (.ret (.int .i64 (-1)) [.at r0 (.fl .f32 l0)]) (.ret (.int .i64 (IntKind.i64.wrap ((IntKind.i64.wrap (a1 - ((a0_0n : Nat) : Int))) - 0))) [.at r0 (.fl .f32 l0)]))))
  | [.g [.nil, .sl 0 0 a0_1n], .int .i64 a1], [.at r0 (.fl .f32 l0)] => .ite (decide ((IntKind.i64.wrap (a1 - 0) : Int) < 0)) (.ret (.int .i64 (-1)) [.at r0 (.fl .f32 l0)]) (.ite (decide ((IntKind.i64.wrap (a1 - 0) : Int) < 0)) (.ret (.int .i64 (-1)) [.at r0 (.fl .f32 l0)]) (.ite (decide ((IntKind.i64.wrap ((IntKind.i64.wrap (a1 - 0)) - ((a0_1n : Nat) : Int)) : Int) < 0)) (.ret (.int .i64 (-1)) [.at r0 (.fl .f32 l0)]) (.ite (decide ((IntKind.i64.wrap ((IntKind.i64.wrap (a1 - 0)) - ((a0_1n : Nat) : Int)) : Int) < 0)) (.ret (.int .i64 (-1)) [.at r0 (.fl .f32 l0)]) (.ret (.int .i64 (IntKind.i64.wrap ((IntKind.i64.wrap (a1 - 0)) - ((a0_1n : Nat) : Int)))) [.at r0 (.fl .f32 l0)]))))
  | [.g [.nil, .nil], .int .i64 a1], [] => .ite (decide ((IntKind.i64.wrap (a1 - 0) : Int) < 0)) (.ret (.int .i64 (-1)) []) (.ite (decide ((IntKind.i64.wrap (a1 - 0) : Int) < 0)) (.ret (.int .i64 (-1)) []) (.ite (decide ((IntKind.i64.wrap ((IntKind.i64.wrap (a1 - 0)) - 0) : Int) < 0)) (.ret (.int .i64 (-1)) []) (.ite (decide ((IntKind.i64.wrap ((IntKind.i64.wrap (a1 - 0)) - 0) : Int) < 0)) (.ret (.int .i64 (-1)) []) (.ret (.int .i64 (IntKind.i64.wrap ((IntKind.i64.wrap (a1 - 0)) - 0))) []))))
  | _, _ => .no
theorem okA_stlawsszSteps : FnT Try.prog 4 gA_stlawsszSteps := by
  intro vs hp v h' e
  unfold gA_stlawsszSteps at e
  split at e
  · exact FnT.runs tabok_A_stlawsszSteps_0 Try.func4 rfl rfl ann0 0 _ _ v h' (by rw [T.run_of]; exact Eq.trans (run_A_stlawsszSteps_0 0 _ _ _ _ _ _ _) e)
  · exact FnT.runs tabok_A_stlawsszSteps_1 Try.func4 rfl rfl ann0 0 _ _ v h' (by rw [T.run_of]; exact Eq.trans (run_A_stlawsszSteps_1 0 _ _ _ _) e)
  · exact FnT.runs tabok_A_stlawsszSteps_2 Try.func4 rfl rfl ann0 0 _ _ v h' (by rw [T.run_of]; exact Eq.trans (run_A_stlawsszSteps_2 0 _ _ _ _) e)
  · exact FnT.runs tabok_A_stlawsszSteps_3 Try.func4 rfl rfl ann0 0 _ _ v h' (by rw [T.run_of]; exact Eq.trans (run_A_stlawsszSteps_3 0 _) e)
  · exact (T.no_inv e).elim
def tab_A_stlawstoSteps_0 : Fns := tabT [(17, g_toF)]
theorem tabok_A_stlawstoSteps_0 : ∀ f, FnT Try.prog f (tab_A_stlawstoSteps_0 f) := (tabT_cons (k := 17) ok_toF tabT_nil)
theorem run_A_stlawstoSteps_0 (N : Nat) (a0_0n : Nat) (a0_1n : Nat) (r0 : Bool) (l0 : List Nat) (r1 : Bool) (l1 : List Nat) : run ty tab_A_stlawstoSteps_0 ann0 N Try.f6 [.g [.sl 0 0 a0_0n, .sl 1 0 a0_1n]] [.at r0 (.fl .f32 l0), .at r1 (.fl .f32 l1)]
    = (match decide (l0.length = a0_0n ∧ a0_0n < 2147483648) with | true => (match decide (l1.length = a0_1n ∧ a0_1n < 2147483648) with | true => some (.g [.sl 2 0 a0_0n, .sl 3 0 a0_1n], [.at r0 (.fl .f32 l0), .at r1 (.fl .f32 l1), .at true (.fl .f32 l0), .at true (.fl .f32 l1)]) | false => none) | false => none) := by
  kernel_rfl
def tab_A_stlawstoSteps_1 : Fns := tabT [(17, g_toF)]
theorem tabok_A_stlawstoSteps_1 : ∀ f, FnT Try.prog f (tab_A_stlawstoSteps_1 f) := (tabT_cons (k := 17) ok_toF tabT_nil)
theorem run_A_stlawstoSteps_1 (N : Nat) (a0_0n : Nat) (r0 : Bool) (l0 : List Nat) : run ty tab_A_stlawstoSteps_1 ann0 N Try.f6 [.g [.sl 0 0 a0_0n, .nil]] [.at r0 (.fl .f32 l0)]
    = (match decide (l0.length = a0_0n ∧ a0_0n < 2147483648) with | true => some (.g [.sl 1 0 a0_0n, .sl 2 0 0], [.at r0 (.fl .f32 l0), .at true (.fl .f32 l0), .at true (.fl .f32 ([] : List Nat))]) | false => none) := by
  kernel_rfl
def tab_A_stlawstoSteps_2 : Fns := tabT [(17, g_toF)]
theorem tabok_A_stlawstoSteps_2 : ∀ f, FnT Try.prog f (tab_A_stlawstoSteps_2 f) := (tabT_cons (k := 17) ok_toF tabT_nil)
theorem run_A_stlawstoSteps_2 (N : Nat) (a0_1n : Nat) (r0 : Bool) (l0 : List Nat) : run ty tab_A_stlawstoSteps_2 ann0 N Try.f6 [.g [.nil, .sl 0 0 a0_1n]] [.at r0 (.fl .f32 l0)]
    = (match decide (l0.length = a0_1n ∧ a0_1n < 2147483648) with | true => some (.g [.sl 1 0 0, .sl 2 0 a0_1n], [.at r0 (.fl .f32 l0), .at true (.fl .f32 ([] : List Nat)), .at true (.fl .f32 l0)]) | false => none) := by
  kernel_rfl
def tab_A_stlawstoSteps_3 : Fns := tabT [(17, g_toF)]
theorem tabok_A_stlawstoSteps_3 : ∀ f, FnT Try.prog f (tab_A_stlawstoSteps_3 f) := (tabT_cons (k := 17) ok_toF tabT_nil)
theorem run_A_stlawstoSteps_3 (N : Nat)  : run ty tab_A_stlawstoSteps_3 ann0 N Try.f6 [.g [.nil, .nil]] []
    = some (.g [.sl 0 0 0, .sl 1 0 0], [.at true (.fl .f32 ([] : List Nat)), .at true (.fl .f32 ([] : List Nat))]) := by
  kernel_rfl
def gA_stlawstoSteps : GT := fun vs h => match vs, h with
  | [.g [.sl 0 0 a0_0n, .sl 1 0 a0_1n]], [.at r0 (.fl .f32 l0), .at r1 (.fl .f32 l1)] => .ite (decide (l0.length = a0_0n ∧ a0_0n < 2147483648)) (.ite (decide (l1.length = a0_1n ∧ a0_1n < 2147483648)) (.ret (.g [.sl 2 0 a0_0n, .sl 3 0 a0_1n]) [.at r0 (.fl .f32 l0), .at r1 (.fl .f32 l1), .at true (.fl .f32 l0), .at true (.fl .f32 l1)]) (.no)) (.no)
  | [.g [.sl 0 0 a0_0n, .nil]], [.at r0 (.fl .f32 l0)] => .ite (decide (l0.length = a0_0n ∧ a0_0n < 2147483648)) (.ret (.g [.sl 1 0 a0_0n, .sl 2 0 0]) [.at r0 (.fl .f32 l0), .at true (.fl .f32 l0), .at true (.fl .f32 ([] : List Nat))]) (.no)
  | [.g [.nil, .sl 0 0 a0_1n]], [.at r0 (.fl .f32 l0)] => .ite (decide (l0.length = a0_1n ∧ a0_1n < 2147483648)) (.ret (.g [.sl 1 0 0, .sl 2 0 a0_1n]) [.at r0 (.fl .f32 l0), .at true (.fl .f32 ([] : List Nat)), .at true (.fl .f32 l0)]) (.no)
  | [.g [.nil, .nil]], [] => .ret (.g [.sl 0 0 0, .sl 1 0 0]) [.at true (.fl .f32 ([] : List Nat)), .at true (.fl .f32 ([] : List Nat))]
  | _, _ => .no
theorem okA_stlawstoSteps : FnT Try.prog 6 gA_stlawstoSteps := by
  intro vs hp v h' e
  unfold gA_stlawstoSteps at e
  split at e
  · exact FnT.runs tabok_A_stlawstoSteps_0 Try.func6 rfl rfl ann0 0 _ _ v h' (by rw [T.run_of]; exact Eq.trans (run_A_stlawstoSteps_0 0 _ _ _ _ _ _) e)
  · exact FnT.runs tabok_A_stlawstoSteps_1 Try.func6 rfl rfl ann0 0 _ _ v h' (by rw [T.run_of]; exact Eq.trans (run_A_stlawstoSteps_1 0 _ _ _) e)
  · exact FnT.runs tabok_A_stlawstoSteps_2 Try.func6 rfl rfl ann0 0 _ _ v h' (by rw [T.run_of]; exact Eq.trans (run_A_stlawstoSteps_2 0 _ _ _) e)
  · exact FnT.runs tabok_A_stlawstoSteps_3 Try.func6 rfl rfl ann0 0 _ _ v h' (by rw [T.run_of]; exact Eq.trans (run_A_stlawstoSteps_3 0 ) e)
  · exact (T.no_inv e).elim
def tab_A_stlawseqSteps_0 : Fns := tabT [(23, gEqT)]
theorem tabok_A_stlawseqSteps_0 : ∀ f, FnT Try.prog f (tab_A_stlawseqSteps_0 f) := (tabT_cons (k := 23) ok_eqF tabT_nil)
theorem run_A_stlawseqSteps_0 (N : Nat) (a0_0n : Nat) (a0_1n : Nat) (a1_0n : Nat) (a1_1n : Nat) (l0 : List Nat) (l1 : List Nat) (l2 : List Nat) (l3 : List Nat) : run ty tab_A_stlawseqSteps_0 ann0 N Try.f8 [.g [.sl 0 0 a0_0n, .sl 1 0 a0_1n], .g [.sl 2 0 a1_0n, .sl 3 0 a1_1n]] [.at true (.fl .f32 l0), .at true (.fl .f32 l1), .at true (.fl .f32 l2), .at true (.fl .f32 l3)]
    = (match decide (l0.length = a0_0n ∧ l2.length = a1_0n ∧ a0_0n < 2147483648 ∧ a1_0n < 2147483648) with | true => (match !(eqFB l0 l2) with | true => some (.bool false, [.at true (.fl .f32 l0), .at true (.fl .f32 l1), .at true (.fl .f32 l2), .at true (.fl .f32 l3)]) | false => (match decide (l1.length = a0_1n ∧ l3.length = a1_1n ∧ a0_1n < 2147483648 ∧ a1_1n < 2147483648) with | true => (match !(eqFB l1 l3) with | true => some (.bool false, [.at true (.fl .f32 l0), .at true (.fl .f32 l1), .at true (.fl .f32 l2), .at true (.fl .f32 l3)]) | false => some (.bool true, [.at true (.fl .f32 l0), .at true (.fl .f32 l1), .at true (.fl .f32 l2), .at true (.fl .f32 l3)])) | false => none)) | false => none) := by
  kernel_rfl
def tab_A_stlawseqSteps_1 : Fns := tabT [(23, gEqT)]
theorem tabok_A_stlawseqSteps_1 : ∀ f, FnT Try.prog f (tab_A_stlawseqSteps_1 f) := (tabT_cons (k := 23) ok_eqF tabT_nil)
theorem run_A_stlawseqSteps_1 (N : Nat) (a0_0n : Nat) (a0_1n : Nat) (a1_0n : Nat) (a1_1n : Nat) (r0 : Bool) (l0 : List Nat) (r1 : Bool) (l1 : List Nat) (r2 : Bool) (l2 : List Nat) (r3 : Bool) (l3 : List Nat) : run ty tab_A_stlawseqSteps_1 ann0 N Try.f8 [.g [.sl 0 0 a0_0n, .sl 1 0 a0_1n], .g [.sl 2 0 a1_0n, .sl 3 0 a1_1n]] [.at r0 (.fl .f32 l0), .at r1 (.fl .f32 l1), .at r2 (.fl .f32 l2), .at r3 (.fl .f32 l3)]
    = (match decide (l0.length = a0_0n ∧ l2.length = a1_0n ∧ a0_0n < 2147483648 ∧ a1_0n < 2147483648) with | true => (match !(eqFB l0 l2) with | true => some (.bool false, [.at r0 (.fl .f32 l0), .at r1 (.fl .f32 l1), .at r2 (.fl .f32 l2), .at r3 (.fl .f32 l3)]) | false => (match decide (l1.length = a0_1n ∧ l3.length = a1_1n ∧ a0_1n < 2147483648 ∧ a1_1n < 2147483648) with | true => (match !(eqFB l1 l3) with | true => some (.bool false, [.at r0 (.fl .f32 l0), .at r1 (.fl .f32 l1), .at r2 (.fl .f32 l2), .at r3 (.fl .f32 l3)]) | false => some (.bool true, [.at r0 (.fl .f32 l0), .at r1 (.fl .f32 l1), .at r2 (.fl .f32 l2), .at r3 (.fl .f32 l3)])) | false => none)) | false => none) := by
  kernel_rfl
def tab_A_stlawseqSteps_2 : Fns := tabT [(23, gEqT)]
theorem tabok_A_stlawseqSteps_2 : ∀ f, FnT Try.prog f (tab_A_stlawseqSteps_2 f) := (tabT_cons (k := 23) ok_eqF tabT_nil)
theorem run_A_stlawseqSteps_2 (N : Nat) (a1_0n : Nat) (a1_1n : Nat) (l0 : List Nat) (l1 : List Nat) : run ty tab_A_stlawseqSteps_2 ann0 N Try.f8 [.g [.nil, .nil], .g [.sl 0 0 a1_0n, .sl 1 0 a1_1n]] [.at true (.fl .f32 l0), .at true (.fl .f32 l1)]
    = none := by
  kernel_rfl
def tab_A_stlawseqSteps_3 : Fns := tabT [(23, gEqT)]
theorem tabok_A_stlawseqSteps_3 : ∀ f, FnT Try.prog f (tab_A_stlawseqSteps_3 f) := (tabT_cons (k := 23) ok_eqF tabT_nil)
theorem run_A_stlawseqSteps_3 (N : Nat) (a0_0n : Nat) (a0_1n : Nat) (l0 : List Nat) (l1 : List Nat) : run ty tab_A_stlawseqSteps_3 ann0 N Try.f8 [.g [.sl 0 0 a0_0n, .sl 1 0 a0_1n], .g [.nil, .nil]] [.at true (.fl .f32 l0), .at true (.fl .f32 l1)]
    = none := by
  kernel_rfl
def tab_A_stlawseqSteps_4 : Fns := tabT [(23, gEqT)]
theorem tabok_A_stlawseqSteps_4 : ∀ f, FnT Try.prog f (tab_A_stlawseqSteps_4 f) := (tabT_cons (k := 23) ok_eqF tabT_nil)
theorem run_A_stlawseqSteps_4 (N : Nat)  : run ty tab_A_stlawseqSteps_4 ann0 N Try.f8 [.g [.nil, .nil], .g [.nil, .nil]] []
    = some (.bool true, []) := by
  kernel_rfl
def gA_stlawseqSteps : GT := fun vs h => match vs, h with
  | [.g [.sl 0 0 a0_0n, .sl 1 0 a0_1n], .g [.sl 2 0 a1_0n, .sl 3 0 a1_1n]], [.at true (.fl .f32 l0), .at true (.fl .f32 l1), .at true (.fl .f32 l2), .at true (.fl .f32 l3)] => .ite (decide (l0.length = a0_0n ∧ l2.length = a1_0n ∧ a0_0n < 2147483648 ∧ a1_0n < 2147483648)) (.ite (!(eqFB l0 l2)) (.ret (.bool false) [.at true (.fl .f32 l0), .at true (.fl .f32 l1), .at true (.fl .f32 l2), .at true (.fl .f32 l3)]) (.ite (decide (l1.length = a0_1n ∧ l3.length = a1_1n ∧ a0_1n < 2147483648 ∧ a1_1n < 2147483648)) (.ite (!(eqFB l1 l3)) (.ret (.bool false) [.at true (.fl .f32 l0), .at true (.fl .f32 l1), .at true (.fl .f32 l2), .at true (.fl .f32 l3)]) (.ret (.bool true) [.at true (.fl .f32 l0), .at true (.fl .f32 l1), .at true (.fl .f32 l2), .at true (.fl .f32 l3)])) (.no))) (.no)
  | [.g [.sl 0 0 a0_0n, .sl 1 0 a0_1n], .g [.sl 2 0 a1_0n, .sl 3 0 a1_1n]], [.at r0 (.fl .f32 l0), .at r1 (.fl .f32 l1), .at r2 (.fl .f32 l2), .at r3 (.fl .f32 l3)] => .ite (decide (l0.length = a0_0n ∧ l2.length = a1_0n ∧ a0_0n < 2147483648 ∧ a1_0n < 2147483648)) (.ite (!(eqFB l0 l2)) (.ret (.bool false) [.at r0 (.fl .f32 l0), .at r1 (.fl .f32 l1), .at r2 (.fl .f32 l2), .at r3 (.fl .f32 l3)]) (.ite (decide (l1.length = a0_1n ∧ l3.length = a1_1n ∧ a0_1n < 2147483648 ∧ a1_1n < 2147483648)) (.ite (!(eqFB l1 l3)) (.ret (.bool false) [.at r0 (.fl .f32 l0), .at r1 (.fl .f32 l1), .at r2 (.fl .f32 l2), .at r3 (.fl .f32 l3)]) (.ret (.bool true) [.at r0 (.fl .f32 l0), .at r1 (.fl .f32 l1), .at r2 (.fl .f32 l2), .at r3 (.fl .f32 l3)])) (.no))) (.no)
  | [.g [.nil, .nil], .g [.sl 0 0 a1_0n, .sl 1 0 a1_1n]], [.at true (.fl .f32 l0), .at true (.fl .f32 l1)] => .no
  | [.g [.sl 0 0 a0_0n, .sl 1 0 a0_1n], .g [.nil, .nil]], [.at true (.fl .f32 l0), .at true (.fl .f32 l1)] => .no
  | [.g [.nil, .nil], .g [.nil, .nil]], [] => .ret (.bool true) []
  | _, _ => .no
theorem okA_stlawseqSteps : FnT Try.prog 8 gA_stlawseqSteps := by
  intro vs hp v h' e
  unfold gA_stlawseqSteps at e
  split at e
  · exact FnT.runs tabok_A_stlawseqSteps_0 Try.func8 rfl rfl ann0 0 _ _ v h' (by rw [T.run_of]; exact Eq.trans (run_A_stlawseqSteps_0 0 _ _ _ _ _ _ _ _) e)
  · exact FnT.runs tabok_A_stlawseqSteps_1 Try.func8 rfl rfl ann0 0 _ _ v h' (by rw [T.run_of]; exact Eq.trans (run_A_stlawseqSteps_1 0 _ _ _ _ _ _ _ _ _ _ _ _) e)
  · exact FnT.runs tabok_A_stlawseqSteps_2 Try.func8 rfl rfl ann0 0 _ _ v h' (by rw [T.run_of]; exact Eq.trans (run_A_stlawseqSteps_2 0 _ _ _ _) e)
  · exact FnT.runs tabok_A_stlawseqSteps_3 Try.func8 rfl rfl ann0 0 _ _ v h' (by rw [T.run_of]; exact Eq.trans (run_A_stlawseqSteps_3 0 _ _ _ _) e)
  · exact FnT.runs tabok_A_stlawseqSteps_4 Try.func8 rfl rfl ann0 0 _ _ v h' (by rw [T.run_of]; exact Eq.trans (run_A_stlawseqSteps_4 0 ) e)
  · exact (T.no_inv e).elim
def tab_A_stlawsmarkSteps_0 : Fns := tabT [(24, gMarkT)]
theorem tabok_A_stlawsmarkSteps_0 : ∀ f, FnT Try.prog f (tab_A_stlawsmarkSteps_0 f) := (tabT_cons (k := 24) ok_markF tabT_nil)
theorem run_A_stlawsmarkSteps_0 (N : Nat) (a0_0n : Nat) (a0_1n : Nat) (a1 : Int) (l0 : List Nat) (l1 : List Nat) : run ty tab_A_stlawsmarkSteps_0 ann0 N Try.f9 [.g [.sl 0 0 a0_0n, .sl 1 0 a0_1n], .int .i64 a1] [.at true (.fl .f32 l0), .at true (.fl .f32 l1)]
    = (match decide (l0.length = a0_0n ∧ a0_0n < 2147483648 ∧ 0 ≤ (a1 : Int) ∧ (a1 : Int).toNat < 2147483648) with | true => (match decide (l1.length = a0_1n ∧ a0_1n < 2147483648 ∧ 0 ≤ (a1 + (a0_0n : Int) : Int) ∧ (a1 + (a0_0n : Int) : Int).toNat < 2147483648) with | true => some (.int .i64 ((a1 + (a0_0n : Int)) + (a0_1n : Int)), [.at true (.fl .f32 (marks a1 a0_0n)), .at true (.fl .f32 (marks (a1 + (a0_0n : Int)) a0_1n))]) | false => none) | false => none) := by
  kernel_rfl
def tab_A_stlawsmarkSteps_1 : Fns := tabT [(24, gMarkT)]
theorem tabok_A_stlawsmarkSteps_1 : ∀ f, FnT Try.prog f (tab_A_stlawsmarkSteps_1 f) := (tabT_cons (k := 24) ok_markF tabT_nil)
theorem run_A_stlawsmarkSteps_1 (N : Nat) (a1 : Int) : run ty tab_A_stlawsmarkSteps_1 ann0 N Try.f9 [.g [.nil, .nil], .int .i64 a1] []
    = some (.int .i64 a1, []) := by
  kernel_rfl
def gA_stlawsmarkSteps : GT := fun vs h => match vs, h with
  | [.g [.sl 0 0 a0_0n, .sl 1 0 a0_1n], .int .i64 a1], [.at true (.fl .f32 l0), .at true (.fl .f32 l1)] => .ite (decide (l0.length = a0_0n ∧ a0_0n < 2147483648 ∧ 0 ≤ (a1 : Int) ∧ (a1 : Int).toNat < 2147483648)) (.ite (decide (l1.length = a0_1n ∧ a0_1n < 2147483648 ∧ 0 ≤ (a1 + (a0_0n : Int) : Int) ∧ (a1 + (a0_0n : Int) : Int).toNat < 2147483648)) (.ret (.int .i64 ((a1 + (a0_0n : Int)) + (a0_1n : Int))) [.at true (.fl .f32 (marks a1 a0_0n)), .at true (.fl .f32 (marks (a1 + (a0_0n : Int)) a0_1n))]) (.no)) (.no)
  | [.g [.nil, .nil], .int .i64 a1], [] => .ret (.int .i64 a1) []
  | _, _ => .no
theorem okA_stlawsmarkSteps : FnT Try.prog 9 gA_stlawsmarkSteps := by
  intro vs hp v h' e
  unfold gA_stlawsmarkSteps at e
  split at e
  · exact FnT.runs tabok_A_stlawsmarkSteps_0 Try.func9 rfl rfl ann0 0 _ _ v h' (by rw [T.run_of]; exact Eq.trans (run_A_stlawsmarkSteps_0 0 _ _ _ _ _) e)
  · exact FnT.runs tabok_A_stlawsmarkSteps_1 Try.func9 rfl rfl ann0 0 _ _ v h' (by rw [T.run_of]; exact Eq.trans (run_A_stlawsmarkSteps_1 0 _) e)
  · exact (T.no_inv e).elim
def tab_A_stlawsheldSteps_0 : Fns := tabT [(25, gHeldT)]
theorem tabok_A_stlawsheldSteps_0 : ∀ f, FnT Try.prog f (tab_A_stlawsheldSteps_0 f) := (tabT_cons (k := 25) ok_heldF tabT_nil)
theorem run_A_stlawsheldSteps_0 (N : Nat) (a0_0n : Nat) (a0_1n : Nat) (a1 : Int) (l0 : List Nat) (l1 : List Nat) : run ty tab_A_stlawsheldSteps_0 ann0 N Try.f10 [.g [.sl 0 0 a0_0n, .sl 1 0 a0_1n], .int .i64 a1] [.at true (.fl .f32 l0), .at true (.fl .f32 l1)]
    = (match decide (l0 = marks a1 a0_0n ∧ a0_0n < 2147483648 ∧ 0 ≤ (a1 : Int) ∧ (a1 : Int) < 2147483648) with | true => (match decide ((a1 + (a0_0n : Int) : Int) < 0) with | true => some (.int .i64 (-1), [.at true (.fl .f32 l0), .at true (.fl .f32 l1)]) | false => (match decide (l1 = marks (a1 + (a0_0n : Int)) a0_1n ∧ a0_1n < 2147483648 ∧ 0 ≤ (a1 + (a0_0n : Int) : Int) ∧ (a1 + (a0_0n : Int) : Int) < 2147483648) with | true => (match decide (((a1 + (a0_0n : Int)) + (a0_1n : Int) : Int) < 0) with | true => some (.int .i64 (-1), [.at true (.fl .f32 l0), .at true (.fl .f32 l1)]) | false => some (.int .i64 ((a1 + (a0_0n : Int)) + (a0_1n : Int)), [.at true (.fl .f32 l0), .at true (.fl .f32 l1)])) | false => none)) | false => none) := by
  kernel_rfl
def tab_A_stlawsheldSteps_1 : Fns := tabT [(25, gHeldT)]
theorem tabok_A_stlawsheldSteps_1 : ∀ f, FnT Try.prog f (tab_A_stlawsheldSteps_1 f) := (tabT_cons (k := 25) ok_heldF tabT_nil)
theorem run_A_stlawsheldSteps_1 (N : Nat) (a1 : Int) : run ty tab_A_stlawsheldSteps_1 ann0 N Try.f10 [.g [.nil, .nil], .int .i64 a1] []
    = (match decide ((a1 : Int) < 0) with | true => some (.int .i64 (-1), []) | false => (match decide ((a1 : Int) < 0) with | true => some (.int .i64 (-1), []) | false => some (.int .i64 a1, []))) := by
  kernel_rfl
def gA_stlawsheldSteps : GT := fun vs h => match vs, h with
  | [.g [.sl 0 0 a0_0n, .sl 1 0 a0_1n], .int .i64 a1], [.at true (.fl .f32 l0), .at true (.fl .f32 l1)] => .ite (decide (l0 = marks a1 a0_0n ∧ a0_0n < 2147483648 ∧ 0 ≤ (a1 : Int) ∧ (a1 : Int) < 2147483648)) (.ite (decide ((a1 + (a0_0n : Int) : Int) < 0)) (.ret (.int .i64 (-1)) [.at true (.fl .f32 l0), .at true (.fl .f32 l1)]) (.ite (decide (l1 = marks (a1 + (a0_0n : Int)) a0_1n ∧ a0_1n < 2147483648 ∧ 0 ≤ (a1 + (a0_0n : Int) : Int) ∧ (a1 + (a0_0n : Int) : Int) < 2147483648)) (.ite (decide (((a1 + (a0_0n : Int)) + (a0_1n : Int) : Int) < 0)) (.ret (.int .i64 (-1)) [.at true (.fl .f32 l0), .at true (.fl .f32 l1)]) (.ret (.int .i64 ((a1 + (a0_0n : Int)) + (a0_1n : Int))) [.at true (.fl .f32 l0), .at true (.fl .f32 l1)])) (.no))) (.no)
  | [.g [.nil, .nil], .int .i64 a1], [] => .ite (decide ((a1 : Int) < 0)) (.ret (.int .i64 (-1)) []) (.ite (decide ((a1 : Int) < 0)) (.ret (.int .i64 (-1)) []) (.ret (.int .i64 a1) []))
  | _, _ => .no
theorem okA_stlawsheldSteps : FnT Try.prog 10 gA_stlawsheldSteps := by
  intro vs hp v h' e
  unfold gA_stlawsheldSteps at e
  split at e
  · exact FnT.runs tabok_A_stlawsheldSteps_0 Try.func10 rfl rfl ann0 0 _ _ v h' (by rw [T.run_of]; exact Eq.trans (run_A_stlawsheldSteps_0 0 _ _ _ _ _) e)
  · exact FnT.runs tabok_A_stlawsheldSteps_1 Try.func10 rfl rfl ann0 0 _ _ v h' (by rw [T.run_of]; exact Eq.trans (run_A_stlawsheldSteps_1 0 _) e)
  · exact (T.no_inv e).elim
theorem sz_le {A B : Int} (h : decide ((IntKind.i64.wrap (A - B) : Int) < 0) = false) (h1 : 0 ≤ A) (h2 : A ≤ 1048576) (h3 : 0 ≤ B) (h4 : B ≤ 9223372036854775807) : B ≤ A ∧ IntKind.i64.wrap (A - B) = A - B := by
  have h := of_decide_eq_false h
  rw [wrap_z (by omega) (by omega)] at h ⊢
  exact ⟨by omega, rfl⟩
def an_lawRpA : Ann := ⟨fun r =>  none, fun r n => if r = 10 ∧ n = 2 then .grow else .quiet⟩
def tab_lawRpA : Fns := tabT [(4, gA_stlawsszSteps), (6, gA_stlawstoSteps), (5, gRp), (7, gRp), (8, gA_stlawseqSteps), (9, gA_stlawsmarkSteps), (10, gA_stlawsheldSteps)]
theorem tabok_lawRpA : ∀ f, FnT Try.prog f (tab_lawRpA f) := (tabT_cons (k := 4) okA_stlawsszSteps (tabT_cons (k := 6) okA_stlawstoSteps (tabT_cons (k := 5) ok_rpS (tabT_cons (k := 7) ok_rpI (tabT_cons (k := 8) okA_stlawseqSteps (tabT_cons (k := 9) okA_stlawsmarkSteps (tabT_cons (k := 10) okA_stlawsheldSteps tabT_nil)))))))
theorem run_lawRpA (N : Nat) (n : Nat) (m : Nat) (t : Int) (l0 : List Nat) (l1 : List Nat) : run ty tab_lawRpA an_lawRpA N Try.f3 [.g [.sl 0 0 n, .sl 1 0 m], .int .i64 t] [.at false (.fl .f32 l0), .at false (.fl .f32 l1)]
    = (match decide ((IntKind.i64.wrap (1048576 - ((n : Nat) : Int)) : Int) < 0) with | true => some (.bool true, [.at false (.fl .f32 l0), .at false (.fl .f32 l1)]) | false => (match decide ((IntKind.i64.wrap (1048576 - ((n : Nat) : Int)) : Int) < 0) with | true => some (.bool true, [.at false (.fl .f32 l0), .at false (.fl .f32 l1)]) | false => (match decide ((IntKind.i64.wrap ((IntKind.i64.wrap (1048576 - ((n : Nat) : Int))) - ((m : Nat) : Int)) : Int) < 0) with | true => some (.bool true, [.at false (.fl .f32 l0), .at false (.fl .f32 l1)]) | false => (match decide ((IntKind.i64.wrap ((IntKind.i64.wrap (1048576 - ((n : Nat) : Int))) - ((m : Nat) : Int)) : Int) < 0) with | true => some (.bool true, [.at false (.fl .f32 l0), .at false (.fl .f32 l1)]) | false => (match decide ((IntKind.i64.wrap ((IntKind.i64.wrap (1048576 - ((n : Nat) : Int))) - ((m : Nat) : Int)) : Int) < 0) with | true => some (.bool true, [.at false (.fl .f32 l0), .at false (.fl .f32 l1)]) | false => (match decide (l0.length = n ∧ n < 2147483648) with | true => (match decide (l1.length = m ∧ m < 2147483648) with | true => (match decide (l0.length = n ∧ n < 2147483648 ∧ l1.length = m ∧ m < 2147483648 ∧ w32 l1 = true) with | true => (match rpOk l0 l1 t with | true => (match decide (l0.length = n ∧ n < 2147483648) with | true => (match decide (l1.length = m ∧ m < 2147483648) with | true => (match decide (l0.length = n ∧ n < 2147483648 ∧ l1.length = m ∧ m < 2147483648 ∧ w32 l1 = true) with | true => (match rpOk l0 l1 t with | true => (match decide ((rpE l0 l1 t).length = (rpE l0 l1 t).length ∧ (rpE l0 l1 t).length = (rpE l0 l1 t).length ∧ (rpE l0 l1 t).length < 2147483648 ∧ (rpE l0 l1 t).length < 2147483648) with | true => (match !(eqFB (rpE l0 l1 t) (rpE l0 l1 t)) with | true => some (.bool false, [.at false (.fl .f32 l0), .at false (.fl .f32 l1)]) | false => (match decide ((rpM l0 l1 t).length = (rpM l0 l1 t).length ∧ (rpM l0 l1 t).length = (rpM l0 l1 t).length ∧ (rpM l0 l1 t).length < 2147483648 ∧ (rpM l0 l1 t).length < 2147483648) with | true => (match !(eqFB (rpM l0 l1 t) (rpM l0 l1 t)) with | true => some (.bool false, [.at false (.fl .f32 l0), .at false (.fl .f32 l1)]) | false => (match decide (l0.length = n ∧ n < 2147483648) with | true => (match decide (l1.length = m ∧ m < 2147483648) with | true => (match decide (l0.length = n ∧ l0.length = n ∧ n < 2147483648 ∧ n < 2147483648) with | true => (match !(eqFB l0 l0) with | true => some (.bool false, [.at false (.fl .f32 l0), .at false (.fl .f32 l1)]) | false => (match decide (l1.length = m ∧ l1.length = m ∧ m < 2147483648 ∧ m < 2147483648) with | true => (match !(eqFB l1 l1) with | true => some (.bool false, [.at false (.fl .f32 l0), .at false (.fl .f32 l1)]) | false => (match decide (l0.length = n ∧ n < 2147483648 ∧ 0 ≤ (1 : Int) ∧ (1 : Int).toNat < 2147483648) with | true => (match decide (l1.length = m ∧ m < 2147483648 ∧ 0 ≤ (1 + (n : Int) : Int) ∧ (1 + (n : Int) : Int).toNat < 2147483648) with | true => (match decide (((1 + (n : Int)) + (m : Int) : Int) < 0) with | true => some (.bool false, [.at false (.fl .f32 l0), .at false (.fl .f32 l1)]) | false => (match decide ((rpE l0 l1 t).length = (rpE l0 l1 t).length ∧ (rpE l0 l1 t).length = (rpE l0 l1 t).length ∧ (rpE l0 l1 t).length < 2147483648 ∧ (rpE l0 l1 t).length < 2147483648) with | true => (match !(eqFB (rpE l0 l1 t) (rpE l0 l1 t)) with | true => some (.bool false, [.at false (.fl .f32 l0), .at false (.fl .f32 l1)]) | false => (match decide ((rpM l0 l1 t).length = (rpM l0 l1 t).length ∧ (rpM l0 l1 t).length = (rpM l0 l1 t).length ∧ (rpM l0 l1 t).length < 2147483648 ∧ (rpM l0 l1 t).length < 2147483648) with | true => (match !(eqFB (rpM l0 l1 t) (rpM l0 l1 t)) with | true => some (.bool false, [.at false (.fl .f32 l0), .at false (.fl .f32 l1)]) | false => (match decide ((rpE l0 l1 t).length = (rpE l0 l1 t).length ∧ (rpE l0 l1 t).length < 2147483648 ∧ 0 ≤ (1 : Int) ∧ (1 : Int).toNat < 2147483648) with | true => (match decide ((rpM l0 l1 t).length = (rpM l0 l1 t).length ∧ (rpM l0 l1 t).length < 2147483648 ∧ 0 ≤ (1 + ((rpE l0 l1 t).length : Int) : Int) ∧ (1 + ((rpE l0 l1 t).length : Int) : Int).toNat < 2147483648) with | true => (match decide (marks 1 ((rpE l0 l1 t).length) = marks 1 ((rpE l0 l1 t).length) ∧ (rpE l0 l1 t).length < 2147483648 ∧ 0 ≤ (1 : Int) ∧ (1 : Int) < 2147483648) with | true => (match decide ((1 + ((rpE l0 l1 t).length : Int) : Int) < 0) with | true => some (.bool false, [.at false (.fl .f32 l0), .at false (.fl .f32 l1)]) | false => (match decide (marks (1 + ((rpE l0 l1 t).length : Int)) ((rpM l0 l1 t).length) = marks (1 + ((rpE l0 l1 t).length : Int)) ((rpM l0 l1 t).length) ∧ (rpM l0 l1 t).length < 2147483648 ∧ 0 ≤ (1 + ((rpE l0 l1 t).length : Int) : Int) ∧ (1 + ((rpE l0 l1 t).length : Int) : Int) < 2147483648) with | true => (match decide (((1 + ((rpE l0 l1 t).length : Int)) + ((rpM l0 l1 t).length : Int) : Int) < 0) with | true => some (.bool false, [.at false (.fl .f32 l0), .at false (.fl .f32 l1)]) | false => (match decide (((1 + ((rpE l0 l1 t).length : Int)) + ((rpM l0 l1 t).length : Int) : Int) < 0) with | true => some (.bool false, [.at false (.fl .f32 l0), .at false (.fl .f32 l1)]) | false => (match ((1 + ((rpE l0 l1 t).length : Int)) + ((rpM l0 l1 t).length : Int)) != ((1 + ((rpE l0 l1 t).length : Int)) + ((rpM l0 l1 t).length : Int)) with | true => some (.bool false, [.at false (.fl .f32 l0), .at false (.fl .f32 l1)]) | false => (match decide (l0.length = n ∧ n < 2147483648) with | true => (match decide (l1.length = m ∧ m < 2147483648) with | true => (match decide (l0.length = n ∧ n < 2147483648 ∧ l1.length = m ∧ m < 2147483648 ∧ w32 l1 = true) with | true => (match rpOk l0 l1 t with | true => (match decide ((rpE l0 l1 t).length = (rpE l0 l1 t).length ∧ (rpE l0 l1 t).length = (rpE l0 l1 t).length ∧ (rpE l0 l1 t).length < 2147483648 ∧ (rpE l0 l1 t).length < 2147483648) with | true => (match !(eqFB (rpE l0 l1 t) (rpE l0 l1 t)) with | true => some (.bool false, [.at false (.fl .f32 l0), .at false (.fl .f32 l1)]) | false => (match decide ((rpM l0 l1 t).length = (rpM l0 l1 t).length ∧ (rpM l0 l1 t).length = (rpM l0 l1 t).length ∧ (rpM l0 l1 t).length < 2147483648 ∧ (rpM l0 l1 t).length < 2147483648) with | true => (match !(eqFB (rpM l0 l1 t) (rpM l0 l1 t)) with | true => some (.bool false, [.at false (.fl .f32 l0), .at false (.fl .f32 l1)]) | false => (match decide (marks 1 ((rpE l0 l1 t).length) = marks 1 ((rpE l0 l1 t).length) ∧ (rpE l0 l1 t).length < 2147483648 ∧ 0 ≤ (1 : Int) ∧ (1 : Int) < 2147483648) with | true => (match decide ((1 + ((rpE l0 l1 t).length : Int) : Int) < 0) with | true => some (.bool false, [.at false (.fl .f32 l0), .at false (.fl .f32 l1)]) | false => (match decide (marks (1 + ((rpE l0 l1 t).length : Int)) ((rpM l0 l1 t).length) = marks (1 + ((rpE l0 l1 t).length : Int)) ((rpM l0 l1 t).length) ∧ (rpM l0 l1 t).length < 2147483648 ∧ 0 ≤ (1 + ((rpE l0 l1 t).length : Int) : Int) ∧ (1 + ((rpE l0 l1 t).length : Int) : Int) < 2147483648) with | true => (match decide (((1 + ((rpE l0 l1 t).length : Int)) + ((rpM l0 l1 t).length : Int) : Int) < 0) with | true => some (.bool false, [.at false (.fl .f32 l0), .at false (.fl .f32 l1)]) | false => (match decide (((1 + ((rpE l0 l1 t).length : Int)) + ((rpM l0 l1 t).length : Int) : Int) < 0) with | true => some (.bool false, [.at false (.fl .f32 l0), .at false (.fl .f32 l1)]) | false => (match ((1 + ((rpE l0 l1 t).length : Int)) + ((rpM l0 l1 t).length : Int)) != ((1 + ((rpE l0 l1 t).length : Int)) + ((rpM l0 l1 t).length : Int)) with | true => some (.bool false, [.at false (.fl .f32 l0), .at false (.fl .f32 l1)]) | false => some (.bool true, [.at false (.fl .f32 l0), .at false (.fl .f32 l1)])))) | false => none)) | false => none)) | false => none)) | false => none) | false => none) | false => none) | false => none) | false => none)))) | false => none)) | false => none) | false => none) | false => none)) | false => none)) | false => none)) | false => none) | false => none)) | false => none)) | false => none) | false => none) | false => none)) | false => none)) | false => none) | false => none) | false => none) | false => none) | false => none) | false => (match decide (l0.length = n ∧ n < 2147483648) with | true => (match decide (l1.length = m ∧ m < 2147483648) with | true => (match decide (l0.length = n ∧ n < 2147483648 ∧ l1.length = m ∧ m < 2147483648 ∧ w32 l1 = true) with | true => (match rpOk l0 l1 t with | true => none | false => (match decide (l0.length = n ∧ n < 2147483648) with | true => (match decide (l1.length = m ∧ m < 2147483648) with | true => (match decide (l0.length = n ∧ l0.length = n ∧ n < 2147483648 ∧ n < 2147483648) with | true => (match !(eqFB l0 l0) with | true => some (.bool false, [.at false (.fl .f32 l0), .at false (.fl .f32 l1)]) | false => (match decide (l1.length = m ∧ l1.length = m ∧ m < 2147483648 ∧ m < 2147483648) with | true => (match !(eqFB l1 l1) with | true => some (.bool false, [.at false (.fl .f32 l0), .at false (.fl .f32 l1)]) | false => (match decide (l0.length = n ∧ n < 2147483648 ∧ 0 ≤ (1 : Int) ∧ (1 : Int).toNat < 2147483648) with | true => (match decide (l1.length = m ∧ m < 2147483648 ∧ 0 ≤ (1 + (n : Int) : Int) ∧ (1 + (n : Int) : Int).toNat < 2147483648) with | true => (match decide (((1 + (n : Int)) + (m : Int) : Int) < 0) with | true => some (.bool false, [.at false (.fl .f32 l0), .at false (.fl .f32 l1)]) | false => (match decide (l0.length = n ∧ n < 2147483648) with | true => (match decide (l1.length = m ∧ m < 2147483648) with | true => (match decide (l0.length = n ∧ n < 2147483648 ∧ l1.length = m ∧ m < 2147483648 ∧ w32 l1 = true) with | true => (match rpOk l0 l1 t with | true => none | false => some (.bool true, [.at false (.fl .f32 l0), .at false (.fl .f32 l1)])) | false => none) | false => none) | false => none)) | false => none) | false => none)) | false => none)) | false => none) | false => none) | false => none)) | false => none) | false => none) | false => none)) | false => none) | false => none) | false => none)))))) := by
  kernel_rfl
theorem H_lawRpA (n : Nat) (m : Nat) (t : Int) (l0 : List Nat) (l1 : List Nat) (hn : l0.length = n) (bhn : n ≤ 9223372036854775807) (hm : l1.length = m) (bhm : m ≤ 9223372036854775807) (hw32 : w32 l1 = true) : run ty tab_lawRpA an_lawRpA 0 Try.f3 [.g [.sl 0 0 n, .sl 1 0 m], .int .i64 t] [.at false (.fl .f32 l0), .at false (.fl .f32 l1)] = some (.bool true, [.at false (.fl .f32 l0), .at false (.fl .f32 l1)]) := by
  refine Eq.trans (run_lawRpA 0 n m t l0 l1) ?_
  cases hc1 : decide ((IntKind.i64.wrap (1048576 - ((n : Nat) : Int)) : Int) < 0)
  case false =>
    have fhc1 := of_decide_eq_false hc1
    have ghc1 := sz_le hc1 (by omega) (by omega) (by omega) (by omega)
    cases hc2 : decide ((IntKind.i64.wrap ((IntKind.i64.wrap (1048576 - ((n : Nat) : Int))) - ((m : Nat) : Int)) : Int) < 0)
    case false =>
      have fhc2 := of_decide_eq_false hc2
      have ghc2 := sz_le hc2 (by omega) (by omega) (by omega) (by omega)
      have hc3 : (decide (l0.length = n ∧ n < 2147483648)) = true := decide_eq_true (by first | omega | (simp [marks, hw32] <;> omega))
      have hc4 : (decide (l1.length = m ∧ m < 2147483648)) = true := decide_eq_true (by first | omega | (simp [marks, hw32] <;> omega))
      have hc5 : (decide (l0.length = n ∧ n < 2147483648 ∧ l1.length = m ∧ m < 2147483648 ∧ w32 l1 = true)) = true := decide_eq_true (by first | omega | (simp [marks, hw32] <;> omega))
      rw [hc3, hc4, hc5]
      cases hc6 : rpOk l0 l1 t
      case false =>
        have hc7 : (decide (l0.length = n ∧ l0.length = n ∧ n < 2147483648 ∧ n < 2147483648)) = true := decide_eq_true (by first | omega | (simp [marks, hw32] <;> omega))
        have hc8 : (!(eqFB l0 l0)) = false := by rw [eqFB_self]; rfl
        have hc9 : (decide (l1.length = m ∧ l1.length = m ∧ m < 2147483648 ∧ m < 2147483648)) = true := decide_eq_true (by first | omega | (simp [marks, hw32] <;> omega))
        have hc10 : (!(eqFB l1 l1)) = false := by rw [eqFB_self]; rfl
        have hc11 : (decide (l0.length = n ∧ n < 2147483648 ∧ 0 ≤ (1 : Int) ∧ (1 : Int).toNat < 2147483648)) = true := decide_eq_true (by first | omega | (simp [marks, hw32] <;> omega))
        have hc12 : (decide (l1.length = m ∧ m < 2147483648 ∧ 0 ≤ (1 + (n : Int) : Int) ∧ (1 + (n : Int) : Int).toNat < 2147483648)) = true := decide_eq_true (by first | omega | (simp [marks, hw32] <;> omega))
        have hc13 : (decide (((1 + (n : Int)) + (m : Int) : Int) < 0)) = false := decide_eq_false (by first | omega | (simp [marks, hw32] <;> omega))
        rw [hc7, hc8, hc9, hc10, hc11, hc12, hc13]
      case true =>
        have ghc6 := rp_len hc6
        have hc14 : (decide ((rpE l0 l1 t).length = (rpE l0 l1 t).length ∧ (rpE l0 l1 t).length = (rpE l0 l1 t).length ∧ (rpE l0 l1 t).length < 2147483648 ∧ (rpE l0 l1 t).length < 2147483648)) = true := decide_eq_true (by first | omega | (simp [marks, hw32] <;> omega))
        have hc15 : (!(eqFB (rpE l0 l1 t) (rpE l0 l1 t))) = false := by rw [eqFB_self]; rfl
        have hc16 : (decide ((rpM l0 l1 t).length = (rpM l0 l1 t).length ∧ (rpM l0 l1 t).length = (rpM l0 l1 t).length ∧ (rpM l0 l1 t).length < 2147483648 ∧ (rpM l0 l1 t).length < 2147483648)) = true := decide_eq_true (by first | omega | (simp [marks, hw32] <;> omega))
        have hc17 : (!(eqFB (rpM l0 l1 t) (rpM l0 l1 t))) = false := by rw [eqFB_self]; rfl
        have hc18 : (decide (l0.length = n ∧ l0.length = n ∧ n < 2147483648 ∧ n < 2147483648)) = true := decide_eq_true (by first | omega | (simp [marks, hw32] <;> omega))
        have hc19 : (!(eqFB l0 l0)) = false := by rw [eqFB_self]; rfl
        have hc20 : (decide (l1.length = m ∧ l1.length = m ∧ m < 2147483648 ∧ m < 2147483648)) = true := decide_eq_true (by first | omega | (simp [marks, hw32] <;> omega))
        have hc21 : (!(eqFB l1 l1)) = false := by rw [eqFB_self]; rfl
        have hc22 : (decide (l0.length = n ∧ n < 2147483648 ∧ 0 ≤ (1 : Int) ∧ (1 : Int).toNat < 2147483648)) = true := decide_eq_true (by first | omega | (simp [marks, hw32] <;> omega))
        have hc23 : (decide (l1.length = m ∧ m < 2147483648 ∧ 0 ≤ (1 + (n : Int) : Int) ∧ (1 + (n : Int) : Int).toNat < 2147483648)) = true := decide_eq_true (by first | omega | (simp [marks, hw32] <;> omega))
        have hc24 : (decide (((1 + (n : Int)) + (m : Int) : Int) < 0)) = false := decide_eq_false (by first | omega | (simp [marks, hw32] <;> omega))
        have hc25 : (decide ((rpE l0 l1 t).length = (rpE l0 l1 t).length ∧ (rpE l0 l1 t).length < 2147483648 ∧ 0 ≤ (1 : Int) ∧ (1 : Int).toNat < 2147483648)) = true := decide_eq_true (by first | omega | (simp [marks, hw32] <;> omega))
        have hc26 : (decide ((rpM l0 l1 t).length = (rpM l0 l1 t).length ∧ (rpM l0 l1 t).length < 2147483648 ∧ 0 ≤ (1 + ((rpE l0 l1 t).length : Int) : Int) ∧ (1 + ((rpE l0 l1 t).length : Int) : Int).toNat < 2147483648)) = true := decide_eq_true (by first | omega | (simp [marks, hw32] <;> omega))
        have hc27 : (decide (marks 1 ((rpE l0 l1 t).length) = marks 1 ((rpE l0 l1 t).length) ∧ (rpE l0 l1 t).length < 2147483648 ∧ 0 ≤ (1 : Int) ∧ (1 : Int) < 2147483648)) = true := decide_eq_true (by first | omega | (simp [marks, hw32] <;> omega))
        have hc28 : (decide ((1 + ((rpE l0 l1 t).length : Int) : Int) < 0)) = false := decide_eq_false (by first | omega | (simp [marks, hw32] <;> omega))
        have hc29 : (decide (marks (1 + ((rpE l0 l1 t).length : Int)) ((rpM l0 l1 t).length) = marks (1 + ((rpE l0 l1 t).length : Int)) ((rpM l0 l1 t).length) ∧ (rpM l0 l1 t).length < 2147483648 ∧ 0 ≤ (1 + ((rpE l0 l1 t).length : Int) : Int) ∧ (1 + ((rpE l0 l1 t).length : Int) : Int) < 2147483648)) = true := decide_eq_true (by first | omega | (simp [marks, hw32] <;> omega))
        have hc30 : (decide (((1 + ((rpE l0 l1 t).length : Int)) + ((rpM l0 l1 t).length : Int) : Int) < 0)) = false := decide_eq_false (by first | omega | (simp [marks, hw32] <;> omega))
        have hc31 : (((1 + ((rpE l0 l1 t).length : Int)) + ((rpM l0 l1 t).length : Int)) != ((1 + ((rpE l0 l1 t).length : Int)) + ((rpM l0 l1 t).length : Int))) = false := by first | rfl | simp [marks, hw32]
        rw [hc14, hc15, hc16, hc17, hc18, hc19, hc20, hc21, hc22, hc23, hc24, hc25, hc26, hc27, hc28, hc29, hc30, hc31]
    case true =>
      have fhc2 := of_decide_eq_true hc2
      rfl
  case true =>
    have fhc1 := of_decide_eq_true hc1
    rfl
def an_lawRpB : Ann := ⟨fun r =>  none, fun r n => if r = 10 ∧ n = 2 then .grow else .quiet⟩
def tab_lawRpB : Fns := tabT [(4, gA_stlawsszSteps), (6, gA_stlawstoSteps), (5, gRp), (7, gRp), (8, gA_stlawseqSteps), (9, gA_stlawsmarkSteps), (10, gA_stlawsheldSteps)]
theorem tabok_lawRpB : ∀ f, FnT Try.prog f (tab_lawRpB f) := (tabT_cons (k := 4) okA_stlawsszSteps (tabT_cons (k := 6) okA_stlawstoSteps (tabT_cons (k := 5) ok_rpS (tabT_cons (k := 7) ok_rpI (tabT_cons (k := 8) okA_stlawseqSteps (tabT_cons (k := 9) okA_stlawsmarkSteps (tabT_cons (k := 10) okA_stlawsheldSteps tabT_nil)))))))
theorem run_lawRpB (N : Nat) (n : Nat) (t : Int) (l0 : List Nat) : run ty tab_lawRpB an_lawRpB N Try.f3 [.g [.sl 0 0 n, .nil], .int .i64 t] [.at false (.fl .f32 l0)]
    = (match decide ((IntKind.i64.wrap (1048576 - ((n : Nat) : Int)) : Int) < 0) with | true => some (.bool true, [.at false (.fl .f32 l0)]) | false => (match decide ((IntKind.i64.wrap (1048576 - ((n : Nat) : Int)) : Int) < 0) with | true => some (.bool true, [.at false (.fl .f32 l0)]) | false => (match decide ((IntKind.i64.wrap ((IntKind.i64.wrap (1048576 - ((n : Nat) : Int))) - 0) : Int) < 0) with | true => some (.bool true, [.at false (.fl .f32 l0)]) | false => (match decide ((IntKind.i64.wrap ((IntKind.i64.wrap (1048576 - ((n : Nat) : Int))) - 0) : Int) < 0) with | true => some (.bool true, [.at false (.fl .f32 l0)]) | false => (match decide ((IntKind.i64.wrap ((IntKind.i64.wrap (1048576 - ((n : Nat) : Int))) - 0) : Int) < 0) with | true => some (.bool true, [.at false (.fl .f32 l0)]) | false => (match decide (l0.length = n ∧ n < 2147483648) with | true => (match decide (l0.length = n ∧ n < 2147483648 ∧ ([] : List Nat).length = 0 ∧ 0 < 2147483648 ∧ w32 ([] : List Nat) = true) with | true => (match rpOk l0 ([] : List Nat) t with | true => (match decide (l0.length = n ∧ n < 2147483648) with | true => (match decide (l0.length = n ∧ n < 2147483648 ∧ ([] : List Nat).length = 0 ∧ 0 < 2147483648 ∧ w32 ([] : List Nat) = true) with | true => (match rpOk l0 ([] : List Nat) t with | true => (match decide ((rpE l0 ([] : List Nat) t).length = (rpE l0 ([] : List Nat) t).length ∧ (rpE l0 ([] : List Nat) t).length = (rpE l0 ([] : List Nat) t).length ∧ (rpE l0 ([] : List Nat) t).length < 2147483648 ∧ (rpE l0 ([] : List Nat) t).length < 2147483648) with | true => (match !(eqFB (rpE l0 ([] : List Nat) t) (rpE l0 ([] : List Nat) t)) with | true => some (.bool false, [.at false (.fl .f32 l0)]) | false => (match decide ((rpM l0 ([] : List Nat) t).length = (rpM l0 ([] : List Nat) t).length ∧ (rpM l0 ([] : List Nat) t).length = (rpM l0 ([] : List Nat) t).length ∧ (rpM l0 ([] : List Nat) t).length < 2147483648 ∧ (rpM l0 ([] : List Nat) t).length < 2147483648) with | true => (match !(eqFB (rpM l0 ([] : List Nat) t) (rpM l0 ([] : List Nat) t)) with | true => some (.bool false, [.at false (.fl .f32 l0)]) | false => (match decide (l0.length = n ∧ n < 2147483648) with | true => (match decide (l0.length = n ∧ l0.length = n ∧ n < 2147483648 ∧ n < 2147483648) with | true => (match !(eqFB l0 l0) with | true => some (.bool false, [.at false (.fl .f32 l0)]) | false => (match decide (([] : List Nat).length = 0 ∧ ([] : List Nat).length = 0 ∧ 0 < 2147483648 ∧ 0 < 2147483648) with | true => (match !(eqFB ([] : List Nat) ([] : List Nat)) with | true => some (.bool false, [.at false (.fl .f32 l0)]) | false => (match decide (l0.length = n ∧ n < 2147483648 ∧ 0 ≤ (1 : Int) ∧ (1 : Int).toNat < 2147483648) with | true => (match decide (([] : List Nat).length = 0 ∧ 0 < 2147483648 ∧ 0 ≤ (1 + (n : Int) : Int) ∧ (1 + (n : Int) : Int).toNat < 2147483648) with | true => (match decide (((1 + (n : Int)) + (0 : Int) : Int) < 0) with | true => some (.bool false, [.at false (.fl .f32 l0)]) | false => (match decide ((rpE l0 ([] : List Nat) t).length = (rpE l0 ([] : List Nat) t).length ∧ (rpE l0 ([] : List Nat) t).length = (rpE l0 ([] : List Nat) t).length ∧ (rpE l0 ([] : List Nat) t).length < 2147483648 ∧ (rpE l0 ([] : List Nat) t).length < 2147483648) with | true => (match !(eqFB (rpE l0 ([] : List Nat) t) (rpE l0 ([] : List Nat) t)) with | true => some (.bool false, [.at false (.fl .f32 l0)]) | false => (match decide ((rpM l0 ([] : List Nat) t).length = (rpM l0 ([] : List Nat) t).length ∧ (rpM l0 ([] : List Nat) t).length = (rpM l0 ([] : List Nat) t).length ∧ (rpM l0 ([] : List Nat) t).length < 2147483648 ∧ (rpM l0 ([] : List Nat) t).length < 2147483648) with | true => (match !(eqFB (rpM l0 ([] : List Nat) t) (rpM l0 ([] : List Nat) t)) with | true => some (.bool false, [.at false (.fl .f32 l0)]) | false => (match decide ((rpE l0 ([] : List Nat) t).length = (rpE l0 ([] : List Nat) t).length ∧ (rpE l0 ([] : List Nat) t).length < 2147483648 ∧ 0 ≤ (1 : Int) ∧ (1 : Int).toNat < 2147483648) with | true => (match decide ((rpM l0 ([] : List Nat) t).length = (rpM l0 ([] : List Nat) t).length ∧ (rpM l0 ([] : List Nat) t).length < 2147483648 ∧ 0 ≤ (1 + ((rpE l0 ([] : List Nat) t).length : Int) : Int) ∧ (1 + ((rpE l0 ([] : List Nat) t).length : Int) : Int).toNat < 2147483648) with | true => (match decide (marks 1 ((rpE l0 ([] : List Nat) t).length) = marks 1 ((rpE l0 ([] : List Nat) t).length) ∧ (rpE l0 ([] : List Nat) t).length < 2147483648 ∧ 0 ≤ (1 : Int) ∧ (1 : Int) < 2147483648) with | true => (match decide ((1 + ((rpE l0 ([] : List Nat) t).length : Int) : Int) < 0) with | true => some (.bool false, [.at false (.fl .f32 l0)]) | false => (match decide (marks (1 + ((rpE l0 ([] : List Nat) t).length : Int)) ((rpM l0 ([] : List Nat) t).length) = marks (1 + ((rpE l0 ([] : List Nat) t).length : Int)) ((rpM l0 ([] : List Nat) t).length) ∧ (rpM l0 ([] : List Nat) t).length < 2147483648 ∧ 0 ≤ (1 + ((rpE l0 ([] : List Nat) t).length : Int) : Int) ∧ (1 + ((rpE l0 ([] : List Nat) t).length : Int) : Int) < 2147483648) with | true => (match decide (((1 + ((rpE l0 ([] : List Nat) t).length : Int)) + ((rpM l0 ([] : List Nat) t).length : Int) : Int) < 0) with | true => some (.bool false, [.at false (.fl .f32 l0)]) | false => (match decide (((1 + ((rpE l0 ([] : List Nat) t).length : Int)) + ((rpM l0 ([] : List Nat) t).length : Int) : Int) < 0) with | true => some (.bool false, [.at false (.fl .f32 l0)]) | false => (match ((1 + ((rpE l0 ([] : List Nat) t).length : Int)) + ((rpM l0 ([] : List Nat) t).length : Int)) != ((1 + ((rpE l0 ([] : List Nat) t).length : Int)) + ((rpM l0 ([] : List Nat) t).length : Int)) with | true => some (.bool false, [.at false (.fl .f32 l0)]) | false => (match decide (l0.length = n ∧ n < 2147483648) with | true => (match decide (l0.length = n ∧ n < 2147483648 ∧ ([] : List Nat).length = 0 ∧ 0 < 2147483648 ∧ w32 ([] : List Nat) = true) with | true => (match rpOk l0 ([] : List Nat) t with | true => (match decide ((rpE l0 ([] : List Nat) t).length = (rpE l0 ([] : List Nat) t).length ∧ (rpE l0 ([] : List Nat) t).length = (rpE l0 ([] : List Nat) t).length ∧ (rpE l0 ([] : List Nat) t).length < 2147483648 ∧ (rpE l0 ([] : List Nat) t).length < 2147483648) with | true => (match !(eqFB (rpE l0 ([] : List Nat) t) (rpE l0 ([] : List Nat) t)) with | true => some (.bool false, [.at false (.fl .f32 l0)]) | false => (match decide ((rpM l0 ([] : List Nat) t).length = (rpM l0 ([] : List Nat) t).length ∧ (rpM l0 ([] : List Nat) t).length = (rpM l0 ([] : List Nat) t).length ∧ (rpM l0 ([] : List Nat) t).length < 2147483648 ∧ (rpM l0 ([] : List Nat) t).length < 2147483648) with | true => (match !(eqFB (rpM l0 ([] : List Nat) t) (rpM l0 ([] : List Nat) t)) with | true => some (.bool false, [.at false (.fl .f32 l0)]) | false => (match decide (marks 1 ((rpE l0 ([] : List Nat) t).length) = marks 1 ((rpE l0 ([] : List Nat) t).length) ∧ (rpE l0 ([] : List Nat) t).length < 2147483648 ∧ 0 ≤ (1 : Int) ∧ (1 : Int) < 2147483648) with | true => (match decide ((1 + ((rpE l0 ([] : List Nat) t).length : Int) : Int) < 0) with | true => some (.bool false, [.at false (.fl .f32 l0)]) | false => (match decide (marks (1 + ((rpE l0 ([] : List Nat) t).length : Int)) ((rpM l0 ([] : List Nat) t).length) = marks (1 + ((rpE l0 ([] : List Nat) t).length : Int)) ((rpM l0 ([] : List Nat) t).length) ∧ (rpM l0 ([] : List Nat) t).length < 2147483648 ∧ 0 ≤ (1 + ((rpE l0 ([] : List Nat) t).length : Int) : Int) ∧ (1 + ((rpE l0 ([] : List Nat) t).length : Int) : Int) < 2147483648) with | true => (match decide (((1 + ((rpE l0 ([] : List Nat) t).length : Int)) + ((rpM l0 ([] : List Nat) t).length : Int) : Int) < 0) with | true => some (.bool false, [.at false (.fl .f32 l0)]) | false => (match decide (((1 + ((rpE l0 ([] : List Nat) t).length : Int)) + ((rpM l0 ([] : List Nat) t).length : Int) : Int) < 0) with | true => some (.bool false, [.at false (.fl .f32 l0)]) | false => (match ((1 + ((rpE l0 ([] : List Nat) t).length : Int)) + ((rpM l0 ([] : List Nat) t).length : Int)) != ((1 + ((rpE l0 ([] : List Nat) t).length : Int)) + ((rpM l0 ([] : List Nat) t).length : Int)) with | true => some (.bool false, [.at false (.fl .f32 l0)]) | false => some (.bool true, [.at false (.fl .f32 l0)])))) | false => none)) | false => none)) | false => none)) | false => none) | false => none) | false => none) | false => none)))) | false => none)) | false => none) | false => none) | false => none)) | false => none)) | false => none)) | false => none) | false => none)) | false => none)) | false => none) | false => none)) | false => none)) | false => none) | false => none) | false => none) | false => none) | false => (match decide (l0.length = n ∧ n < 2147483648) with | true => (match decide (l0.length = n ∧ n < 2147483648 ∧ ([] : List Nat).length = 0 ∧ 0 < 2147483648 ∧ w32 ([] : List Nat) = true) with | true => (match rpOk l0 ([] : List Nat) t with | true => none | false => (match decide (l0.length = n ∧ n < 2147483648) with | true => (match decide (l0.length = n ∧ l0.length = n ∧ n < 2147483648 ∧ n < 2147483648) with | true => (match !(eqFB l0 l0) with | true => some (.bool false, [.at false (.fl .f32 l0)]) | false => (match decide (([] : List Nat).length = 0 ∧ ([] : List Nat).length = 0 ∧ 0 < 2147483648 ∧ 0 < 2147483648) with | true => (match !(eqFB ([] : List Nat) ([] : List Nat)) with | true => some (.bool false, [.at false (.fl .f32 l0)]) | false => (match decide (l0.length = n ∧ n < 2147483648 ∧ 0 ≤ (1 : Int) ∧ (1 : Int).toNat < 2147483648) with | true => (match decide (([] : List Nat).length = 0 ∧ 0 < 2147483648 ∧ 0 ≤ (1 + (n : Int) : Int) ∧ (1 + (n : Int) : Int).toNat < 2147483648) with | true => (match decide (((1 + (n : Int)) + (0 : Int) : Int) < 0) with | true => some (.bool false, [.at false (.fl .f32 l0)]) | false => (match decide (l0.length = n ∧ n < 2147483648) with | true => (match decide (l0.length = n ∧ n < 2147483648 ∧ ([] : List Nat).length = 0 ∧ 0 < 2147483648 ∧ w32 ([] : List Nat) = true) with | true => (match rpOk l0 ([] : List Nat) t with | true => none | false => some (.bool true, [.at false (.fl .f32 l0)])) | false => none) | false => none)) | false => none) | false => none)) | false => none)) | false => none) | false => none)) | false => none) | false => none)) | false => none) | false => none)))))) := by
  kernel_rfl
theorem H_lawRpB (n : Nat) (t : Int) (l0 : List Nat) (hn : l0.length = n) (bhn : n ≤ 9223372036854775807) : run ty tab_lawRpB an_lawRpB 0 Try.f3 [.g [.sl 0 0 n, .nil], .int .i64 t] [.at false (.fl .f32 l0)] = some (.bool true, [.at false (.fl .f32 l0)]) := by
  have hw32 : w32 ([] : List Nat) = true := rfl
  refine Eq.trans (run_lawRpB 0 n t l0) ?_
  cases hc1 : decide ((IntKind.i64.wrap (1048576 - ((n : Nat) : Int)) : Int) < 0)
  case false =>
    have fhc1 := of_decide_eq_false hc1
    have ghc1 := sz_le hc1 (by omega) (by omega) (by omega) (by omega)
    cases hc2 : decide ((IntKind.i64.wrap ((IntKind.i64.wrap (1048576 - ((n : Nat) : Int))) - 0) : Int) < 0)
    case false =>
      have fhc2 := of_decide_eq_false hc2
      have ghc2 := sz_le hc2 (by omega) (by omega) (by omega) (by omega)
      have hc3 : (decide (l0.length = n ∧ n < 2147483648)) = true := decide_eq_true (by first | omega | (simp [marks, hw32] <;> omega))
      have hc4 : (decide (l0.length = n ∧ n < 2147483648 ∧ ([] : List Nat).length = 0 ∧ 0 < 2147483648 ∧ w32 ([] : List Nat) = true)) = true := decide_eq_true (by first | omega | (simp [marks, hw32] <;> omega))
      rw [hc3, hc4]
      cases hc5 : rpOk l0 ([] : List Nat) t
      case false =>
        have hc6 : (decide (l0.length = n ∧ l0.length = n ∧ n < 2147483648 ∧ n < 2147483648)) = true := decide_eq_true (by first | omega | (simp [marks, hw32] <;> omega))
        have hc7 : (!(eqFB l0 l0)) = false := by rw [eqFB_self]; rfl
        have hc8 : (decide (([] : List Nat).length = 0 ∧ ([] : List Nat).length = 0 ∧ 0 < 2147483648 ∧ 0 < 2147483648)) = true := decide_eq_true (by first | omega | (simp [marks, hw32] <;> omega))
        have hc9 : (!(eqFB ([] : List Nat) ([] : List Nat))) = false := by rw [eqFB_self]; rfl
        have hc10 : (decide (l0.length = n ∧ n < 2147483648 ∧ 0 ≤ (1 : Int) ∧ (1 : Int).toNat < 2147483648)) = true := decide_eq_true (by first | omega | (simp [marks, hw32] <;> omega))
        have hc11 : (decide (([] : List Nat).length = 0 ∧ 0 < 2147483648 ∧ 0 ≤ (1 + (n : Int) : Int) ∧ (1 + (n : Int) : Int).toNat < 2147483648)) = true := decide_eq_true (by first | omega | (simp [marks, hw32] <;> omega))
        have hc12 : (decide (((1 + (n : Int)) + (0 : Int) : Int) < 0)) = false := decide_eq_false (by first | omega | (simp [marks, hw32] <;> omega))
        rw [hc6, hc7, hc8, hc9, hc10, hc11, hc12]
      case true =>
        have ghc5 := rp_len hc5
        have hc13 : (decide ((rpE l0 ([] : List Nat) t).length = (rpE l0 ([] : List Nat) t).length ∧ (rpE l0 ([] : List Nat) t).length = (rpE l0 ([] : List Nat) t).length ∧ (rpE l0 ([] : List Nat) t).length < 2147483648 ∧ (rpE l0 ([] : List Nat) t).length < 2147483648)) = true := decide_eq_true (by first | omega | (simp [marks, hw32] <;> omega))
        have hc14 : (!(eqFB (rpE l0 ([] : List Nat) t) (rpE l0 ([] : List Nat) t))) = false := by rw [eqFB_self]; rfl
        have hc15 : (decide ((rpM l0 ([] : List Nat) t).length = (rpM l0 ([] : List Nat) t).length ∧ (rpM l0 ([] : List Nat) t).length = (rpM l0 ([] : List Nat) t).length ∧ (rpM l0 ([] : List Nat) t).length < 2147483648 ∧ (rpM l0 ([] : List Nat) t).length < 2147483648)) = true := decide_eq_true (by first | omega | (simp [marks, hw32] <;> omega))
        have hc16 : (!(eqFB (rpM l0 ([] : List Nat) t) (rpM l0 ([] : List Nat) t))) = false := by rw [eqFB_self]; rfl
        have hc17 : (decide (l0.length = n ∧ l0.length = n ∧ n < 2147483648 ∧ n < 2147483648)) = true := decide_eq_true (by first | omega | (simp [marks, hw32] <;> omega))
        have hc18 : (!(eqFB l0 l0)) = false := by rw [eqFB_self]; rfl
        have hc19 : (decide (([] : List Nat).length = 0 ∧ ([] : List Nat).length = 0 ∧ 0 < 2147483648 ∧ 0 < 2147483648)) = true := decide_eq_true (by first | omega | (simp [marks, hw32] <;> omega))
        have hc20 : (!(eqFB ([] : List Nat) ([] : List Nat))) = false := by rw [eqFB_self]; rfl
        have hc21 : (decide (l0.length = n ∧ n < 2147483648 ∧ 0 ≤ (1 : Int) ∧ (1 : Int).toNat < 2147483648)) = true := decide_eq_true (by first | omega | (simp [marks, hw32] <;> omega))
        have hc22 : (decide (([] : List Nat).length = 0 ∧ 0 < 2147483648 ∧ 0 ≤ (1 + (n : Int) : Int) ∧ (1 + (n : Int) : Int).toNat < 2147483648)) = true := decide_eq_true (by first | omega | (simp [marks, hw32] <;> omega))
        have hc23 : (decide (((1 + (n : Int)) + (0 : Int) : Int) < 0)) = false := decide_eq_false (by first | omega | (simp [marks, hw32] <;> omega))
        have hc24 : (decide ((rpE l0 ([] : List Nat) t).length = (rpE l0 ([] : List Nat) t).length ∧ (rpE l0 ([] : List Nat) t).length < 2147483648 ∧ 0 ≤ (1 : Int) ∧ (1 : Int).toNat < 2147483648)) = true := decide_eq_true (by first | omega | (simp [marks, hw32] <;> omega))
        have hc25 : (decide ((rpM l0 ([] : List Nat) t).length = (rpM l0 ([] : List Nat) t).length ∧ (rpM l0 ([] : List Nat) t).length < 2147483648 ∧ 0 ≤ (1 + ((rpE l0 ([] : List Nat) t).length : Int) : Int) ∧ (1 + ((rpE l0 ([] : List Nat) t).length : Int) : Int).toNat < 2147483648)) = true := decide_eq_true (by first | omega | (simp [marks, hw32] <;> omega))
        have hc26 : (decide (marks 1 ((rpE l0 ([] : List Nat) t).length) = marks 1 ((rpE l0 ([] : List Nat) t).length) ∧ (rpE l0 ([] : List Nat) t).length < 2147483648 ∧ 0 ≤ (1 : Int) ∧ (1 : Int) < 2147483648)) = true := decide_eq_true (by first | omega | (simp [marks, hw32] <;> omega))
        have hc27 : (decide ((1 + ((rpE l0 ([] : List Nat) t).length : Int) : Int) < 0)) = false := decide_eq_false (by first | omega | (simp [marks, hw32] <;> omega))
        have hc28 : (decide (marks (1 + ((rpE l0 ([] : List Nat) t).length : Int)) ((rpM l0 ([] : List Nat) t).length) = marks (1 + ((rpE l0 ([] : List Nat) t).length : Int)) ((rpM l0 ([] : List Nat) t).length) ∧ (rpM l0 ([] : List Nat) t).length < 2147483648 ∧ 0 ≤ (1 + ((rpE l0 ([] : List Nat) t).length : Int) : Int) ∧ (1 + ((rpE l0 ([] : List Nat) t).length : Int) : Int) < 2147483648)) = true := decide_eq_true (by first | omega | (simp [marks, hw32] <;> omega))
        have hc29 : (decide (((1 + ((rpE l0 ([] : List Nat) t).length : Int)) + ((rpM l0 ([] : List Nat) t).length : Int) : Int) < 0)) = false := decide_eq_false (by first | omega | (simp [marks, hw32] <;> omega))
        have hc30 : (((1 + ((rpE l0 ([] : List Nat) t).length : Int)) + ((rpM l0 ([] : List Nat) t).length : Int)) != ((1 + ((rpE l0 ([] : List Nat) t).length : Int)) + ((rpM l0 ([] : List Nat) t).length : Int))) = false := by first | rfl | simp [marks, hw32]
        rw [hc13, hc14, hc15, hc16, hc17, hc18, hc19, hc20, hc21, hc22, hc23, hc24, hc25, hc26, hc27, hc28, hc29, hc30]
    case true =>
      have fhc2 := of_decide_eq_true hc2
      rfl
  case true =>
    have fhc1 := of_decide_eq_true hc1
    rfl
def an_lawRpC : Ann := ⟨fun r =>  none, fun r n => if r = 10 ∧ n = 2 then .grow else .quiet⟩
def tab_lawRpC : Fns := tabT [(4, gA_stlawsszSteps), (6, gA_stlawstoSteps), (5, gRp), (7, gRp), (8, gA_stlawseqSteps), (9, gA_stlawsmarkSteps), (10, gA_stlawsheldSteps)]
theorem tabok_lawRpC : ∀ f, FnT Try.prog f (tab_lawRpC f) := (tabT_cons (k := 4) okA_stlawsszSteps (tabT_cons (k := 6) okA_stlawstoSteps (tabT_cons (k := 5) ok_rpS (tabT_cons (k := 7) ok_rpI (tabT_cons (k := 8) okA_stlawseqSteps (tabT_cons (k := 9) okA_stlawsmarkSteps (tabT_cons (k := 10) okA_stlawsheldSteps tabT_nil)))))))
theorem run_lawRpC (N : Nat) (m : Nat) (t : Int) (l1 : List Nat) : run ty tab_lawRpC an_lawRpC N Try.f3 [.g [.nil, .sl 0 0 m], .int .i64 t] [.at false (.fl .f32 l1)]
    = (match decide ((IntKind.i64.wrap (1048576 - ((m : Nat) : Int)) : Int) < 0) with | true => some (.bool true, [.at false (.fl .f32 l1)]) | false => (match decide ((IntKind.i64.wrap (1048576 - ((m : Nat) : Int)) : Int) < 0) with | true => some (.bool true, [.at false (.fl .f32 l1)]) | false => (match decide ((IntKind.i64.wrap (1048576 - ((m : Nat) : Int)) : Int) < 0) with | true => some (.bool true, [.at false (.fl .f32 l1)]) | false => (match decide (l1.length = m ∧ m < 2147483648) with | true => (match decide (([] : List Nat).length = 0 ∧ 0 < 2147483648 ∧ l1.length = m ∧ m < 2147483648 ∧ w32 l1 = true) with | true => (match rpOk ([] : List Nat) l1 t with | true => (match decide (l1.length = m ∧ m < 2147483648) with | true => (match decide (([] : List Nat).length = 0 ∧ 0 < 2147483648 ∧ l1.length = m ∧ m < 2147483648 ∧ w32 l1 = true) with | true => (match rpOk ([] : List Nat) l1 t with | true => (match decide ((rpE ([] : List Nat) l1 t).length = (rpE ([] : List Nat) l1 t).length ∧ (rpE ([] : List Nat) l1 t).length = (rpE ([] : List Nat) l1 t).length ∧ (rpE ([] : List Nat) l1 t).length < 2147483648 ∧ (rpE ([] : List Nat) l1 t).length < 2147483648) with | true => (match !(eqFB (rpE ([] : List Nat) l1 t) (rpE ([] : List Nat) l1 t)) with | true => some (.bool false, [.at false (.fl .f32 l1)]) | false => (match decide ((rpM ([] : List Nat) l1 t).length = (rpM ([] : List Nat) l1 t).length ∧ (rpM ([] : List Nat) l1 t).length = (rpM ([] : List Nat) l1 t).length ∧ (rpM ([] : List Nat) l1 t).length < 2147483648 ∧ (rpM ([] : List Nat) l1 t).length < 2147483648) with | true => (match !(eqFB (rpM ([] : List Nat) l1 t) (rpM ([] : List Nat) l1 t)) with | true => some (.bool false, [.at false (.fl .f32 l1)]) | false => (match decide (l1.length = m ∧ m < 2147483648) with | true => (match decide (([] : List Nat).length = 0 ∧ ([] : List Nat).length = 0 ∧ 0 < 2147483648 ∧ 0 < 2147483648) with | true => (match !(eqFB ([] : List Nat) ([] : List Nat)) with | true => some (.bool false, [.at false (.fl .f32 l1)]) | false => (match decide (l1.length = m ∧ l1.length = m ∧ m < 2147483648 ∧ m < 2147483648) with | true => (match !(eqFB l1 l1) with | true => some (.bool false, [.at false (.fl .f32 l1)]) | false => (match decide (([] : List Nat).length = 0 ∧ 0 < 2147483648 ∧ 0 ≤ (1 : Int) ∧ (1 : Int).toNat < 2147483648) with | true => (match decide (l1.length = m ∧ m < 2147483648 ∧ 0 ≤ (1 + (0 : Int) : Int) ∧ (1 + (0 : Int) : Int).toNat < 2147483648) with | true => (match decide (((1 + (0 : Int)) + (m : Int) : Int) < 0) with | true => some (.bool false, [.at false (.fl .f32 l1)]) | false => (match decide ((rpE ([] : List Nat) l1 t).length = (rpE ([] : List Nat) l1 t).length ∧ (rpE ([] : List Nat) l1 t).length = (rpE ([] : List Nat) l1 t).length ∧ (rpE ([] : List Nat) l1 t).length < 2147483648 ∧ (rpE ([] : List Nat) l1 t).length < 2147483648) with | true => (match !(eqFB (rpE ([] : List Nat) l1 t) (rpE ([] : List Nat) l1 t)) with | true => some (.bool false, [.at false (.fl .f32 l1)]) | false => (match decide ((rpM ([] : List Nat) l1 t).length = (rpM ([] : List Nat) l1 t).length ∧ (rpM ([] : List Nat) l1 t).length = (rpM ([] : List Nat) l1 t).length ∧ (rpM ([] : List Nat) l1 t).length < 2147483648 ∧ (rpM ([] : List Nat) l1 t).length < 2147483648) with | true => (match !(eqFB (rpM ([] : List Nat) l1 t) (rpM ([] : List Nat) l1 t)) with | true => some (.bool false, [.at false (.fl .f32 l1)]) | false => (match decide ((rpE ([] : List Nat) l1 t).length = (rpE ([] : List Nat) l1 t).length ∧ (rpE ([] : List Nat) l1 t).length < 2147483648 ∧ 0 ≤ (1 : Int) ∧ (1 : Int).toNat < 2147483648) with | true => (match decide ((rpM ([] : List Nat) l1 t).length = (rpM ([] : List Nat) l1 t).length ∧ (rpM ([] : List Nat) l1 t).length < 2147483648 ∧ 0 ≤ (1 + ((rpE ([] : List Nat) l1 t).length : Int) : Int) ∧ (1 + ((rpE ([] : List Nat) l1 t).length : Int) : Int).toNat < 2147483648) with | true => (match decide (marks 1 ((rpE ([] : List Nat) l1 t).length) = marks 1 ((rpE ([] : List Nat) l1 t).length) ∧ (rpE ([] : List Nat) l1 t).length < 2147483648 ∧ 0 ≤ (1 : Int) ∧ (1 : Int) < 2147483648) with | true => (match decide ((1 + ((rpE ([] : List Nat) l1 t).length : Int) : Int) < 0) with | true => some (.bool false, [.at false (.fl .f32 l1)]) | false => (match decide (marks (1 + ((rpE ([] : List Nat) l1 t).length : Int)) ((rpM ([] : List Nat) l1 t).length) = marks (1 + ((rpE ([] : List Nat) l1 t).length : Int)) ((rpM ([] : List Nat) l1 t).length) ∧ (rpM ([] : List Nat) l1 t).length < 2147483648 ∧ 0 ≤ (1 + ((rpE ([] : List Nat) l1 t).length : Int) : Int) ∧ (1 + ((rpE ([] : List Nat) l1 t).length : Int) : Int) < 2147483648) with | true => (match decide (((1 + ((rpE ([] : List Nat) l1 t).length : Int)) + ((rpM ([] : List Nat) l1 t).length : Int) : Int) < 0) with | true => some (.bool false, [.at false (.fl .f32 l1)]) | false => (match decide (((1 + ((rpE ([] : List Nat) l1 t).length : Int)) + ((rpM ([] : List Nat) l1 t).length : Int) : Int) < 0) with | true => some (.bool false, [.at false (.fl .f32 l1)]) | false => (match ((1 + ((rpE ([] : List Nat) l1 t).length : Int)) + ((rpM ([] : List Nat) l1 t).length : Int)) != ((1 + ((rpE ([] : List Nat) l1 t).length : Int)) + ((rpM ([] : List Nat) l1 t).length : Int)) with | true => some (.bool false, [.at false (.fl .f32 l1)]) | false => (match decide (l1.length = m ∧ m < 2147483648) with | true => (match decide (([] : List Nat).length = 0 ∧ 0 < 2147483648 ∧ l1.length = m ∧ m < 2147483648 ∧ w32 l1 = true) with | true => (match rpOk ([] : List Nat) l1 t with | true => (match decide ((rpE ([] : List Nat) l1 t).length = (rpE ([] : List Nat) l1 t).length ∧ (rpE ([] : List Nat) l1 t).length = (rpE ([] : List Nat) l1 t).length ∧ (rpE ([] : List Nat) l1 t).length < 2147483648 ∧ (rpE ([] : List Nat) l1 t).length < 2147483648) with | true => (match !(eqFB (rpE ([] : List Nat) l1 t) (rpE ([] : List Nat) l1 t)) with | true => some (.bool false, [.at false (.fl .f32 l1)]) | false => (match decide ((rpM ([] : List Nat) l1 t).length = (rpM ([] : List Nat) l1 t).length ∧ (rpM ([] : List Nat) l1 t).length = (rpM ([] : List Nat) l1 t).length ∧ (rpM ([] : List Nat) l1 t).length < 2147483648 ∧ (rpM ([] : List Nat) l1 t).length < 2147483648) with | true => (match !(eqFB (rpM ([] : List Nat) l1 t) (rpM ([] : List Nat) l1 t)) with | true => some (.bool false, [.at false (.fl .f32 l1)]) | false => (match decide (marks 1 ((rpE ([] : List Nat) l1 t).length) = marks 1 ((rpE ([] : List Nat) l1 t).length) ∧ (rpE ([] : List Nat) l1 t).length < 2147483648 ∧ 0 ≤ (1 : Int) ∧ (1 : Int) < 2147483648) with | true => (match decide ((1 + ((rpE ([] : List Nat) l1 t).length : Int) : Int) < 0) with | true => some (.bool false, [.at false (.fl .f32 l1)]) | false => (match decide (marks (1 + ((rpE ([] : List Nat) l1 t).length : Int)) ((rpM ([] : List Nat) l1 t).length) = marks (1 + ((rpE ([] : List Nat) l1 t).length : Int)) ((rpM ([] : List Nat) l1 t).length) ∧ (rpM ([] : List Nat) l1 t).length < 2147483648 ∧ 0 ≤ (1 + ((rpE ([] : List Nat) l1 t).length : Int) : Int) ∧ (1 + ((rpE ([] : List Nat) l1 t).length : Int) : Int) < 2147483648) with | true => (match decide (((1 + ((rpE ([] : List Nat) l1 t).length : Int)) + ((rpM ([] : List Nat) l1 t).length : Int) : Int) < 0) with | true => some (.bool false, [.at false (.fl .f32 l1)]) | false => (match decide (((1 + ((rpE ([] : List Nat) l1 t).length : Int)) + ((rpM ([] : List Nat) l1 t).length : Int) : Int) < 0) with | true => some (.bool false, [.at false (.fl .f32 l1)]) | false => (match ((1 + ((rpE ([] : List Nat) l1 t).length : Int)) + ((rpM ([] : List Nat) l1 t).length : Int)) != ((1 + ((rpE ([] : List Nat) l1 t).length : Int)) + ((rpM ([] : List Nat) l1 t).length : Int)) with | true => some (.bool false, [.at false (.fl .f32 l1)]) | false => some (.bool true, [.at false (.fl .f32 l1)])))) | false => none)) | false => none)) | false => none)) | false => none) | false => none) | false => none) | false => none)))) | false => none)) | false => none) | false => none) | false => none)) | false => none)) | false => none)) | false => none) | false => none)) | false => none)) | false => none) | false => none)) | false => none)) | false => none) | false => none) | false => none) | false => none) | false => (match decide (l1.length = m ∧ m < 2147483648) with | true => (match decide (([] : List Nat).length = 0 ∧ 0 < 2147483648 ∧ l1.length = m ∧ m < 2147483648 ∧ w32 l1 = true) with | true => (match rpOk ([] : List Nat) l1 t with | true => none | false => (match decide (l1.length = m ∧ m < 2147483648) with | true => (match decide (([] : List Nat).length = 0 ∧ ([] : List Nat).length = 0 ∧ 0 < 2147483648 ∧ 0 < 2147483648) with | true => (match !(eqFB ([] : List Nat) ([] : List Nat)) with | true => some (.bool false, [.at false (.fl .f32 l1)]) | false => (match decide (l1.length = m ∧ l1.length = m ∧ m < 2147483648 ∧ m < 2147483648) with | true => (match !(eqFB l1 l1) with | true => some (.bool false, [.at false (.fl .f32 l1)]) | false => (match decide (([] : List Nat).length = 0 ∧ 0 < 2147483648 ∧ 0 ≤ (1 : Int) ∧ (1 : Int).toNat < 2147483648) with | true => (match decide (l1.length = m ∧ m < 2147483648 ∧ 0 ≤ (1 + (0 : Int) : Int) ∧ (1 + (0 : Int) : Int).toNat < 2147483648) with | true => (match decide (((1 + (0 : Int)) + (m : Int) : Int) < 0) with | true => some (.bool false, [.at false (.fl .f32 l1)]) | false => (match decide (l1.length = m ∧ m < 2147483648) with | true => (match decide (([] : List Nat).length = 0 ∧ 0 < 2147483648 ∧ l1.length = m ∧ m < 2147483648 ∧ w32 l1 = true) with | true => (match rpOk ([] : List Nat) l1 t with | true => none | false => some (.bool true, [.at false (.fl .f32 l1)])) | false => none) | false => none)) | false => none) | false => none)) | false => none)) | false => none) | false => none)) | false => none) | false => none)) | false => none) | false => none)))) := by
  kernel_rfl
theorem H_lawRpC (m : Nat) (t : Int) (l1 : List Nat) (hm : l1.length = m) (bhm : m ≤ 9223372036854775807) (hw32 : w32 l1 = true) : run ty tab_lawRpC an_lawRpC 0 Try.f3 [.g [.nil, .sl 0 0 m], .int .i64 t] [.at false (.fl .f32 l1)] = some (.bool true, [.at false (.fl .f32 l1)]) := by
  refine Eq.trans (run_lawRpC 0 m t l1) ?_
  cases hc1 : decide ((IntKind.i64.wrap (1048576 - ((m : Nat) : Int)) : Int) < 0)
  case false =>
    have fhc1 := of_decide_eq_false hc1
    have ghc1 := sz_le hc1 (by omega) (by omega) (by omega) (by omega)
    have hc2 : (decide (l1.length = m ∧ m < 2147483648)) = true := decide_eq_true (by first | omega | (simp [marks, hw32] <;> omega))
    have hc3 : (decide (([] : List Nat).length = 0 ∧ 0 < 2147483648 ∧ l1.length = m ∧ m < 2147483648 ∧ w32 l1 = true)) = true := decide_eq_true (by first | omega | (simp [marks, hw32] <;> omega))
    rw [hc2, hc3]
    cases hc4 : rpOk ([] : List Nat) l1 t
    case false =>
      have hc5 : (decide (([] : List Nat).length = 0 ∧ ([] : List Nat).length = 0 ∧ 0 < 2147483648 ∧ 0 < 2147483648)) = true := decide_eq_true (by first | omega | (simp [marks, hw32] <;> omega))
      have hc6 : (!(eqFB ([] : List Nat) ([] : List Nat))) = false := by rw [eqFB_self]; rfl
      have hc7 : (decide (l1.length = m ∧ l1.length = m ∧ m < 2147483648 ∧ m < 2147483648)) = true := decide_eq_true (by first | omega | (simp [marks, hw32] <;> omega))
      have hc8 : (!(eqFB l1 l1)) = false := by rw [eqFB_self]; rfl
      have hc9 : (decide (([] : List Nat).length = 0 ∧ 0 < 2147483648 ∧ 0 ≤ (1 : Int) ∧ (1 : Int).toNat < 2147483648)) = true := decide_eq_true (by first | omega | (simp [marks, hw32] <;> omega))
      have hc10 : (decide (l1.length = m ∧ m < 2147483648 ∧ 0 ≤ (1 + (0 : Int) : Int) ∧ (1 + (0 : Int) : Int).toNat < 2147483648)) = true := decide_eq_true (by first | omega | (simp [marks, hw32] <;> omega))
      have hc11 : (decide (((1 + (0 : Int)) + (m : Int) : Int) < 0)) = false := decide_eq_false (by first | omega | (simp [marks, hw32] <;> omega))
      rw [hc5, hc6, hc7, hc8, hc9, hc10, hc11]
    case true =>
      have ghc4 := rp_len hc4
      have hc12 : (decide ((rpE ([] : List Nat) l1 t).length = (rpE ([] : List Nat) l1 t).length ∧ (rpE ([] : List Nat) l1 t).length = (rpE ([] : List Nat) l1 t).length ∧ (rpE ([] : List Nat) l1 t).length < 2147483648 ∧ (rpE ([] : List Nat) l1 t).length < 2147483648)) = true := decide_eq_true (by first | omega | (simp [marks, hw32] <;> omega))
      have hc13 : (!(eqFB (rpE ([] : List Nat) l1 t) (rpE ([] : List Nat) l1 t))) = false := by rw [eqFB_self]; rfl
      have hc14 : (decide ((rpM ([] : List Nat) l1 t).length = (rpM ([] : List Nat) l1 t).length ∧ (rpM ([] : List Nat) l1 t).length = (rpM ([] : List Nat) l1 t).length ∧ (rpM ([] : List Nat) l1 t).length < 2147483648 ∧ (rpM ([] : List Nat) l1 t).length < 2147483648)) = true := decide_eq_true (by first | omega | (simp [marks, hw32] <;> omega))
      have hc15 : (!(eqFB (rpM ([] : List Nat) l1 t) (rpM ([] : List Nat) l1 t))) = false := by rw [eqFB_self]; rfl
      have hc16 : (decide (([] : List Nat).length = 0 ∧ ([] : List Nat).length = 0 ∧ 0 < 2147483648 ∧ 0 < 2147483648)) = true := decide_eq_true (by first | omega | (simp [marks, hw32] <;> omega))
      have hc17 : (!(eqFB ([] : List Nat) ([] : List Nat))) = false := by rw [eqFB_self]; rfl
      have hc18 : (decide (l1.length = m ∧ l1.length = m ∧ m < 2147483648 ∧ m < 2147483648)) = true := decide_eq_true (by first | omega | (simp [marks, hw32] <;> omega))
      have hc19 : (!(eqFB l1 l1)) = false := by rw [eqFB_self]; rfl
      have hc20 : (decide (([] : List Nat).length = 0 ∧ 0 < 2147483648 ∧ 0 ≤ (1 : Int) ∧ (1 : Int).toNat < 2147483648)) = true := decide_eq_true (by first | omega | (simp [marks, hw32] <;> omega))
      have hc21 : (decide (l1.length = m ∧ m < 2147483648 ∧ 0 ≤ (1 + (0 : Int) : Int) ∧ (1 + (0 : Int) : Int).toNat < 2147483648)) = true := decide_eq_true (by first | omega | (simp [marks, hw32] <;> omega))
      have hc22 : (decide (((1 + (0 : Int)) + (m : Int) : Int) < 0)) = false := decide_eq_false (by first | omega | (simp [marks, hw32] <;> omega))
      have hc23 : (decide ((rpE ([] : List Nat) l1 t).length = (rpE ([] : List Nat) l1 t).length ∧ (rpE ([] : List Nat) l1 t).length < 2147483648 ∧ 0 ≤ (1 : Int) ∧ (1 : Int).toNat < 2147483648)) = true := decide_eq_true (by first | omega | (simp [marks, hw32] <;> omega))
      have hc24 : (decide ((rpM ([] : List Nat) l1 t).length = (rpM ([] : List Nat) l1 t).length ∧ (rpM ([] : List Nat) l1 t).length < 2147483648 ∧ 0 ≤ (1 + ((rpE ([] : List Nat) l1 t).length : Int) : Int) ∧ (1 + ((rpE ([] : List Nat) l1 t).length : Int) : Int).toNat < 2147483648)) = true := decide_eq_true (by first | omega | (simp [marks, hw32] <;> omega))
      have hc25 : (decide (marks 1 ((rpE ([] : List Nat) l1 t).length) = marks 1 ((rpE ([] : List Nat) l1 t).length) ∧ (rpE ([] : List Nat) l1 t).length < 2147483648 ∧ 0 ≤ (1 : Int) ∧ (1 : Int) < 2147483648)) = true := decide_eq_true (by first | omega | (simp [marks, hw32] <;> omega))
      have hc26 : (decide ((1 + ((rpE ([] : List Nat) l1 t).length : Int) : Int) < 0)) = false := decide_eq_false (by first | omega | (simp [marks, hw32] <;> omega))
      have hc27 : (decide (marks (1 + ((rpE ([] : List Nat) l1 t).length : Int)) ((rpM ([] : List Nat) l1 t).length) = marks (1 + ((rpE ([] : List Nat) l1 t).length : Int)) ((rpM ([] : List Nat) l1 t).length) ∧ (rpM ([] : List Nat) l1 t).length < 2147483648 ∧ 0 ≤ (1 + ((rpE ([] : List Nat) l1 t).length : Int) : Int) ∧ (1 + ((rpE ([] : List Nat) l1 t).length : Int) : Int) < 2147483648)) = true := decide_eq_true (by first | omega | (simp [marks, hw32] <;> omega))
      have hc28 : (decide (((1 + ((rpE ([] : List Nat) l1 t).length : Int)) + ((rpM ([] : List Nat) l1 t).length : Int) : Int) < 0)) = false := decide_eq_false (by first | omega | (simp [marks, hw32] <;> omega))
      have hc29 : (((1 + ((rpE ([] : List Nat) l1 t).length : Int)) + ((rpM ([] : List Nat) l1 t).length : Int)) != ((1 + ((rpE ([] : List Nat) l1 t).length : Int)) + ((rpM ([] : List Nat) l1 t).length : Int))) = false := by first | rfl | simp [marks, hw32]
      rw [hc12, hc13, hc14, hc15, hc16, hc17, hc18, hc19, hc20, hc21, hc22, hc23, hc24, hc25, hc26, hc27, hc28, hc29]
  case true =>
    have fhc1 := of_decide_eq_true hc1
    rfl
def an_lawRpD : Ann := ⟨fun r =>  none, fun r n => if r = 10 ∧ n = 2 then .grow else .quiet⟩
def tab_lawRpD : Fns := tabT [(4, gA_stlawsszSteps), (6, gA_stlawstoSteps), (5, gRp), (7, gRp), (8, gA_stlawseqSteps), (9, gA_stlawsmarkSteps), (10, gA_stlawsheldSteps)]
theorem tabok_lawRpD : ∀ f, FnT Try.prog f (tab_lawRpD f) := (tabT_cons (k := 4) okA_stlawsszSteps (tabT_cons (k := 6) okA_stlawstoSteps (tabT_cons (k := 5) ok_rpS (tabT_cons (k := 7) ok_rpI (tabT_cons (k := 8) okA_stlawseqSteps (tabT_cons (k := 9) okA_stlawsmarkSteps (tabT_cons (k := 10) okA_stlawsheldSteps tabT_nil)))))))
theorem run_lawRpD (N : Nat) (t : Int) : run ty tab_lawRpD an_lawRpD N Try.f3 [.g [.nil, .nil], .int .i64 t] []
    = (match decide (([] : List Nat).length = 0 ∧ 0 < 2147483648 ∧ ([] : List Nat).length = 0 ∧ 0 < 2147483648 ∧ w32 ([] : List Nat) = true) with | true => (match rpOk ([] : List Nat) ([] : List Nat) t with | true => (match decide (([] : List Nat).length = 0 ∧ 0 < 2147483648 ∧ ([] : List Nat).length = 0 ∧ 0 < 2147483648 ∧ w32 ([] : List Nat) = true) with | true => (match rpOk ([] : List Nat) ([] : List Nat) t with | true => (match decide ((rpE ([] : List Nat) ([] : List Nat) t).length = (rpE ([] : List Nat) ([] : List Nat) t).length ∧ (rpE ([] : List Nat) ([] : List Nat) t).length = (rpE ([] : List Nat) ([] : List Nat) t).length ∧ (rpE ([] : List Nat) ([] : List Nat) t).length < 2147483648 ∧ (rpE ([] : List Nat) ([] : List Nat) t).length < 2147483648) with | true => (match !(eqFB (rpE ([] : List Nat) ([] : List Nat) t) (rpE ([] : List Nat) ([] : List Nat) t)) with | true => some (.bool false, []) | false => (match decide ((rpM ([] : List Nat) ([] : List Nat) t).length = (rpM ([] : List Nat) ([] : List Nat) t).length ∧ (rpM ([] : List Nat) ([] : List Nat) t).length = (rpM ([] : List Nat) ([] : List Nat) t).length ∧ (rpM ([] : List Nat) ([] : List Nat) t).length < 2147483648 ∧ (rpM ([] : List Nat) ([] : List Nat) t).length < 2147483648) with | true => (match !(eqFB (rpM ([] : List Nat) ([] : List Nat) t) (rpM ([] : List Nat) ([] : List Nat) t)) with | true => some (.bool false, []) | false => (match decide (([] : List Nat).length = 0 ∧ ([] : List Nat).length = 0 ∧ 0 < 2147483648 ∧ 0 < 2147483648) with | true => (match !(eqFB ([] : List Nat) ([] : List Nat)) with | true => some (.bool false, []) | false => (match decide (([] : List Nat).length = 0 ∧ ([] : List Nat).length = 0 ∧ 0 < 2147483648 ∧ 0 < 2147483648) with | true => (match !(eqFB ([] : List Nat) ([] : List Nat)) with | true => some (.bool false, []) | false => (match decide (([] : List Nat).length = 0 ∧ 0 < 2147483648 ∧ 0 ≤ (1 : Int) ∧ (1 : Int).toNat < 2147483648) with | true => (match decide (([] : List Nat).length = 0 ∧ 0 < 2147483648 ∧ 0 ≤ (1 + (0 : Int) : Int) ∧ (1 + (0 : Int) : Int).toNat < 2147483648) with | true => (match decide (((1 + (0 : Int)) + (0 : Int) : Int) < 0) with | true => some (.bool false, []) | false => (match decide ((rpE ([] : List Nat) ([] : List Nat) t).length = (rpE ([] : List Nat) ([] : List Nat) t).length ∧ (rpE ([] : List Nat) ([] : List Nat) t).length = (rpE ([] : List Nat) ([] : List Nat) t).length ∧ (rpE ([] : List Nat) ([] : List Nat) t).length < 2147483648 ∧ (rpE ([] : List Nat) ([] : List Nat) t).length < 2147483648) with | true => (match !(eqFB (rpE ([] : List Nat) ([] : List Nat) t) (rpE ([] : List Nat) ([] : List Nat) t)) with | true => some (.bool false, []) | false => (match decide ((rpM ([] : List Nat) ([] : List Nat) t).length = (rpM ([] : List Nat) ([] : List Nat) t).length ∧ (rpM ([] : List Nat) ([] : List Nat) t).length = (rpM ([] : List Nat) ([] : List Nat) t).length ∧ (rpM ([] : List Nat) ([] : List Nat) t).length < 2147483648 ∧ (rpM ([] : List Nat) ([] : List Nat) t).length < 2147483648) with | true => (match !(eqFB (rpM ([] : List Nat) ([] : List Nat) t) (rpM ([] : List Nat) ([] : List Nat) t)) with | true => some (.bool false, []) | false => (match decide ((rpE ([] : List Nat) ([] : List Nat) t).length = (rpE ([] : List Nat) ([] : List Nat) t).length ∧ (rpE ([] : List Nat) ([] : List Nat) t).length < 2147483648 ∧ 0 ≤ (1 : Int) ∧ (1 : Int).toNat < 2147483648) with | true => (match decide ((rpM ([] : List Nat) ([] : List Nat) t).length = (rpM ([] : List Nat) ([] : List Nat) t).length ∧ (rpM ([] : List Nat) ([] : List Nat) t).length < 2147483648 ∧ 0 ≤ (1 + ((rpE ([] : List Nat) ([] : List Nat) t).length : Int) : Int) ∧ (1 + ((rpE ([] : List Nat) ([] : List Nat) t).length : Int) : Int).toNat < 2147483648) with | true => (match decide (marks 1 ((rpE ([] : List Nat) ([] : List Nat) t).length) = marks 1 ((rpE ([] : List Nat) ([] : List Nat) t).length) ∧ (rpE ([] : List Nat) ([] : List Nat) t).length < 2147483648 ∧ 0 ≤ (1 : Int) ∧ (1 : Int) < 2147483648) with | true => (match decide ((1 + ((rpE ([] : List Nat) ([] : List Nat) t).length : Int) : Int) < 0) with | true => some (.bool false, []) | false => (match decide (marks (1 + ((rpE ([] : List Nat) ([] : List Nat) t).length : Int)) ((rpM ([] : List Nat) ([] : List Nat) t).length) = marks (1 + ((rpE ([] : List Nat) ([] : List Nat) t).length : Int)) ((rpM ([] : List Nat) ([] : List Nat) t).length) ∧ (rpM ([] : List Nat) ([] : List Nat) t).length < 2147483648 ∧ 0 ≤ (1 + ((rpE ([] : List Nat) ([] : List Nat) t).length : Int) : Int) ∧ (1 + ((rpE ([] : List Nat) ([] : List Nat) t).length : Int) : Int) < 2147483648) with | true => (match decide (((1 + ((rpE ([] : List Nat) ([] : List Nat) t).length : Int)) + ((rpM ([] : List Nat) ([] : List Nat) t).length : Int) : Int) < 0) with | true => some (.bool false, []) | false => (match decide (((1 + ((rpE ([] : List Nat) ([] : List Nat) t).length : Int)) + ((rpM ([] : List Nat) ([] : List Nat) t).length : Int) : Int) < 0) with | true => some (.bool false, []) | false => (match ((1 + ((rpE ([] : List Nat) ([] : List Nat) t).length : Int)) + ((rpM ([] : List Nat) ([] : List Nat) t).length : Int)) != ((1 + ((rpE ([] : List Nat) ([] : List Nat) t).length : Int)) + ((rpM ([] : List Nat) ([] : List Nat) t).length : Int)) with | true => some (.bool false, []) | false => (match decide (([] : List Nat).length = 0 ∧ 0 < 2147483648 ∧ ([] : List Nat).length = 0 ∧ 0 < 2147483648 ∧ w32 ([] : List Nat) = true) with | true => (match rpOk ([] : List Nat) ([] : List Nat) t with | true => (match decide ((rpE ([] : List Nat) ([] : List Nat) t).length = (rpE ([] : List Nat) ([] : List Nat) t).length ∧ (rpE ([] : List Nat) ([] : List Nat) t).length = (rpE ([] : List Nat) ([] : List Nat) t).length ∧ (rpE ([] : List Nat) ([] : List Nat) t).length < 2147483648 ∧ (rpE ([] : List Nat) ([] : List Nat) t).length < 2147483648) with | true => (match !(eqFB (rpE ([] : List Nat) ([] : List Nat) t) (rpE ([] : List Nat) ([] : List Nat) t)) with | true => some (.bool false, []) | false => (match decide ((rpM ([] : List Nat) ([] : List Nat) t).length = (rpM ([] : List Nat) ([] : List Nat) t).length ∧ (rpM ([] : List Nat) ([] : List Nat) t).length = (rpM ([] : List Nat) ([] : List Nat) t).length ∧ (rpM ([] : List Nat) ([] : List Nat) t).length < 2147483648 ∧ (rpM ([] : List Nat) ([] : List Nat) t).length < 2147483648) with | true => (match !(eqFB (rpM ([] : List Nat) ([] : List Nat) t) (rpM ([] : List Nat) ([] : List Nat) t)) with | true => some (.bool false, []) | false => (match decide (marks 1 ((rpE ([] : List Nat) ([] : List Nat) t).length) = marks 1 ((rpE ([] : List Nat) ([] : List Nat) t).length) ∧ (rpE ([] : List Nat) ([] : List Nat) t).length < 2147483648 ∧ 0 ≤ (1 : Int) ∧ (1 : Int) < 2147483648) with | true => (match decide ((1 + ((rpE ([] : List Nat) ([] : List Nat) t).length : Int) : Int) < 0) with | true => some (.bool false, []) | false => (match decide (marks (1 + ((rpE ([] : List Nat) ([] : List Nat) t).length : Int)) ((rpM ([] : List Nat) ([] : List Nat) t).length) = marks (1 + ((rpE ([] : List Nat) ([] : List Nat) t).length : Int)) ((rpM ([] : List Nat) ([] : List Nat) t).length) ∧ (rpM ([] : List Nat) ([] : List Nat) t).length < 2147483648 ∧ 0 ≤ (1 + ((rpE ([] : List Nat) ([] : List Nat) t).length : Int) : Int) ∧ (1 + ((rpE ([] : List Nat) ([] : List Nat) t).length : Int) : Int) < 2147483648) with | true => (match decide (((1 + ((rpE ([] : List Nat) ([] : List Nat) t).length : Int)) + ((rpM ([] : List Nat) ([] : List Nat) t).length : Int) : Int) < 0) with | true => some (.bool false, []) | false => (match decide (((1 + ((rpE ([] : List Nat) ([] : List Nat) t).length : Int)) + ((rpM ([] : List Nat) ([] : List Nat) t).length : Int) : Int) < 0) with | true => some (.bool false, []) | false => (match ((1 + ((rpE ([] : List Nat) ([] : List Nat) t).length : Int)) + ((rpM ([] : List Nat) ([] : List Nat) t).length : Int)) != ((1 + ((rpE ([] : List Nat) ([] : List Nat) t).length : Int)) + ((rpM ([] : List Nat) ([] : List Nat) t).length : Int)) with | true => some (.bool false, []) | false => some (.bool true, [])))) | false => none)) | false => none)) | false => none)) | false => none) | false => none) | false => none)))) | false => none)) | false => none) | false => none) | false => none)) | false => none)) | false => none)) | false => none) | false => none)) | false => none)) | false => none)) | false => none)) | false => none) | false => none) | false => none) | false => (match decide (([] : List Nat).length = 0 ∧ 0 < 2147483648 ∧ ([] : List Nat).length = 0 ∧ 0 < 2147483648 ∧ w32 ([] : List Nat) = true) with | true => (match rpOk ([] : List Nat) ([] : List Nat) t with | true => none | false => (match decide (([] : List Nat).length = 0 ∧ ([] : List Nat).length = 0 ∧ 0 < 2147483648 ∧ 0 < 2147483648) with | true => (match !(eqFB ([] : List Nat) ([] : List Nat)) with | true => some (.bool false, []) | false => (match decide (([] : List Nat).length = 0 ∧ ([] : List Nat).length = 0 ∧ 0 < 2147483648 ∧ 0 < 2147483648) with | true => (match !(eqFB ([] : List Nat) ([] : List Nat)) with | true => some (.bool false, []) | false => (match decide (([] : List Nat).length = 0 ∧ 0 < 2147483648 ∧ 0 ≤ (1 : Int) ∧ (1 : Int).toNat < 2147483648) with | true => (match decide (([] : List Nat).length = 0 ∧ 0 < 2147483648 ∧ 0 ≤ (1 + (0 : Int) : Int) ∧ (1 + (0 : Int) : Int).toNat < 2147483648) with | true => (match decide (((1 + (0 : Int)) + (0 : Int) : Int) < 0) with | true => some (.bool false, []) | false => (match decide (([] : List Nat).length = 0 ∧ 0 < 2147483648 ∧ ([] : List Nat).length = 0 ∧ 0 < 2147483648 ∧ w32 ([] : List Nat) = true) with | true => (match rpOk ([] : List Nat) ([] : List Nat) t with | true => none | false => some (.bool true, [])) | false => none)) | false => none) | false => none)) | false => none)) | false => none)) | false => none)) | false => none) := by
  kernel_rfl
theorem H_lawRpD (t : Int)  : run ty tab_lawRpD an_lawRpD 0 Try.f3 [.g [.nil, .nil], .int .i64 t] [] = some (.bool true, []) := by
  have hw32 : w32 ([] : List Nat) = true := rfl
  refine Eq.trans (run_lawRpD 0 t) ?_
  have hc1 : (decide (([] : List Nat).length = 0 ∧ 0 < 2147483648 ∧ ([] : List Nat).length = 0 ∧ 0 < 2147483648 ∧ w32 ([] : List Nat) = true)) = true := decide_eq_true (by first | omega | (simp [marks, hw32] <;> omega))
  rw [hc1]
  cases hc2 : rpOk ([] : List Nat) ([] : List Nat) t
  case false =>
    have hc3 : (decide (([] : List Nat).length = 0 ∧ ([] : List Nat).length = 0 ∧ 0 < 2147483648 ∧ 0 < 2147483648)) = true := decide_eq_true (by first | omega | (simp [marks, hw32] <;> omega))
    have hc4 : (!(eqFB ([] : List Nat) ([] : List Nat))) = false := by rw [eqFB_self]; rfl
    have hc5 : (decide (([] : List Nat).length = 0 ∧ 0 < 2147483648 ∧ 0 ≤ (1 : Int) ∧ (1 : Int).toNat < 2147483648)) = true := decide_eq_true (by first | omega | (simp [marks, hw32] <;> omega))
    have hc6 : (decide (([] : List Nat).length = 0 ∧ 0 < 2147483648 ∧ 0 ≤ (1 + (0 : Int) : Int) ∧ (1 + (0 : Int) : Int).toNat < 2147483648)) = true := decide_eq_true (by first | omega | (simp [marks, hw32] <;> omega))
    have hc7 : (decide (((1 + (0 : Int)) + (0 : Int) : Int) < 0)) = false := decide_eq_false (by first | omega | (simp [marks, hw32] <;> omega))
    rw [hc3, hc4, hc5, hc6, hc7]
  case true =>
    have ghc2 := rp_len hc2
    have hc8 : (decide ((rpE ([] : List Nat) ([] : List Nat) t).length = (rpE ([] : List Nat) ([] : List Nat) t).length ∧ (rpE ([] : List Nat) ([] : List Nat) t).length = (rpE ([] : List Nat) ([] : List Nat) t).length ∧ (rpE ([] : List Nat) ([] : List Nat) t).length < 2147483648 ∧ (rpE ([] : List Nat) ([] : List Nat) t).length < 2147483648)) = true := decide_eq_true (by first | omega | (simp [marks, hw32] <;> omega))
    have hc9 : (!(eqFB (rpE ([] : List Nat) ([] : List Nat) t) (rpE ([] : List Nat) ([] : List Nat) t))) = false := by rw [eqFB_self]; rfl
    have hc10 : (decide ((rpM ([] : List Nat) ([] : List Nat) t).length = (rpM ([] : List Nat) ([] : List Nat) t).length ∧ (rpM ([] : List Nat) ([] : List Nat) t).length = (rpM ([] : List Nat) ([] : List Nat) t).length ∧ (rpM ([] : List Nat) ([] : List Nat) t).length < 2147483648 ∧ (rpM ([] : List Nat) ([] : List Nat) t).length < 2147483648)) = true := decide_eq_true (by first | omega | (simp [marks, hw32] <;> omega))
    have hc11 : (!(eqFB (rpM ([] : List Nat) ([] : List Nat) t) (rpM ([] : List Nat) ([] : List Nat) t))) = false := by rw [eqFB_self]; rfl
    have hc12 : (decide (([] : List Nat).length = 0 ∧ ([] : List Nat).length = 0 ∧ 0 < 2147483648 ∧ 0 < 2147483648)) = true := decide_eq_true (by first | omega | (simp [marks, hw32] <;> omega))
    have hc13 : (!(eqFB ([] : List Nat) ([] : List Nat))) = false := by rw [eqFB_self]; rfl
    have hc14 : (decide (([] : List Nat).length = 0 ∧ 0 < 2147483648 ∧ 0 ≤ (1 : Int) ∧ (1 : Int).toNat < 2147483648)) = true := decide_eq_true (by first | omega | (simp [marks, hw32] <;> omega))
    have hc15 : (decide (([] : List Nat).length = 0 ∧ 0 < 2147483648 ∧ 0 ≤ (1 + (0 : Int) : Int) ∧ (1 + (0 : Int) : Int).toNat < 2147483648)) = true := decide_eq_true (by first | omega | (simp [marks, hw32] <;> omega))
    have hc16 : (decide (((1 + (0 : Int)) + (0 : Int) : Int) < 0)) = false := decide_eq_false (by first | omega | (simp [marks, hw32] <;> omega))
    have hc17 : (decide ((rpE ([] : List Nat) ([] : List Nat) t).length = (rpE ([] : List Nat) ([] : List Nat) t).length ∧ (rpE ([] : List Nat) ([] : List Nat) t).length < 2147483648 ∧ 0 ≤ (1 : Int) ∧ (1 : Int).toNat < 2147483648)) = true := decide_eq_true (by first | omega | (simp [marks, hw32] <;> omega))
    have hc18 : (decide ((rpM ([] : List Nat) ([] : List Nat) t).length = (rpM ([] : List Nat) ([] : List Nat) t).length ∧ (rpM ([] : List Nat) ([] : List Nat) t).length < 2147483648 ∧ 0 ≤ (1 + ((rpE ([] : List Nat) ([] : List Nat) t).length : Int) : Int) ∧ (1 + ((rpE ([] : List Nat) ([] : List Nat) t).length : Int) : Int).toNat < 2147483648)) = true := decide_eq_true (by first | omega | (simp [marks, hw32] <;> omega))
    have hc19 : (decide (marks 1 ((rpE ([] : List Nat) ([] : List Nat) t).length) = marks 1 ((rpE ([] : List Nat) ([] : List Nat) t).length) ∧ (rpE ([] : List Nat) ([] : List Nat) t).length < 2147483648 ∧ 0 ≤ (1 : Int) ∧ (1 : Int) < 2147483648)) = true := decide_eq_true (by first | omega | (simp [marks, hw32] <;> omega))
    have hc20 : (decide ((1 + ((rpE ([] : List Nat) ([] : List Nat) t).length : Int) : Int) < 0)) = false := decide_eq_false (by first | omega | (simp [marks, hw32] <;> omega))
    have hc21 : (decide (marks (1 + ((rpE ([] : List Nat) ([] : List Nat) t).length : Int)) ((rpM ([] : List Nat) ([] : List Nat) t).length) = marks (1 + ((rpE ([] : List Nat) ([] : List Nat) t).length : Int)) ((rpM ([] : List Nat) ([] : List Nat) t).length) ∧ (rpM ([] : List Nat) ([] : List Nat) t).length < 2147483648 ∧ 0 ≤ (1 + ((rpE ([] : List Nat) ([] : List Nat) t).length : Int) : Int) ∧ (1 + ((rpE ([] : List Nat) ([] : List Nat) t).length : Int) : Int) < 2147483648)) = true := decide_eq_true (by first | omega | (simp [marks, hw32] <;> omega))
    have hc22 : (decide (((1 + ((rpE ([] : List Nat) ([] : List Nat) t).length : Int)) + ((rpM ([] : List Nat) ([] : List Nat) t).length : Int) : Int) < 0)) = false := decide_eq_false (by first | omega | (simp [marks, hw32] <;> omega))
    have hc23 : (((1 + ((rpE ([] : List Nat) ([] : List Nat) t).length : Int)) + ((rpM ([] : List Nat) ([] : List Nat) t).length : Int)) != ((1 + ((rpE ([] : List Nat) ([] : List Nat) t).length : Int)) + ((rpM ([] : List Nat) ([] : List Nat) t).length : Int))) = false := by first | rfl | simp [marks, hw32]
    rw [hc8, hc9, hc10, hc11, hc12, hc13, hc14, hc15, hc16, hc17, hc18, hc19, hc20, hc21, hc22, hc23]
def g_lawRp : G := fun vs h => match vs, h with
  | [.g [.sl 0 0 n, .sl 1 0 m], .int .i64 t], [.at false (.fl .f32 l0), .at false (.fl .f32 l1)] => if n = l0.length ∧ m = l1.length ∧ l0.length ≤ 9223372036854775807 ∧ l1.length ≤ 9223372036854775807 ∧ w32 l1 = true then some (.bool true, [.at false (.fl .f32 l0), .at false (.fl .f32 l1)]) else none
  | [.g [.sl 0 0 n, .nil], .int .i64 t], [.at false (.fl .f32 l0)] => if n = l0.length ∧ l0.length ≤ 9223372036854775807 then some (.bool true, [.at false (.fl .f32 l0)]) else none
  | [.g [.nil, .sl 0 0 m], .int .i64 t], [.at false (.fl .f32 l1)] => if m = l1.length ∧ l1.length ≤ 9223372036854775807 ∧ w32 l1 = true then some (.bool true, [.at false (.fl .f32 l1)]) else none
  | [.g [.nil, .nil], .int .i64 t], [] => some (.bool true, [])
  | _, _ => none
theorem ok_lawRp : FnOk Try.prog 3 g_lawRp := by
  intro vs hp v h' e
  rw [T.run_of] at e
  unfold g_lawRp at e
  split at e
  · split at e
    · rename_i hc
      cases e
      exact FnT.runs tabok_lawRpA Try.func3 rfl rfl an_lawRpA 0 _ _ _ _ (by rw [T.run_of]; exact H_lawRpA _ _ _ _ _ hc.1.symm (by omega) hc.2.1.symm (by omega) hc.2.2.2.2)
    · cases e
  · split at e
    · rename_i hc
      cases e
      exact FnT.runs tabok_lawRpB Try.func3 rfl rfl an_lawRpB 0 _ _ _ _ (by rw [T.run_of]; exact H_lawRpB _ _ _ hc.1.symm (by omega))
    · cases e
  · split at e
    · rename_i hc
      cases e
      exact FnT.runs tabok_lawRpC Try.func3 rfl rfl an_lawRpC 0 _ _ _ _ (by rw [T.run_of]; exact H_lawRpC _ _ _ hc.1.symm (by omega) hc.2.2)
    · cases e
  · cases e
    exact FnT.runs tabok_lawRpD Try.func3 rfl rfl an_lawRpD 0 _ _ _ _ (by rw [T.run_of]; exact H_lawRpD _)
  · cases e
theorem canon_lt {z : Nat} (h : z < 4294967296) : canon .f32 z < 4294967296 := by
  unfold canon
  split
  · decide +kernel
  · exact h
section
open Go.ChangeShapes Go.WideShapes Go.RowKit
variable {H : Type} {enc : TypeId × Value → H} {P : Program} {t e : TypeId} {W : World} {v : Value} {d : DataW H} {ps : List MemPlace} {r : Reach} {b0 : Nat}
theorem open_fls32 (ht : P.underlying t = some (.slice e)) (he : P.underlying e = some (.float .f32)) (hc : P.cellsOf e = 1)
    (hval : Value.okWide P W r b0 t v) (hd : DataW.Trod enc P W 0 (fun _ => true) true t v d ps) :
    v = .slice none 0 0 ∨ ∃ (m : M) (l : List Nat), RoB W m (.at false (.fl .f32 l)) ∧ (∀ z ∈ l, z < 4294967296) ∧ ∀ (μ : Mu) i, μ.l[i]? = some m → RepA μ (.sl i 0 l.length) v := by
  rcases slice_open (Q := fun u => ∃ b, u = .float .f32 b ∧ b < 4294967296) ht hc (fun n cs y h => by obtain ⟨b, h1, _, h2⟩ := trod_float he h; exact ⟨_, h1, b, rfl, of_decide_eq_true h2⟩) hval hd with h | ⟨b, off, len, cap, rfl, h1, h2, h3, h4⟩
  · exact .inl h
  · right
    obtain ⟨zs, hz, hzs⟩ := list_of (p := fun i z => W.cell? ⟨b, off + i, none⟩ = some (.float .f32 z) ∧ z < 4294967296) len (fun i hi => by obtain ⟨u, hu, z, rfl, hw⟩ := h4 i hi; exact ⟨z, hu, hw⟩)
    refine ⟨⟨b, off, false, 0, 0, 0⟩, zs.map (canon .f32), ⟨_, rfl, h3, fun p x hx => ?_⟩, fun z hz' => ?_, fun μ i hm => ⟨_, ⟨b, off + 0, none⟩, cap, hm, by simp only [List.length_map, hz, Nat.add_zero], by simp only [List.length_map, hz]; exact h1, h2, fun _ => rfl, fun _ ho => by cases ho⟩⟩
    · unfold C.get? C.getK at hx
      simp only [List.getElem?_map] at hx
      cases hp : zs[p]? with
      | none => rw [hp] at hx; cases hx
      | some z =>
        rw [hp] at hx
        cases hx
        exact ⟨_, (hzs p z hp).1, fun μ => ⟨z, rfl, rfl⟩⟩
    · obtain ⟨y, hy, rfl⟩ := List.mem_map.mp hz'
      obtain ⟨i, hi⟩ := List.getElem?_of_mem hy
      exact canon_lt (hzs i y hi).2
end
end Go.Proofs.Ythjncajdognojaa.Ab

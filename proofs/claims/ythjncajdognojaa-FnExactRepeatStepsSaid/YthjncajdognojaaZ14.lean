/- What the proof names: lemmas and words, merged by a program from its parts. No condition. -/
import Derived.Test.YthjncajdognojaaZ13
namespace Go.Proofs.Ythjncajdognojaa.Ab
set_option linter.unusedVariables false
set_option linter.unusedSimpArgs false
open Go
def an_rpS : Ann := ⟨fun r => if r = 5 then some ([1, 2, 4, 6, 7], [4, 5, 7]) else none, fun _ _ => .quiet⟩
noncomputable def tab_rpS : Fns := tabT [(12, gIs), (13, gT gIn), (14, gSa1), (15, gOwn), (16, gJnS)]
theorem tabok_rpS : ∀ f, FnT Try.prog f (tab_rpS f) := (tabT_cons (k := 12) ok_isS (tabT_cons (k := 13) ok_l00In (tabT_cons (k := 14) ok_sa1 (tabT_cons (k := 15) ok_ownS (tabT_cons (k := 16) ok_jnS tabT_nil)))))
noncomputable def opsrpS_7 : Array Oper := (regAt (codeOf Try.f5) 7).getD #[]
def grpS_7 (st : St) : Option (Bool × (Bool × St) × (Bool × St)) := (match decide (st.t.length = 61) with | true => (match nth st.t 1 with | .int .i64 z0 => (match nth st.t 2 with | .ptr 2 0 => (match nth st.t 4 with | .ptr 3 0 => (match nth st.t 6 with | .int .i64 z3 => (match nth st.t 7 with | .ptr 4 0 => (match st.h with | [.at z5 (.fl .f32 z6), .at z7 (.fl .f32 z8), .at true (.as 1 [.sl 0 0 z10, .sl 1 0 z12]), .at true (.as 1 [.nil, .nil]), .at true (.as 1 [.sl 5 0 z14, .sl 6 0 z16]), .at true (.fl .f32 z17), .at true (.fl .f32 z18)] => some (jOk z17 z18 z6 z8 (fop .sub .f32 ((z6[0 + (IntKind.i64.wrap (z3 - 1)).toNat * 1]?).getD 0) ((z6[0]?).getD 0)), ((decide (0 ≤ (IntKind.i64.wrap (z3 - 1) : Int) ∧ (IntKind.i64.wrap (z3 - 1) : Int) < ((z10 : Nat) : Int))) && ((z6[0 + (IntKind.i64.wrap (z3 - 1)).toNat * 1]?).isSome) && (decide (0 ≤ (0 : Int) ∧ (0 : Int) < ((z10 : Nat) : Int))) && ((z6[0]?).isSome) && (decide (z17.length = z14 ∧ z18.length = z16 ∧ z6.length = z10 ∧ z8.length = z12)) && (jPre z17 z18 z6 z8), ⟨(.any :: .int .i64 z0 :: .ptr 2 0 :: .any :: .ptr 3 0 :: .any :: .int .i64 z3 :: .ptr 4 0 :: .ptr 7 0 :: .bool true :: (anys 51 [])), [.at z5 (.fl .f32 z6), .at z7 (.fl .f32 z8), .at true (.as 1 [.sl 0 0 z10, .sl 1 0 z12]), .at true (.as 1 [.nil, .nil]), .at true (.as 1 [.sl 5 0 z14, .sl 6 0 z16]), .at true (.fl .f32 z17), .at true (.fl .f32 z18), .at true (.as 1 [.sl 8 0 ((jE z17 z6 (fop .sub .f32 ((z6[0 + (IntKind.i64.wrap (z3 - 1)).toNat * 1]?).getD 0) ((z6[0]?).getD 0))).length), .sl 9 0 ((jM z18 z8).length)]), .at true (.fl .f32 (jE z17 z6 (fop .sub .f32 ((z6[0 + (IntKind.i64.wrap (z3 - 1)).toNat * 1]?).getD 0) ((z6[0]?).getD 0)))), .at true (.fl .f32 (jM z18 z8))]⟩), ((decide (0 ≤ (IntKind.i64.wrap (z3 - 1) : Int) ∧ (IntKind.i64.wrap (z3 - 1) : Int) < ((z10 : Nat) : Int))) && ((z6[0 + (IntKind.i64.wrap (z3 - 1)).toNat * 1]?).isSome) && (decide (0 ≤ (0 : Int) ∧ (0 : Int) < ((z10 : Nat) : Int))) && ((z6[0]?).isSome) && (decide (z17.length = z14 ∧ z18.length = z16 ∧ z6.length = z10 ∧ z8.length = z12)) && (jPre z17 z18 z6 z8), ⟨(.any :: .int .i64 z0 :: .ptr 2 0 :: .any :: .ptr 3 0 :: .any :: .int .i64 z3 :: .ptr 4 0 :: .ptr 7 0 :: .bool false :: (anys 51 [])), [.at z5 (.fl .f32 z6), .at z7 (.fl .f32 z8), .at true (.as 1 [.sl 0 0 z10, .sl 1 0 z12]), .at true (.as 1 [.nil, .nil]), .at true (.as 1 [.sl 5 0 z14, .sl 6 0 z16]), .at true (.fl .f32 z17), .at true (.fl .f32 z18), .at true (.as 1 [.nil, .nil])]⟩)) | _ => none) | _ => none) | _ => none) | _ => none) | _ => none) | _ => none) | false => none)
abbrev zrpS_7 := Int × Int × Bool × List Nat × Bool × List Nat × Nat × Nat × Nat × Nat × List Nat × List Nat
abbrev yrpS_70 (z : zrpS_7) : Int := z.1
abbrev yrpS_71 (z : zrpS_7) : Int := z.2.1
abbrev yrpS_72 (z : zrpS_7) : Bool := z.2.2.1
abbrev yrpS_73 (z : zrpS_7) : List Nat := z.2.2.2.1
abbrev yrpS_74 (z : zrpS_7) : Bool := z.2.2.2.2.1
abbrev yrpS_75 (z : zrpS_7) : List Nat := z.2.2.2.2.2.1
abbrev yrpS_76 (z : zrpS_7) : Nat := z.2.2.2.2.2.2.1
abbrev yrpS_77 (z : zrpS_7) : Nat := z.2.2.2.2.2.2.2.1
abbrev yrpS_78 (z : zrpS_7) : Nat := z.2.2.2.2.2.2.2.2.1
abbrev yrpS_79 (z : zrpS_7) : Nat := z.2.2.2.2.2.2.2.2.2.1
abbrev yrpS_710 (z : zrpS_7) : List Nat := z.2.2.2.2.2.2.2.2.2.2.1
abbrev yrpS_711 (z : zrpS_7) : List Nat := z.2.2.2.2.2.2.2.2.2.2.2
def srpS_7 (z : zrpS_7) : List V := (.any :: .int .i64 (yrpS_70 z) :: .ptr 2 0 :: .any :: .ptr 3 0 :: .any :: .int .i64 (yrpS_71 z) :: .ptr 4 0 :: (anys 53 []))
def hrpS_7 (z : zrpS_7) : H := [.at (yrpS_72 z) (.fl .f32 (yrpS_73 z)), .at (yrpS_74 z) (.fl .f32 (yrpS_75 z)), .at true (.as 1 [.sl 0 0 (yrpS_76 z), .sl 1 0 (yrpS_77 z)]), .at true (.as 1 [.nil, .nil]), .at true (.as 1 [.sl 5 0 (yrpS_78 z), .sl 6 0 (yrpS_79 z)]), .at true (.fl .f32 (yrpS_710 z)), .at true (.fl .f32 (yrpS_711 z))]
theorem horpS_7_0 : (opsrpS_7[0]?).map opD3 = some (.fieldAddr 26 (.tmp 2) 0, some 42, none) := by kernel_rfl
theorem horpS_7_1 : (opsrpS_7[1]?).map opD3 = some (.load 22 (.tmp 42), some 43, none) := by kernel_rfl
theorem horpS_7_2 : (opsrpS_7[2]?).map opD3 = some (.move (.tmp 6), some 44, none) := by kernel_rfl
theorem horpS_7_3 : (opsrpS_7[3]?).map opD3 = some (.binOp .sub 3 (.tmp 44) (.const (.int .i64 1)) 3, some 45, none) := by kernel_rfl
theorem horpS_7_4 : (opsrpS_7[4]?).map opD3 = some (.indexAddr 22 (.tmp 43) (.tmp 45), some 46, none) := by kernel_rfl
theorem horpS_7_5 : (opsrpS_7[5]?).map opD3 = some (.load 40 (.tmp 46), some 47, none) := by kernel_rfl
theorem horpS_7_6 : (opsrpS_7[6]?).map opD3 = some (.fieldAddr 26 (.tmp 2) 0, some 48, none) := by kernel_rfl
theorem horpS_7_7 : (opsrpS_7[7]?).map opD3 = some (.load 22 (.tmp 48), some 49, none) := by kernel_rfl
theorem horpS_7_8 : (opsrpS_7[8]?).map opD3 = some (.indexAddr 22 (.tmp 49) (.const (.int .i64 0)), some 50, none) := by kernel_rfl
theorem horpS_7_9 : (opsrpS_7[9]?).map opD3 = some (.load 40 (.tmp 50), some 51, none) := by kernel_rfl
theorem horpS_7_10 : (opsrpS_7[10]?).map opD3 = some (.binOp .sub 40 (.tmp 47) (.tmp 51) 40, some 52, none) := by kernel_rfl
theorem horpS_7_11 : (opsrpS_7[11]?).map opD3 = some (.call ⟨.value (.func 16), #[.tmp 7, .tmp 2, .tmp 52], #[35, 35, 40]⟩, some 53, none) := by kernel_rfl
theorem horpS_7_12 : (opsrpS_7[12]?).map opD3 = some (.move (.tmp 53), some 41, none) := by kernel_rfl
theorem horpS_7_13 : (opsrpS_7[13]?).map opD3 = some (.extract (.tmp 41) 0, some 54, none) := by kernel_rfl
theorem horpS_7_14 : (opsrpS_7[14]?).map opD3 = some (.extract (.tmp 41) 1, some 55, none) := by kernel_rfl
theorem horpS_7_15 : (opsrpS_7[15]?).map opD3 = some (.alloc 26, some 8, none) := by kernel_rfl
theorem horpS_7_16 : (opsrpS_7[16]?).map opD3 = some (.store 26 (.tmp 8) (.tmp 54), none, none) := by kernel_rfl
theorem horpS_7_17 : (opsrpS_7[17]?).map opD3 = some (.assign (.tmp 55), some 9, none) := by kernel_rfl
def vrpS_7_0 (z : zrpS_7) : Nat → V
  | 0 => .ptr 2 0
  | 1 => .sl 0 0 (yrpS_76 z)
  | 2 => .int .i64 (yrpS_71 z)
  | 3 => .int .i64 (IntKind.i64.wrap ((yrpS_71 z) - 1))
  | 4 => .ptr 0 (0 + (IntKind.i64.wrap ((yrpS_71 z) - 1)).toNat * 1)
  | 5 => .fl .f32 (((yrpS_73 z)[0 + (IntKind.i64.wrap ((yrpS_71 z) - 1)).toNat * 1]?).getD 0)
  | 6 => .ptr 2 0
  | 7 => .sl 0 0 (yrpS_76 z)
  | 8 => .ptr 0 0
  | 9 => .fl .f32 (((yrpS_73 z)[0]?).getD 0)
  | 10 => .fl .f32 (fop .sub .f32 (((yrpS_73 z)[0 + (IntKind.i64.wrap ((yrpS_71 z) - 1)).toNat * 1]?).getD 0) (((yrpS_73 z)[0]?).getD 0))
  | 11 => .tup [.g [.sl 7 0 ((jE (yrpS_710 z) (yrpS_73 z) (fop .sub .f32 (((yrpS_73 z)[0 + (IntKind.i64.wrap ((yrpS_71 z) - 1)).toNat * 1]?).getD 0) (((yrpS_73 z)[0]?).getD 0))).length), .sl 8 0 ((jM (yrpS_711 z) (yrpS_75 z)).length)], .a (.bool true)]
  | 12 => .tup [.g [.sl 7 0 ((jE (yrpS_710 z) (yrpS_73 z) (fop .sub .f32 (((yrpS_73 z)[0 + (IntKind.i64.wrap ((yrpS_71 z) - 1)).toNat * 1]?).getD 0) (((yrpS_73 z)[0]?).getD 0))).length), .sl 8 0 ((jM (yrpS_711 z) (yrpS_75 z)).length)], .a (.bool true)]
  | 13 => .g [.sl 7 0 ((jE (yrpS_710 z) (yrpS_73 z) (fop .sub .f32 (((yrpS_73 z)[0 + (IntKind.i64.wrap ((yrpS_71 z) - 1)).toNat * 1]?).getD 0) (((yrpS_73 z)[0]?).getD 0))).length), .sl 8 0 ((jM (yrpS_711 z) (yrpS_75 z)).length)]
  | 14 => .bool true
  | 15 => .ptr 9 0
  | 16 => V.no
  | 17 => .bool true
  | _ => .any
def qrpS_7_0 (z : zrpS_7) (k : Nat) (l : List (Nat × V)) : List V := setsA l (setsA (selA k [(0, 42), (1, 43), (2, 44), (3, 45), (4, 46), (5, 47), (6, 48), (7, 49), (8, 50), (9, 51), (10, 52), (11, 53), (12, 41), (13, 54), (14, 55), (15, 8), (17, 9)] (vrpS_7_0 z)) (srpS_7 z))
def crpS_7_0 (z : zrpS_7) : Prop := (decide (0 ≤ (IntKind.i64.wrap ((yrpS_71 z) - 1) : Int) ∧ (IntKind.i64.wrap ((yrpS_71 z) - 1) : Int) < (((yrpS_76 z) : Nat) : Int))) = true ∧ (((yrpS_73 z)[0 + (IntKind.i64.wrap ((yrpS_71 z) - 1)).toNat * 1]?).isSome) = true ∧ (decide (0 ≤ (0 : Int) ∧ (0 : Int) < (((yrpS_76 z) : Nat) : Int))) = true ∧ (((yrpS_73 z)[0]?).isSome) = true ∧ (decide ((yrpS_710 z).length = (yrpS_78 z) ∧ (yrpS_711 z).length = (yrpS_79 z) ∧ (yrpS_73 z).length = (yrpS_76 z) ∧ (yrpS_75 z).length = (yrpS_77 z))) = true ∧ (jPre (yrpS_710 z) (yrpS_711 z) (yrpS_73 z) (yrpS_75 z)) = true ∧ (jOk (yrpS_710 z) (yrpS_711 z) (yrpS_73 z) (yrpS_75 z) (fop .sub .f32 (((yrpS_73 z)[0 + (IntKind.i64.wrap ((yrpS_71 z) - 1)).toNat * 1]?).getD 0) (((yrpS_73 z)[0]?).getD 0))) = true
abbrev arpS_7_0 (z : zrpS_7) (m k : Nat) (t : List V) (h : H) : Prop := AnyRun Try.prog opsrpS_7 (FinTo [1, 2, 4, 6, 7, 8, 9] 7 (⟨(.any :: .int .i64 (yrpS_70 z) :: .ptr 2 0 :: .any :: .ptr 3 0 :: .any :: .int .i64 (yrpS_71 z) :: .ptr 4 0 :: .ptr 7 0 :: .bool true :: (anys 51 [])), [.at (yrpS_72 z) (.fl .f32 (yrpS_73 z)), .at (yrpS_74 z) (.fl .f32 (yrpS_75 z)), .at true (.as 1 [.sl 0 0 (yrpS_76 z), .sl 1 0 (yrpS_77 z)]), .at true (.as 1 [.nil, .nil]), .at true (.as 1 [.sl 5 0 (yrpS_78 z), .sl 6 0 (yrpS_79 z)]), .at true (.fl .f32 (yrpS_710 z)), .at true (.fl .f32 (yrpS_711 z)), .at true (.as 1 [.sl 8 0 ((jE (yrpS_710 z) (yrpS_73 z) (fop .sub .f32 (((yrpS_73 z)[0 + (IntKind.i64.wrap ((yrpS_71 z) - 1)).toNat * 1]?).getD 0) (((yrpS_73 z)[0]?).getD 0))).length), .sl 9 0 ((jM (yrpS_711 z) (yrpS_75 z)).length)]), .at true (.fl .f32 (jE (yrpS_710 z) (yrpS_73 z) (fop .sub .f32 (((yrpS_73 z)[0 + (IntKind.i64.wrap ((yrpS_71 z) - 1)).toNat * 1]?).getD 0) (((yrpS_73 z)[0]?).getD 0)))), .at true (.fl .f32 (jM (yrpS_711 z) (yrpS_75 z)))]⟩ : St)) m (bitsA 18 k) t h
def brpS_7_0 (z : zrpS_7) : Nat → B
  | 0 => .at true (.fl .f32 (jE (yrpS_710 z) (yrpS_73 z) (fop .sub .f32 (((yrpS_73 z)[0 + (IntKind.i64.wrap ((yrpS_71 z) - 1)).toNat * 1]?).getD 0) (((yrpS_73 z)[0]?).getD 0))))
  | 1 => .at true (.fl .f32 (jM (yrpS_711 z) (yrpS_75 z)))
  | 2 => .at true (.as 1 [.sl 7 0 ((jE (yrpS_710 z) (yrpS_73 z) (fop .sub .f32 (((yrpS_73 z)[0 + (IntKind.i64.wrap ((yrpS_71 z) - 1)).toNat * 1]?).getD 0) (((yrpS_73 z)[0]?).getD 0))).length), .sl 8 0 ((jM (yrpS_711 z) (yrpS_75 z)).length)])
  | 3 => .at true (.as 1 [.nil, .nil])
  | 4 => .at true (.as 1 [.sl 8 0 ((jE (yrpS_710 z) (yrpS_73 z) (fop .sub .f32 (((yrpS_73 z)[0 + (IntKind.i64.wrap ((yrpS_71 z) - 1)).toNat * 1]?).getD 0) (((yrpS_73 z)[0]?).getD 0))).length), .sl 9 0 ((jM (yrpS_711 z) (yrpS_75 z)).length)])
  | _ => .gone
def HrpS_7_0 (z : zrpS_7) (l : List Nat) : H := hrpS_7 z ++ l.map (brpS_7_0 z)
theorem anrpS_7_1 {z : zrpS_7} (hc : crpS_7_0 z) : arpS_7_0 z 0 262143 (qrpS_7_0 z 262143 []) (HrpS_7_0 z [0, 1, 2]) := ⟨by kernel_rfl, [0, 1, 2, 3, 4, 5, 6, 9, 7, 8], by decide, by decide, by kernel_rfl, by kernel_rfl⟩
theorem anrpS_7_2 {z : zrpS_7} (hc : crpS_7_0 z) : arpS_7_0 z 1 131071 (qrpS_7_0 z 131071 []) (HrpS_7_0 z [0, 1, 2]) := by
  refine any_next [17] (by kernel_rfl) (by decide) fun i hi => ?_
  obtain rfl := two1 hi
  · exact any_one _ (v := vrpS_7_0 z 17) tabok_rpS horpS_7_17 (trivial) (by kernel_rfl) (by kernel_rfl) (by kernel_rfl) (anrpS_7_1 hc)
theorem anrpS_7_3 {z : zrpS_7} (hc : crpS_7_0 z) : arpS_7_0 z 2 65535 (qrpS_7_0 z 65535 []) (HrpS_7_0 z [0, 1, 3]) := by
  refine any_next [16] (by kernel_rfl) (by decide) fun i hi => ?_
  obtain rfl := two1 hi
  · exact any_one _ (v := vrpS_7_0 z 16) tabok_rpS horpS_7_16 (trivial) (by kernel_rfl) (by kernel_rfl) (by kernel_rfl) (anrpS_7_2 hc)
theorem anrpS_7_4 {z : zrpS_7} (hc : crpS_7_0 z) : arpS_7_0 z 3 32767 (qrpS_7_0 z 32767 []) (HrpS_7_0 z [0, 1]) := by
  refine any_next [15] (by kernel_rfl) (by decide) fun i hi => ?_
  obtain rfl := two1 hi
  · exact any_one _ (v := vrpS_7_0 z 15) tabok_rpS horpS_7_15 (trivial) (by kernel_rfl) (by kernel_rfl) (by kernel_rfl) (anrpS_7_3 hc)
theorem anrpS_7_5 {z : zrpS_7} (hc : crpS_7_0 z) : arpS_7_0 z 2 114687 (qrpS_7_0 z 114687 []) (HrpS_7_0 z [0, 1, 2]) := by
  refine any_next [14] (by kernel_rfl) (by decide) fun i hi => ?_
  obtain rfl := two1 hi
  · exact any_one _ (v := vrpS_7_0 z 14) tabok_rpS horpS_7_14 (trivial) (by kernel_rfl) (by kernel_rfl) (by kernel_rfl) (anrpS_7_2 hc)
theorem anrpS_7_6 {z : zrpS_7} (hc : crpS_7_0 z) : arpS_7_0 z 3 49151 (qrpS_7_0 z 49151 []) (HrpS_7_0 z [0, 1, 3]) := by
  refine any_next [14, 16] (by kernel_rfl) (by decide) fun i hi => ?_
  rcases two2 hi with rfl | rfl
  · exact any_one _ (v := vrpS_7_0 z 14) tabok_rpS horpS_7_14 (trivial) (by kernel_rfl) (by kernel_rfl) (by kernel_rfl) (anrpS_7_3 hc)
  · exact any_one _ (v := vrpS_7_0 z 16) tabok_rpS horpS_7_16 (trivial) (by kernel_rfl) (by kernel_rfl) (by kernel_rfl) (anrpS_7_5 hc)
theorem anrpS_7_7 {z : zrpS_7} (hc : crpS_7_0 z) : arpS_7_0 z 4 16383 (qrpS_7_0 z 16383 []) (HrpS_7_0 z [0, 1]) := by
  refine any_next [14, 15] (by kernel_rfl) (by decide) fun i hi => ?_
  rcases two2 hi with rfl | rfl
  · exact any_one _ (v := vrpS_7_0 z 14) tabok_rpS horpS_7_14 (trivial) (by kernel_rfl) (by kernel_rfl) (by kernel_rfl) (anrpS_7_4 hc)
  · exact any_one _ (v := vrpS_7_0 z 15) tabok_rpS horpS_7_15 (trivial) (by kernel_rfl) (by kernel_rfl) (by kernel_rfl) (anrpS_7_6 hc)
theorem anrpS_7_8 {z : zrpS_7} (hc : crpS_7_0 z) : arpS_7_0 z 3 57343 (qrpS_7_0 z 57343 []) (HrpS_7_0 z [0, 1, 3]) := by
  refine any_next [13] (by kernel_rfl) (by decide) fun i hi => ?_
  obtain rfl := two1 hi
  · exact any_one _ (v := vrpS_7_0 z 13) tabok_rpS horpS_7_13 (trivial) (by kernel_rfl) (by kernel_rfl) (by kernel_rfl) (anrpS_7_3 hc)
theorem anrpS_7_9 {z : zrpS_7} (hc : crpS_7_0 z) : arpS_7_0 z 4 24575 (qrpS_7_0 z 24575 []) (HrpS_7_0 z [0, 1]) := by
  refine any_next [13, 15] (by kernel_rfl) (by decide) fun i hi => ?_
  rcases two2 hi with rfl | rfl
  · exact any_one _ (v := vrpS_7_0 z 13) tabok_rpS horpS_7_13 (trivial) (by kernel_rfl) (by kernel_rfl) (by kernel_rfl) (anrpS_7_4 hc)
  · exact any_one _ (v := vrpS_7_0 z 15) tabok_rpS horpS_7_15 (trivial) (by kernel_rfl) (by kernel_rfl) (by kernel_rfl) (anrpS_7_8 hc)
theorem anrpS_7_10 {z : zrpS_7} (hc : crpS_7_0 z) : arpS_7_0 z 4 40959 (qrpS_7_0 z 40959 []) (HrpS_7_0 z [0, 1, 3]) := by
  refine any_next [13, 14] (by kernel_rfl) (by decide) fun i hi => ?_
  rcases two2 hi with rfl | rfl
  · exact any_one _ (v := vrpS_7_0 z 13) tabok_rpS horpS_7_13 (trivial) (by kernel_rfl) (by kernel_rfl) (by kernel_rfl) (anrpS_7_6 hc)
  · exact any_one _ (v := vrpS_7_0 z 14) tabok_rpS horpS_7_14 (trivial) (by kernel_rfl) (by kernel_rfl) (by kernel_rfl) (anrpS_7_8 hc)
theorem anrpS_7_11 {z : zrpS_7} (hc : crpS_7_0 z) : arpS_7_0 z 5 8191 (qrpS_7_0 z 8191 []) (HrpS_7_0 z [0, 1]) := by
  refine any_next [13, 14, 15] (by kernel_rfl) (by decide) fun i hi => ?_
  rcases two3 hi with rfl | rfl | rfl
  · exact any_one _ (v := vrpS_7_0 z 13) tabok_rpS horpS_7_13 (trivial) (by kernel_rfl) (by kernel_rfl) (by kernel_rfl) (anrpS_7_7 hc)
  · exact any_one _ (v := vrpS_7_0 z 14) tabok_rpS horpS_7_14 (trivial) (by kernel_rfl) (by kernel_rfl) (by kernel_rfl) (anrpS_7_9 hc)
  · exact any_one _ (v := vrpS_7_0 z 15) tabok_rpS horpS_7_15 (trivial) (by kernel_rfl) (by kernel_rfl) (by kernel_rfl) (anrpS_7_10 hc)
theorem anrpS_7_12 {z : zrpS_7} (hc : crpS_7_0 z) : arpS_7_0 z 5 36863 (qrpS_7_0 z 36863 []) (HrpS_7_0 z [0, 1, 3]) := by
  refine any_next [12] (by kernel_rfl) (by decide) fun i hi => ?_
  obtain rfl := two1 hi
  · exact any_one _ (v := vrpS_7_0 z 12) tabok_rpS horpS_7_12 (trivial) (by kernel_rfl) (by kernel_rfl) (by kernel_rfl) (anrpS_7_10 hc)
theorem anrpS_7_13 {z : zrpS_7} (hc : crpS_7_0 z) : arpS_7_0 z 6 4095 (qrpS_7_0 z 4095 []) (HrpS_7_0 z [0, 1]) := by
  refine any_next [12, 15] (by kernel_rfl) (by decide) fun i hi => ?_
  rcases two2 hi with rfl | rfl
  · exact any_one _ (v := vrpS_7_0 z 12) tabok_rpS horpS_7_12 (trivial) (by kernel_rfl) (by kernel_rfl) (by kernel_rfl) (anrpS_7_11 hc)
  · exact any_one _ (v := vrpS_7_0 z 15) tabok_rpS horpS_7_15 (trivial) (by kernel_rfl) (by kernel_rfl) (by kernel_rfl) (anrpS_7_12 hc)
theorem anrpS_7_14 {z : zrpS_7} (hc : crpS_7_0 z) : arpS_7_0 z 0 262143 (qrpS_7_0 z 262143 [(8, .ptr 7 0), (41, .tup [.g [.sl 8 0 ((jE (yrpS_710 z) (yrpS_73 z) (fop .sub .f32 (((yrpS_73 z)[0 + (IntKind.i64.wrap ((yrpS_71 z) - 1)).toNat * 1]?).getD 0) (((yrpS_73 z)[0]?).getD 0))).length), .sl 9 0 ((jM (yrpS_711 z) (yrpS_75 z)).length)], .a (.bool true)]), (53, .tup [.g [.sl 8 0 ((jE (yrpS_710 z) (yrpS_73 z) (fop .sub .f32 (((yrpS_73 z)[0 + (IntKind.i64.wrap ((yrpS_71 z) - 1)).toNat * 1]?).getD 0) (((yrpS_73 z)[0]?).getD 0))).length), .sl 9 0 ((jM (yrpS_711 z) (yrpS_75 z)).length)], .a (.bool true)]), (54, .g [.sl 8 0 ((jE (yrpS_710 z) (yrpS_73 z) (fop .sub .f32 (((yrpS_73 z)[0 + (IntKind.i64.wrap ((yrpS_71 z) - 1)).toNat * 1]?).getD 0) (((yrpS_73 z)[0]?).getD 0))).length), .sl 9 0 ((jM (yrpS_711 z) (yrpS_75 z)).length)])]) (HrpS_7_0 z [4, 0, 1]) := ⟨by kernel_rfl, [0, 1, 2, 3, 4, 5, 6, 7, 8, 9], by decide, by decide, by kernel_rfl, by kernel_rfl⟩
theorem anrpS_7_15 {z : zrpS_7} (hc : crpS_7_0 z) : arpS_7_0 z 1 131071 (qrpS_7_0 z 131071 [(8, .ptr 7 0), (41, .tup [.g [.sl 8 0 ((jE (yrpS_710 z) (yrpS_73 z) (fop .sub .f32 (((yrpS_73 z)[0 + (IntKind.i64.wrap ((yrpS_71 z) - 1)).toNat * 1]?).getD 0) (((yrpS_73 z)[0]?).getD 0))).length), .sl 9 0 ((jM (yrpS_711 z) (yrpS_75 z)).length)], .a (.bool true)]), (53, .tup [.g [.sl 8 0 ((jE (yrpS_710 z) (yrpS_73 z) (fop .sub .f32 (((yrpS_73 z)[0 + (IntKind.i64.wrap ((yrpS_71 z) - 1)).toNat * 1]?).getD 0) (((yrpS_73 z)[0]?).getD 0))).length), .sl 9 0 ((jM (yrpS_711 z) (yrpS_75 z)).length)], .a (.bool true)]), (54, .g [.sl 8 0 ((jE (yrpS_710 z) (yrpS_73 z) (fop .sub .f32 (((yrpS_73 z)[0 + (IntKind.i64.wrap ((yrpS_71 z) - 1)).toNat * 1]?).getD 0) (((yrpS_73 z)[0]?).getD 0))).length), .sl 9 0 ((jM (yrpS_711 z) (yrpS_75 z)).length)])]) (HrpS_7_0 z [4, 0, 1]) := by
  refine any_next [17] (by kernel_rfl) (by decide) fun i hi => ?_
  obtain rfl := two1 hi
  · exact any_one _ (v := vrpS_7_0 z 17) tabok_rpS horpS_7_17 (trivial) (by kernel_rfl) (by kernel_rfl) (by kernel_rfl) (anrpS_7_14 hc)
theorem anrpS_7_16 {z : zrpS_7} (hc : crpS_7_0 z) : arpS_7_0 z 2 65535 (qrpS_7_0 z 65535 [(8, .ptr 7 0), (41, .tup [.g [.sl 8 0 ((jE (yrpS_710 z) (yrpS_73 z) (fop .sub .f32 (((yrpS_73 z)[0 + (IntKind.i64.wrap ((yrpS_71 z) - 1)).toNat * 1]?).getD 0) (((yrpS_73 z)[0]?).getD 0))).length), .sl 9 0 ((jM (yrpS_711 z) (yrpS_75 z)).length)], .a (.bool true)]), (53, .tup [.g [.sl 8 0 ((jE (yrpS_710 z) (yrpS_73 z) (fop .sub .f32 (((yrpS_73 z)[0 + (IntKind.i64.wrap ((yrpS_71 z) - 1)).toNat * 1]?).getD 0) (((yrpS_73 z)[0]?).getD 0))).length), .sl 9 0 ((jM (yrpS_711 z) (yrpS_75 z)).length)], .a (.bool true)]), (54, .g [.sl 8 0 ((jE (yrpS_710 z) (yrpS_73 z) (fop .sub .f32 (((yrpS_73 z)[0 + (IntKind.i64.wrap ((yrpS_71 z) - 1)).toNat * 1]?).getD 0) (((yrpS_73 z)[0]?).getD 0))).length), .sl 9 0 ((jM (yrpS_711 z) (yrpS_75 z)).length)])]) (HrpS_7_0 z [3, 0, 1]) := by
  refine any_next [16] (by kernel_rfl) (by decide) fun i hi => ?_
  obtain rfl := two1 hi
  · exact any_one _ (v := vrpS_7_0 z 16) tabok_rpS horpS_7_16 (trivial) (by kernel_rfl) (by kernel_rfl) (by kernel_rfl) (anrpS_7_15 hc)
theorem anrpS_7_17 {z : zrpS_7} (hc : crpS_7_0 z) : arpS_7_0 z 2 114687 (qrpS_7_0 z 114687 [(8, .ptr 7 0), (41, .tup [.g [.sl 8 0 ((jE (yrpS_710 z) (yrpS_73 z) (fop .sub .f32 (((yrpS_73 z)[0 + (IntKind.i64.wrap ((yrpS_71 z) - 1)).toNat * 1]?).getD 0) (((yrpS_73 z)[0]?).getD 0))).length), .sl 9 0 ((jM (yrpS_711 z) (yrpS_75 z)).length)], .a (.bool true)]), (53, .tup [.g [.sl 8 0 ((jE (yrpS_710 z) (yrpS_73 z) (fop .sub .f32 (((yrpS_73 z)[0 + (IntKind.i64.wrap ((yrpS_71 z) - 1)).toNat * 1]?).getD 0) (((yrpS_73 z)[0]?).getD 0))).length), .sl 9 0 ((jM (yrpS_711 z) (yrpS_75 z)).length)], .a (.bool true)]), (54, .g [.sl 8 0 ((jE (yrpS_710 z) (yrpS_73 z) (fop .sub .f32 (((yrpS_73 z)[0 + (IntKind.i64.wrap ((yrpS_71 z) - 1)).toNat * 1]?).getD 0) (((yrpS_73 z)[0]?).getD 0))).length), .sl 9 0 ((jM (yrpS_711 z) (yrpS_75 z)).length)])]) (HrpS_7_0 z [4, 0, 1]) := by
  refine any_next [14] (by kernel_rfl) (by decide) fun i hi => ?_
  obtain rfl := two1 hi
  · exact any_one _ (v := vrpS_7_0 z 14) tabok_rpS horpS_7_14 (trivial) (by kernel_rfl) (by kernel_rfl) (by kernel_rfl) (anrpS_7_15 hc)
theorem anrpS_7_18 {z : zrpS_7} (hc : crpS_7_0 z) : arpS_7_0 z 3 49151 (qrpS_7_0 z 49151 [(8, .ptr 7 0), (41, .tup [.g [.sl 8 0 ((jE (yrpS_710 z) (yrpS_73 z) (fop .sub .f32 (((yrpS_73 z)[0 + (IntKind.i64.wrap ((yrpS_71 z) - 1)).toNat * 1]?).getD 0) (((yrpS_73 z)[0]?).getD 0))).length), .sl 9 0 ((jM (yrpS_711 z) (yrpS_75 z)).length)], .a (.bool true)]), (53, .tup [.g [.sl 8 0 ((jE (yrpS_710 z) (yrpS_73 z) (fop .sub .f32 (((yrpS_73 z)[0 + (IntKind.i64.wrap ((yrpS_71 z) - 1)).toNat * 1]?).getD 0) (((yrpS_73 z)[0]?).getD 0))).length), .sl 9 0 ((jM (yrpS_711 z) (yrpS_75 z)).length)], .a (.bool true)]), (54, .g [.sl 8 0 ((jE (yrpS_710 z) (yrpS_73 z) (fop .sub .f32 (((yrpS_73 z)[0 + (IntKind.i64.wrap ((yrpS_71 z) - 1)).toNat * 1]?).getD 0) (((yrpS_73 z)[0]?).getD 0))).length), .sl 9 0 ((jM (yrpS_711 z) (yrpS_75 z)).length)])]) (HrpS_7_0 z [3, 0, 1]) := by
  refine any_next [14, 16] (by kernel_rfl) (by decide) fun i hi => ?_
  rcases two2 hi with rfl | rfl
  · exact any_one _ (v := vrpS_7_0 z 14) tabok_rpS horpS_7_14 (trivial) (by kernel_rfl) (by kernel_rfl) (by kernel_rfl) (anrpS_7_16 hc)
  · exact any_one _ (v := vrpS_7_0 z 16) tabok_rpS horpS_7_16 (trivial) (by kernel_rfl) (by kernel_rfl) (by kernel_rfl) (anrpS_7_17 hc)
theorem anrpS_7_19 {z : zrpS_7} (hc : crpS_7_0 z) : arpS_7_0 z 3 57343 (qrpS_7_0 z 57343 [(8, .ptr 7 0), (41, .tup [.g [.sl 8 0 ((jE (yrpS_710 z) (yrpS_73 z) (fop .sub .f32 (((yrpS_73 z)[0 + (IntKind.i64.wrap ((yrpS_71 z) - 1)).toNat * 1]?).getD 0) (((yrpS_73 z)[0]?).getD 0))).length), .sl 9 0 ((jM (yrpS_711 z) (yrpS_75 z)).length)], .a (.bool true)]), (53, .tup [.g [.sl 8 0 ((jE (yrpS_710 z) (yrpS_73 z) (fop .sub .f32 (((yrpS_73 z)[0 + (IntKind.i64.wrap ((yrpS_71 z) - 1)).toNat * 1]?).getD 0) (((yrpS_73 z)[0]?).getD 0))).length), .sl 9 0 ((jM (yrpS_711 z) (yrpS_75 z)).length)], .a (.bool true)])]) (HrpS_7_0 z [3, 0, 1]) := by
  refine any_next [13] (by kernel_rfl) (by decide) fun i hi => ?_
  obtain rfl := two1 hi
  · exact any_one _ (v := .g [.sl 8 0 ((jE (yrpS_710 z) (yrpS_73 z) (fop .sub .f32 (((yrpS_73 z)[0 + (IntKind.i64.wrap ((yrpS_71 z) - 1)).toNat * 1]?).getD 0) (((yrpS_73 z)[0]?).getD 0))).length), .sl 9 0 ((jM (yrpS_711 z) (yrpS_75 z)).length)]) tabok_rpS horpS_7_13 (trivial) (by kernel_rfl) (by kernel_rfl) (by kernel_rfl) (anrpS_7_16 hc)
theorem anrpS_7_20 {z : zrpS_7} (hc : crpS_7_0 z) : arpS_7_0 z 4 40959 (qrpS_7_0 z 40959 [(8, .ptr 7 0), (41, .tup [.g [.sl 8 0 ((jE (yrpS_710 z) (yrpS_73 z) (fop .sub .f32 (((yrpS_73 z)[0 + (IntKind.i64.wrap ((yrpS_71 z) - 1)).toNat * 1]?).getD 0) (((yrpS_73 z)[0]?).getD 0))).length), .sl 9 0 ((jM (yrpS_711 z) (yrpS_75 z)).length)], .a (.bool true)]), (53, .tup [.g [.sl 8 0 ((jE (yrpS_710 z) (yrpS_73 z) (fop .sub .f32 (((yrpS_73 z)[0 + (IntKind.i64.wrap ((yrpS_71 z) - 1)).toNat * 1]?).getD 0) (((yrpS_73 z)[0]?).getD 0))).length), .sl 9 0 ((jM (yrpS_711 z) (yrpS_75 z)).length)], .a (.bool true)])]) (HrpS_7_0 z [3, 0, 1]) := by
  refine any_next [13, 14] (by kernel_rfl) (by decide) fun i hi => ?_
  rcases two2 hi with rfl | rfl
  · exact any_one _ (v := .g [.sl 8 0 ((jE (yrpS_710 z) (yrpS_73 z) (fop .sub .f32 (((yrpS_73 z)[0 + (IntKind.i64.wrap ((yrpS_71 z) - 1)).toNat * 1]?).getD 0) (((yrpS_73 z)[0]?).getD 0))).length), .sl 9 0 ((jM (yrpS_711 z) (yrpS_75 z)).length)]) tabok_rpS horpS_7_13 (trivial) (by kernel_rfl) (by kernel_rfl) (by kernel_rfl) (anrpS_7_18 hc)
  · exact any_one _ (v := vrpS_7_0 z 14) tabok_rpS horpS_7_14 (trivial) (by kernel_rfl) (by kernel_rfl) (by kernel_rfl) (anrpS_7_19 hc)
theorem anrpS_7_21 {z : zrpS_7} (hc : crpS_7_0 z) : arpS_7_0 z 5 36863 (qrpS_7_0 z 36863 [(8, .ptr 7 0), (53, .tup [.g [.sl 8 0 ((jE (yrpS_710 z) (yrpS_73 z) (fop .sub .f32 (((yrpS_73 z)[0 + (IntKind.i64.wrap ((yrpS_71 z) - 1)).toNat * 1]?).getD 0) (((yrpS_73 z)[0]?).getD 0))).length), .sl 9 0 ((jM (yrpS_711 z) (yrpS_75 z)).length)], .a (.bool true)])]) (HrpS_7_0 z [3, 0, 1]) := by
  refine any_next [12] (by kernel_rfl) (by decide) fun i hi => ?_
  obtain rfl := two1 hi
  · exact any_one _ (v := .tup [.g [.sl 8 0 ((jE (yrpS_710 z) (yrpS_73 z) (fop .sub .f32 (((yrpS_73 z)[0 + (IntKind.i64.wrap ((yrpS_71 z) - 1)).toNat * 1]?).getD 0) (((yrpS_73 z)[0]?).getD 0))).length), .sl 9 0 ((jM (yrpS_711 z) (yrpS_75 z)).length)], .a (.bool true)]) tabok_rpS horpS_7_12 (trivial) (by kernel_rfl) (by kernel_rfl) (by kernel_rfl) (anrpS_7_20 hc)
theorem anrpS_7_22 {z : zrpS_7} (hc : crpS_7_0 z) : arpS_7_0 z 6 34815 (qrpS_7_0 z 34815 [(8, .ptr 7 0)]) (HrpS_7_0 z [3]) := by
  refine any_next [11] (by kernel_rfl) (by decide) fun i hi => ?_
  obtain rfl := two1 hi
  · exact any_one _ (v := .tup [.g [.sl 8 0 ((jE (yrpS_710 z) (yrpS_73 z) (fop .sub .f32 (((yrpS_73 z)[0 + (IntKind.i64.wrap ((yrpS_71 z) - 1)).toNat * 1]?).getD 0) (((yrpS_73 z)[0]?).getD 0))).length), .sl 9 0 ((jM (yrpS_711 z) (yrpS_75 z)).length)], .a (.bool true)]) tabok_rpS horpS_7_11 (trivial) (by
      refine Eq.trans (b := (match decide ((yrpS_710 z).length = (yrpS_78 z) ∧ (yrpS_711 z).length = (yrpS_79 z) ∧ (yrpS_73 z).length = (yrpS_76 z) ∧ (yrpS_75 z).length = (yrpS_77 z)) with | true => (match jPre (yrpS_710 z) (yrpS_711 z) (yrpS_73 z) (yrpS_75 z) with | true => (match jOk (yrpS_710 z) (yrpS_711 z) (yrpS_73 z) (yrpS_75 z) (fop .sub .f32 (((yrpS_73 z)[0 + (IntKind.i64.wrap ((yrpS_71 z) - 1)).toNat * 1]?).getD 0) (((yrpS_73 z)[0]?).getD 0)) with | true => some ((.tup [.g [.sl 8 0 ((jE (yrpS_710 z) (yrpS_73 z) (fop .sub .f32 (((yrpS_73 z)[0 + (IntKind.i64.wrap ((yrpS_71 z) - 1)).toNat * 1]?).getD 0) (((yrpS_73 z)[0]?).getD 0))).length), .sl 9 0 ((jM (yrpS_711 z) (yrpS_75 z)).length)], .a (.bool true)]), [.at (yrpS_72 z) (.fl .f32 (yrpS_73 z)), .at (yrpS_74 z) (.fl .f32 (yrpS_75 z)), .at true (.as 1 [.sl 0 0 (yrpS_76 z), .sl 1 0 (yrpS_77 z)]), .at true (.as 1 [.nil, .nil]), .at true (.as 1 [.sl 5 0 (yrpS_78 z), .sl 6 0 (yrpS_79 z)]), .at true (.fl .f32 (yrpS_710 z)), .at true (.fl .f32 (yrpS_711 z)), .at true (.as 1 [.nil, .nil]), .at true (.fl .f32 (jE (yrpS_710 z) (yrpS_73 z) (fop .sub .f32 (((yrpS_73 z)[0 + (IntKind.i64.wrap ((yrpS_71 z) - 1)).toNat * 1]?).getD 0) (((yrpS_73 z)[0]?).getD 0)))), .at true (.fl .f32 (jM (yrpS_711 z) (yrpS_75 z)))]) | false => some ((.tup [.g [.nil, .nil], .a (.bool false)]), [.at (yrpS_72 z) (.fl .f32 (yrpS_73 z)), .at (yrpS_74 z) (.fl .f32 (yrpS_75 z)), .at true (.as 1 [.sl 0 0 (yrpS_76 z), .sl 1 0 (yrpS_77 z)]), .at true (.as 1 [.nil, .nil]), .at true (.as 1 [.sl 5 0 (yrpS_78 z), .sl 6 0 (yrpS_79 z)]), .at true (.fl .f32 (yrpS_710 z)), .at true (.fl .f32 (yrpS_711 z)), .at true (.as 1 [.nil, .nil])])) | false => none) | false => none)) (by kernel_rfl) ?_
      rw [hc.2.2.2.2.1, hc.2.2.2.2.2.1, hc.2.2.2.2.2.2]
      try rfl) (by kernel_rfl) (by kernel_rfl) (anrpS_7_21 hc)
theorem anrpS_7_23 {z : zrpS_7} (hc : crpS_7_0 z) : arpS_7_0 z 7 2047 (qrpS_7_0 z 2047 []) (HrpS_7_0 z []) := by
  refine any_next [11, 15] (by kernel_rfl) (by decide) fun i hi => ?_
  rcases two2 hi with rfl | rfl
  · exact any_one _ (v := vrpS_7_0 z 11) tabok_rpS horpS_7_11 (trivial) (by
      refine Eq.trans (b := (match decide ((yrpS_710 z).length = (yrpS_78 z) ∧ (yrpS_711 z).length = (yrpS_79 z) ∧ (yrpS_73 z).length = (yrpS_76 z) ∧ (yrpS_75 z).length = (yrpS_77 z)) with | true => (match jPre (yrpS_710 z) (yrpS_711 z) (yrpS_73 z) (yrpS_75 z) with | true => (match jOk (yrpS_710 z) (yrpS_711 z) (yrpS_73 z) (yrpS_75 z) (fop .sub .f32 (((yrpS_73 z)[0 + (IntKind.i64.wrap ((yrpS_71 z) - 1)).toNat * 1]?).getD 0) (((yrpS_73 z)[0]?).getD 0)) with | true => some ((.tup [.g [.sl 7 0 ((jE (yrpS_710 z) (yrpS_73 z) (fop .sub .f32 (((yrpS_73 z)[0 + (IntKind.i64.wrap ((yrpS_71 z) - 1)).toNat * 1]?).getD 0) (((yrpS_73 z)[0]?).getD 0))).length), .sl 8 0 ((jM (yrpS_711 z) (yrpS_75 z)).length)], .a (.bool true)]), [.at (yrpS_72 z) (.fl .f32 (yrpS_73 z)), .at (yrpS_74 z) (.fl .f32 (yrpS_75 z)), .at true (.as 1 [.sl 0 0 (yrpS_76 z), .sl 1 0 (yrpS_77 z)]), .at true (.as 1 [.nil, .nil]), .at true (.as 1 [.sl 5 0 (yrpS_78 z), .sl 6 0 (yrpS_79 z)]), .at true (.fl .f32 (yrpS_710 z)), .at true (.fl .f32 (yrpS_711 z)), .at true (.fl .f32 (jE (yrpS_710 z) (yrpS_73 z) (fop .sub .f32 (((yrpS_73 z)[0 + (IntKind.i64.wrap ((yrpS_71 z) - 1)).toNat * 1]?).getD 0) (((yrpS_73 z)[0]?).getD 0)))), .at true (.fl .f32 (jM (yrpS_711 z) (yrpS_75 z)))]) | false => some ((.tup [.g [.nil, .nil], .a (.bool false)]), [.at (yrpS_72 z) (.fl .f32 (yrpS_73 z)), .at (yrpS_74 z) (.fl .f32 (yrpS_75 z)), .at true (.as 1 [.sl 0 0 (yrpS_76 z), .sl 1 0 (yrpS_77 z)]), .at true (.as 1 [.nil, .nil]), .at true (.as 1 [.sl 5 0 (yrpS_78 z), .sl 6 0 (yrpS_79 z)]), .at true (.fl .f32 (yrpS_710 z)), .at true (.fl .f32 (yrpS_711 z))])) | false => none) | false => none)) (by kernel_rfl) ?_
      rw [hc.2.2.2.2.1, hc.2.2.2.2.2.1, hc.2.2.2.2.2.2]
      try rfl) (by kernel_rfl) (by kernel_rfl) (anrpS_7_13 hc)
  · exact any_one _ (v := .ptr 7 0) tabok_rpS horpS_7_15 (trivial) (by kernel_rfl) (by kernel_rfl) (by kernel_rfl) (anrpS_7_22 hc)
theorem anrpS_7_24 {z : zrpS_7} (hc : crpS_7_0 z) : arpS_7_0 z 7 33791 (qrpS_7_0 z 33791 [(8, .ptr 7 0)]) (HrpS_7_0 z [3]) := by
  refine any_next [10] (by kernel_rfl) (by decide) fun i hi => ?_
  obtain rfl := two1 hi
  · exact any_one _ (v := vrpS_7_0 z 10) tabok_rpS horpS_7_10 (trivial) (by kernel_rfl) (by kernel_rfl) (by kernel_rfl) (anrpS_7_22 hc)
theorem anrpS_7_25 {z : zrpS_7} (hc : crpS_7_0 z) : arpS_7_0 z 8 1023 (qrpS_7_0 z 1023 []) (HrpS_7_0 z []) := by
  refine any_next [10, 15] (by kernel_rfl) (by decide) fun i hi => ?_
  rcases two2 hi with rfl | rfl
  · exact any_one _ (v := vrpS_7_0 z 10) tabok_rpS horpS_7_10 (trivial) (by kernel_rfl) (by kernel_rfl) (by kernel_rfl) (anrpS_7_23 hc)
  · exact any_one _ (v := .ptr 7 0) tabok_rpS horpS_7_15 (trivial) (by kernel_rfl) (by kernel_rfl) (by kernel_rfl) (anrpS_7_24 hc)
theorem anrpS_7_26 {z : zrpS_7} (hc : crpS_7_0 z) : arpS_7_0 z 8 33279 (qrpS_7_0 z 33279 [(8, .ptr 7 0)]) (HrpS_7_0 z [3]) := by
  refine any_next [9] (by kernel_rfl) (by decide) fun i hi => ?_
  obtain rfl := two1 hi
  · exact any_one _ (v := vrpS_7_0 z 9) tabok_rpS horpS_7_9 (trivial) (by
      refine Eq.trans (b := (match (yrpS_73 z)[0]? with | some e11 => some ((.fl .f32 e11), [.at (yrpS_72 z) (.fl .f32 (yrpS_73 z)), .at (yrpS_74 z) (.fl .f32 (yrpS_75 z)), .at true (.as 1 [.sl 0 0 (yrpS_76 z), .sl 1 0 (yrpS_77 z)]), .at true (.as 1 [.nil, .nil]), .at true (.as 1 [.sl 5 0 (yrpS_78 z), .sl 6 0 (yrpS_79 z)]), .at true (.fl .f32 (yrpS_710 z)), .at true (.fl .f32 (yrpS_711 z)), .at true (.as 1 [.nil, .nil])]) | none => none)) (by kernel_rfl) ?_
      rw [someD (hc.2.2.2.1)]
      try rfl) (by kernel_rfl) (by kernel_rfl) (anrpS_7_24 hc)
theorem anrpS_7_27 {z : zrpS_7} (hc : crpS_7_0 z) : arpS_7_0 z 9 511 (qrpS_7_0 z 511 []) (HrpS_7_0 z []) := by
  refine any_next [9, 15] (by kernel_rfl) (by decide) fun i hi => ?_
  rcases two2 hi with rfl | rfl
  · exact any_one _ (v := vrpS_7_0 z 9) tabok_rpS horpS_7_9 (trivial) (by
      refine Eq.trans (b := (match (yrpS_73 z)[0]? with | some e9 => some ((.fl .f32 e9), [.at (yrpS_72 z) (.fl .f32 (yrpS_73 z)), .at (yrpS_74 z) (.fl .f32 (yrpS_75 z)), .at true (.as 1 [.sl 0 0 (yrpS_76 z), .sl 1 0 (yrpS_77 z)]), .at true (.as 1 [.nil, .nil]), .at true (.as 1 [.sl 5 0 (yrpS_78 z), .sl 6 0 (yrpS_79 z)]), .at true (.fl .f32 (yrpS_710 z)), .at true (.fl .f32 (yrpS_711 z))]) | none => none)) (by kernel_rfl) ?_
      rw [someD (hc.2.2.2.1)]
      try rfl) (by kernel_rfl) (by kernel_rfl) (anrpS_7_25 hc)
  · exact any_one _ (v := .ptr 7 0) tabok_rpS horpS_7_15 (trivial) (by kernel_rfl) (by kernel_rfl) (by kernel_rfl) (anrpS_7_26 hc)
theorem anrpS_7_28 {z : zrpS_7} (hc : crpS_7_0 z) : arpS_7_0 z 9 33023 (qrpS_7_0 z 33023 [(8, .ptr 7 0)]) (HrpS_7_0 z [3]) := by
  refine any_next [8] (by kernel_rfl) (by decide) fun i hi => ?_
  obtain rfl := two1 hi
  · exact any_one _ (v := vrpS_7_0 z 8) tabok_rpS horpS_7_8 (trivial) (by
      refine Eq.trans (b := (match decide (0 ≤ (0 : Int) ∧ (0 : Int) < (((yrpS_76 z) : Nat) : Int)) with | true => some ((.ptr 0 0), [.at (yrpS_72 z) (.fl .f32 (yrpS_73 z)), .at (yrpS_74 z) (.fl .f32 (yrpS_75 z)), .at true (.as 1 [.sl 0 0 (yrpS_76 z), .sl 1 0 (yrpS_77 z)]), .at true (.as 1 [.nil, .nil]), .at true (.as 1 [.sl 5 0 (yrpS_78 z), .sl 6 0 (yrpS_79 z)]), .at true (.fl .f32 (yrpS_710 z)), .at true (.fl .f32 (yrpS_711 z)), .at true (.as 1 [.nil, .nil])]) | false => none)) (by kernel_rfl) ?_
      rw [hc.2.2.1]
      try rfl) (by kernel_rfl) (by kernel_rfl) (anrpS_7_26 hc)
theorem anrpS_7_29 {z : zrpS_7} (hc : crpS_7_0 z) : arpS_7_0 z 10 255 (qrpS_7_0 z 255 []) (HrpS_7_0 z []) := by
  refine any_next [8, 15] (by kernel_rfl) (by decide) fun i hi => ?_
  rcases two2 hi with rfl | rfl
  · exact any_one _ (v := vrpS_7_0 z 8) tabok_rpS horpS_7_8 (trivial) (by
      refine Eq.trans (b := (match decide (0 ≤ (0 : Int) ∧ (0 : Int) < (((yrpS_76 z) : Nat) : Int)) with | true => some ((.ptr 0 0), [.at (yrpS_72 z) (.fl .f32 (yrpS_73 z)), .at (yrpS_74 z) (.fl .f32 (yrpS_75 z)), .at true (.as 1 [.sl 0 0 (yrpS_76 z), .sl 1 0 (yrpS_77 z)]), .at true (.as 1 [.nil, .nil]), .at true (.as 1 [.sl 5 0 (yrpS_78 z), .sl 6 0 (yrpS_79 z)]), .at true (.fl .f32 (yrpS_710 z)), .at true (.fl .f32 (yrpS_711 z))]) | false => none)) (by kernel_rfl) ?_
      rw [hc.2.2.1]
      try rfl) (by kernel_rfl) (by kernel_rfl) (anrpS_7_27 hc)
  · exact any_one _ (v := .ptr 7 0) tabok_rpS horpS_7_15 (trivial) (by kernel_rfl) (by kernel_rfl) (by kernel_rfl) (anrpS_7_28 hc)
theorem anrpS_7_30 {z : zrpS_7} (hc : crpS_7_0 z) : arpS_7_0 z 10 32895 (qrpS_7_0 z 32895 [(8, .ptr 7 0)]) (HrpS_7_0 z [3]) := by
  refine any_next [7] (by kernel_rfl) (by decide) fun i hi => ?_
  obtain rfl := two1 hi
  · exact any_one _ (v := vrpS_7_0 z 7) tabok_rpS horpS_7_7 (trivial) (by kernel_rfl) (by kernel_rfl) (by kernel_rfl) (anrpS_7_28 hc)
theorem anrpS_7_31 {z : zrpS_7} (hc : crpS_7_0 z) : arpS_7_0 z 11 127 (qrpS_7_0 z 127 []) (HrpS_7_0 z []) := by
  refine any_next [7, 15] (by kernel_rfl) (by decide) fun i hi => ?_
  rcases two2 hi with rfl | rfl
  · exact any_one _ (v := vrpS_7_0 z 7) tabok_rpS horpS_7_7 (trivial) (by kernel_rfl) (by kernel_rfl) (by kernel_rfl) (anrpS_7_29 hc)
  · exact any_one _ (v := .ptr 7 0) tabok_rpS horpS_7_15 (trivial) (by kernel_rfl) (by kernel_rfl) (by kernel_rfl) (anrpS_7_30 hc)
theorem anrpS_7_32 {z : zrpS_7} (hc : crpS_7_0 z) : arpS_7_0 z 11 32831 (qrpS_7_0 z 32831 [(8, .ptr 7 0)]) (HrpS_7_0 z [3]) := by
  refine any_next [6] (by kernel_rfl) (by decide) fun i hi => ?_
  obtain rfl := two1 hi
  · exact any_one _ (v := vrpS_7_0 z 6) tabok_rpS horpS_7_6 (trivial) (by kernel_rfl) (by kernel_rfl) (by kernel_rfl) (anrpS_7_30 hc)
theorem anrpS_7_33 {z : zrpS_7} (hc : crpS_7_0 z) : arpS_7_0 z 12 63 (qrpS_7_0 z 63 []) (HrpS_7_0 z []) := by
  refine any_next [6, 15] (by kernel_rfl) (by decide) fun i hi => ?_
  rcases two2 hi with rfl | rfl
  · exact any_one _ (v := vrpS_7_0 z 6) tabok_rpS horpS_7_6 (trivial) (by kernel_rfl) (by kernel_rfl) (by kernel_rfl) (anrpS_7_31 hc)
  · exact any_one _ (v := .ptr 7 0) tabok_rpS horpS_7_15 (trivial) (by kernel_rfl) (by kernel_rfl) (by kernel_rfl) (anrpS_7_32 hc)
theorem anrpS_7_34 {z : zrpS_7} (hc : crpS_7_0 z) : arpS_7_0 z 8 33759 (qrpS_7_0 z 33759 [(8, .ptr 7 0)]) (HrpS_7_0 z [3]) := by
  refine any_next [5] (by kernel_rfl) (by decide) fun i hi => ?_
  obtain rfl := two1 hi
  · exact any_one _ (v := vrpS_7_0 z 5) tabok_rpS horpS_7_5 (trivial) (by
      refine Eq.trans (b := (match (yrpS_73 z)[0 + (IntKind.i64.wrap ((yrpS_71 z) - 1)).toNat * 1]? with | some e23 => some ((.fl .f32 e23), [.at (yrpS_72 z) (.fl .f32 (yrpS_73 z)), .at (yrpS_74 z) (.fl .f32 (yrpS_75 z)), .at true (.as 1 [.sl 0 0 (yrpS_76 z), .sl 1 0 (yrpS_77 z)]), .at true (.as 1 [.nil, .nil]), .at true (.as 1 [.sl 5 0 (yrpS_78 z), .sl 6 0 (yrpS_79 z)]), .at true (.fl .f32 (yrpS_710 z)), .at true (.fl .f32 (yrpS_711 z)), .at true (.as 1 [.nil, .nil])]) | none => none)) (by kernel_rfl) ?_
      rw [someD (hc.2.1)]
      try rfl) (by kernel_rfl) (by kernel_rfl) (anrpS_7_24 hc)
theorem anrpS_7_35 {z : zrpS_7} (hc : crpS_7_0 z) : arpS_7_0 z 9 991 (qrpS_7_0 z 991 []) (HrpS_7_0 z []) := by
  refine any_next [5, 15] (by kernel_rfl) (by decide) fun i hi => ?_
  rcases two2 hi with rfl | rfl
  · exact any_one _ (v := vrpS_7_0 z 5) tabok_rpS horpS_7_5 (trivial) (by
      refine Eq.trans (b := (match (yrpS_73 z)[0 + (IntKind.i64.wrap ((yrpS_71 z) - 1)).toNat * 1]? with | some e21 => some ((.fl .f32 e21), [.at (yrpS_72 z) (.fl .f32 (yrpS_73 z)), .at (yrpS_74 z) (.fl .f32 (yrpS_75 z)), .at true (.as 1 [.sl 0 0 (yrpS_76 z), .sl 1 0 (yrpS_77 z)]), .at true (.as 1 [.nil, .nil]), .at true (.as 1 [.sl 5 0 (yrpS_78 z), .sl 6 0 (yrpS_79 z)]), .at true (.fl .f32 (yrpS_710 z)), .at true (.fl .f32 (yrpS_711 z))]) | none => none)) (by kernel_rfl) ?_
      rw [someD (hc.2.1)]
      try rfl) (by kernel_rfl) (by kernel_rfl) (anrpS_7_25 hc)
  · exact any_one _ (v := .ptr 7 0) tabok_rpS horpS_7_15 (trivial) (by kernel_rfl) (by kernel_rfl) (by kernel_rfl) (anrpS_7_34 hc)
theorem anrpS_7_36 {z : zrpS_7} (hc : crpS_7_0 z) : arpS_7_0 z 9 33247 (qrpS_7_0 z 33247 [(8, .ptr 7 0)]) (HrpS_7_0 z [3]) := by
  refine any_next [5, 9] (by kernel_rfl) (by decide) fun i hi => ?_
  rcases two2 hi with rfl | rfl
  · exact any_one _ (v := vrpS_7_0 z 5) tabok_rpS horpS_7_5 (trivial) (by
      refine Eq.trans (b := (match (yrpS_73 z)[0 + (IntKind.i64.wrap ((yrpS_71 z) - 1)).toNat * 1]? with | some e26 => some ((.fl .f32 e26), [.at (yrpS_72 z) (.fl .f32 (yrpS_73 z)), .at (yrpS_74 z) (.fl .f32 (yrpS_75 z)), .at true (.as 1 [.sl 0 0 (yrpS_76 z), .sl 1 0 (yrpS_77 z)]), .at true (.as 1 [.nil, .nil]), .at true (.as 1 [.sl 5 0 (yrpS_78 z), .sl 6 0 (yrpS_79 z)]), .at true (.fl .f32 (yrpS_710 z)), .at true (.fl .f32 (yrpS_711 z)), .at true (.as 1 [.nil, .nil])]) | none => none)) (by kernel_rfl) ?_
      rw [someD (hc.2.1)]
      try rfl) (by kernel_rfl) (by kernel_rfl) (anrpS_7_26 hc)
  · exact any_one _ (v := vrpS_7_0 z 9) tabok_rpS horpS_7_9 (trivial) (by
      refine Eq.trans (b := (match (yrpS_73 z)[0]? with | some e28 => some ((.fl .f32 e28), [.at (yrpS_72 z) (.fl .f32 (yrpS_73 z)), .at (yrpS_74 z) (.fl .f32 (yrpS_75 z)), .at true (.as 1 [.sl 0 0 (yrpS_76 z), .sl 1 0 (yrpS_77 z)]), .at true (.as 1 [.nil, .nil]), .at true (.as 1 [.sl 5 0 (yrpS_78 z), .sl 6 0 (yrpS_79 z)]), .at true (.fl .f32 (yrpS_710 z)), .at true (.fl .f32 (yrpS_711 z)), .at true (.as 1 [.nil, .nil])]) | none => none)) (by kernel_rfl) ?_
      rw [someD (hc.2.2.2.1)]
      try rfl) (by kernel_rfl) (by kernel_rfl) (anrpS_7_34 hc)
theorem anrpS_7_37 {z : zrpS_7} (hc : crpS_7_0 z) : arpS_7_0 z 10 479 (qrpS_7_0 z 479 []) (HrpS_7_0 z []) := by
  refine any_next [5, 9, 15] (by kernel_rfl) (by decide) fun i hi => ?_
  rcases two3 hi with rfl | rfl | rfl
  · exact any_one _ (v := vrpS_7_0 z 5) tabok_rpS horpS_7_5 (trivial) (by
      refine Eq.trans (b := (match (yrpS_73 z)[0 + (IntKind.i64.wrap ((yrpS_71 z) - 1)).toNat * 1]? with | some e18 => some ((.fl .f32 e18), [.at (yrpS_72 z) (.fl .f32 (yrpS_73 z)), .at (yrpS_74 z) (.fl .f32 (yrpS_75 z)), .at true (.as 1 [.sl 0 0 (yrpS_76 z), .sl 1 0 (yrpS_77 z)]), .at true (.as 1 [.nil, .nil]), .at true (.as 1 [.sl 5 0 (yrpS_78 z), .sl 6 0 (yrpS_79 z)]), .at true (.fl .f32 (yrpS_710 z)), .at true (.fl .f32 (yrpS_711 z))]) | none => none)) (by kernel_rfl) ?_
      rw [someD (hc.2.1)]
      try rfl) (by kernel_rfl) (by kernel_rfl) (anrpS_7_27 hc)
  · exact any_one _ (v := vrpS_7_0 z 9) tabok_rpS horpS_7_9 (trivial) (by
      refine Eq.trans (b := (match (yrpS_73 z)[0]? with | some e24 => some ((.fl .f32 e24), [.at (yrpS_72 z) (.fl .f32 (yrpS_73 z)), .at (yrpS_74 z) (.fl .f32 (yrpS_75 z)), .at true (.as 1 [.sl 0 0 (yrpS_76 z), .sl 1 0 (yrpS_77 z)]), .at true (.as 1 [.nil, .nil]), .at true (.as 1 [.sl 5 0 (yrpS_78 z), .sl 6 0 (yrpS_79 z)]), .at true (.fl .f32 (yrpS_710 z)), .at true (.fl .f32 (yrpS_711 z))]) | none => none)) (by kernel_rfl) ?_
      rw [someD (hc.2.2.2.1)]
      try rfl) (by kernel_rfl) (by kernel_rfl) (anrpS_7_35 hc)
  · exact any_one _ (v := .ptr 7 0) tabok_rpS horpS_7_15 (trivial) (by kernel_rfl) (by kernel_rfl) (by kernel_rfl) (anrpS_7_36 hc)
theorem anrpS_7_38 {z : zrpS_7} (hc : crpS_7_0 z) : arpS_7_0 z 10 32991 (qrpS_7_0 z 32991 [(8, .ptr 7 0)]) (HrpS_7_0 z [3]) := by
  refine any_next [5, 8] (by kernel_rfl) (by decide) fun i hi => ?_
  rcases two2 hi with rfl | rfl
  · exact any_one _ (v := vrpS_7_0 z 5) tabok_rpS horpS_7_5 (trivial) (by
      refine Eq.trans (b := (match (yrpS_73 z)[0 + (IntKind.i64.wrap ((yrpS_71 z) - 1)).toNat * 1]? with | some e30 => some ((.fl .f32 e30), [.at (yrpS_72 z) (.fl .f32 (yrpS_73 z)), .at (yrpS_74 z) (.fl .f32 (yrpS_75 z)), .at true (.as 1 [.sl 0 0 (yrpS_76 z), .sl 1 0 (yrpS_77 z)]), .at true (.as 1 [.nil, .nil]), .at true (.as 1 [.sl 5 0 (yrpS_78 z), .sl 6 0 (yrpS_79 z)]), .at true (.fl .f32 (yrpS_710 z)), .at true (.fl .f32 (yrpS_711 z)), .at true (.as 1 [.nil, .nil])]) | none => none)) (by kernel_rfl) ?_
      rw [someD (hc.2.1)]
      try rfl) (by kernel_rfl) (by kernel_rfl) (anrpS_7_28 hc)
  · exact any_one _ (v := vrpS_7_0 z 8) tabok_rpS horpS_7_8 (trivial) (by
      refine Eq.trans (b := (match decide (0 ≤ (0 : Int) ∧ (0 : Int) < (((yrpS_76 z) : Nat) : Int)) with | true => some ((.ptr 0 0), [.at (yrpS_72 z) (.fl .f32 (yrpS_73 z)), .at (yrpS_74 z) (.fl .f32 (yrpS_75 z)), .at true (.as 1 [.sl 0 0 (yrpS_76 z), .sl 1 0 (yrpS_77 z)]), .at true (.as 1 [.nil, .nil]), .at true (.as 1 [.sl 5 0 (yrpS_78 z), .sl 6 0 (yrpS_79 z)]), .at true (.fl .f32 (yrpS_710 z)), .at true (.fl .f32 (yrpS_711 z)), .at true (.as 1 [.nil, .nil])]) | false => none)) (by kernel_rfl) ?_
      rw [hc.2.2.1]
      try rfl) (by kernel_rfl) (by kernel_rfl) (anrpS_7_36 hc)
theorem anrpS_7_39 {z : zrpS_7} (hc : crpS_7_0 z) : arpS_7_0 z 11 223 (qrpS_7_0 z 223 []) (HrpS_7_0 z []) := by
  refine any_next [5, 8, 15] (by kernel_rfl) (by decide) fun i hi => ?_
  rcases two3 hi with rfl | rfl | rfl
  · exact any_one _ (v := vrpS_7_0 z 5) tabok_rpS horpS_7_5 (trivial) (by
      refine Eq.trans (b := (match (yrpS_73 z)[0 + (IntKind.i64.wrap ((yrpS_71 z) - 1)).toNat * 1]? with | some e16 => some ((.fl .f32 e16), [.at (yrpS_72 z) (.fl .f32 (yrpS_73 z)), .at (yrpS_74 z) (.fl .f32 (yrpS_75 z)), .at true (.as 1 [.sl 0 0 (yrpS_76 z), .sl 1 0 (yrpS_77 z)]), .at true (.as 1 [.nil, .nil]), .at true (.as 1 [.sl 5 0 (yrpS_78 z), .sl 6 0 (yrpS_79 z)]), .at true (.fl .f32 (yrpS_710 z)), .at true (.fl .f32 (yrpS_711 z))]) | none => none)) (by kernel_rfl) ?_
      rw [someD (hc.2.1)]
      try rfl) (by kernel_rfl) (by kernel_rfl) (anrpS_7_29 hc)
  · exact any_one _ (v := vrpS_7_0 z 8) tabok_rpS horpS_7_8 (trivial) (by
      refine Eq.trans (b := (match decide (0 ≤ (0 : Int) ∧ (0 : Int) < (((yrpS_76 z) : Nat) : Int)) with | true => some ((.ptr 0 0), [.at (yrpS_72 z) (.fl .f32 (yrpS_73 z)), .at (yrpS_74 z) (.fl .f32 (yrpS_75 z)), .at true (.as 1 [.sl 0 0 (yrpS_76 z), .sl 1 0 (yrpS_77 z)]), .at true (.as 1 [.nil, .nil]), .at true (.as 1 [.sl 5 0 (yrpS_78 z), .sl 6 0 (yrpS_79 z)]), .at true (.fl .f32 (yrpS_710 z)), .at true (.fl .f32 (yrpS_711 z))]) | false => none)) (by kernel_rfl) ?_
      rw [hc.2.2.1]
      try rfl) (by kernel_rfl) (by kernel_rfl) (anrpS_7_37 hc)
  · exact any_one _ (v := .ptr 7 0) tabok_rpS horpS_7_15 (trivial) (by kernel_rfl) (by kernel_rfl) (by kernel_rfl) (anrpS_7_38 hc)
theorem anrpS_7_40 {z : zrpS_7} (hc : crpS_7_0 z) : arpS_7_0 z 11 32863 (qrpS_7_0 z 32863 [(8, .ptr 7 0)]) (HrpS_7_0 z [3]) := by
  refine any_next [5, 7] (by kernel_rfl) (by decide) fun i hi => ?_
  rcases two2 hi with rfl | rfl
  · exact any_one _ (v := vrpS_7_0 z 5) tabok_rpS horpS_7_5 (trivial) (by
      refine Eq.trans (b := (match (yrpS_73 z)[0 + (IntKind.i64.wrap ((yrpS_71 z) - 1)).toNat * 1]? with | some e32 => some ((.fl .f32 e32), [.at (yrpS_72 z) (.fl .f32 (yrpS_73 z)), .at (yrpS_74 z) (.fl .f32 (yrpS_75 z)), .at true (.as 1 [.sl 0 0 (yrpS_76 z), .sl 1 0 (yrpS_77 z)]), .at true (.as 1 [.nil, .nil]), .at true (.as 1 [.sl 5 0 (yrpS_78 z), .sl 6 0 (yrpS_79 z)]), .at true (.fl .f32 (yrpS_710 z)), .at true (.fl .f32 (yrpS_711 z)), .at true (.as 1 [.nil, .nil])]) | none => none)) (by kernel_rfl) ?_
      rw [someD (hc.2.1)]
      try rfl) (by kernel_rfl) (by kernel_rfl) (anrpS_7_30 hc)
  · exact any_one _ (v := vrpS_7_0 z 7) tabok_rpS horpS_7_7 (trivial) (by kernel_rfl) (by kernel_rfl) (by kernel_rfl) (anrpS_7_38 hc)
theorem anrpS_7_41 {z : zrpS_7} (hc : crpS_7_0 z) : arpS_7_0 z 12 95 (qrpS_7_0 z 95 []) (HrpS_7_0 z []) := by
  refine any_next [5, 7, 15] (by kernel_rfl) (by decide) fun i hi => ?_
  rcases two3 hi with rfl | rfl | rfl
  · exact any_one _ (v := vrpS_7_0 z 5) tabok_rpS horpS_7_5 (trivial) (by
      refine Eq.trans (b := (match (yrpS_73 z)[0 + (IntKind.i64.wrap ((yrpS_71 z) - 1)).toNat * 1]? with | some e14 => some ((.fl .f32 e14), [.at (yrpS_72 z) (.fl .f32 (yrpS_73 z)), .at (yrpS_74 z) (.fl .f32 (yrpS_75 z)), .at true (.as 1 [.sl 0 0 (yrpS_76 z), .sl 1 0 (yrpS_77 z)]), .at true (.as 1 [.nil, .nil]), .at true (.as 1 [.sl 5 0 (yrpS_78 z), .sl 6 0 (yrpS_79 z)]), .at true (.fl .f32 (yrpS_710 z)), .at true (.fl .f32 (yrpS_711 z))]) | none => none)) (by kernel_rfl) ?_
      rw [someD (hc.2.1)]
      try rfl) (by kernel_rfl) (by kernel_rfl) (anrpS_7_31 hc)
  · exact any_one _ (v := vrpS_7_0 z 7) tabok_rpS horpS_7_7 (trivial) (by kernel_rfl) (by kernel_rfl) (by kernel_rfl) (anrpS_7_39 hc)
  · exact any_one _ (v := .ptr 7 0) tabok_rpS horpS_7_15 (trivial) (by kernel_rfl) (by kernel_rfl) (by kernel_rfl) (anrpS_7_40 hc)
theorem anrpS_7_42 {z : zrpS_7} (hc : crpS_7_0 z) : arpS_7_0 z 12 32799 (qrpS_7_0 z 32799 [(8, .ptr 7 0)]) (HrpS_7_0 z [3]) := by
  refine any_next [5, 6] (by kernel_rfl) (by decide) fun i hi => ?_
  rcases two2 hi with rfl | rfl
  · exact any_one _ (v := vrpS_7_0 z 5) tabok_rpS horpS_7_5 (trivial) (by
      refine Eq.trans (b := (match (yrpS_73 z)[0 + (IntKind.i64.wrap ((yrpS_71 z) - 1)).toNat * 1]? with | some e34 => some ((.fl .f32 e34), [.at (yrpS_72 z) (.fl .f32 (yrpS_73 z)), .at (yrpS_74 z) (.fl .f32 (yrpS_75 z)), .at true (.as 1 [.sl 0 0 (yrpS_76 z), .sl 1 0 (yrpS_77 z)]), .at true (.as 1 [.nil, .nil]), .at true (.as 1 [.sl 5 0 (yrpS_78 z), .sl 6 0 (yrpS_79 z)]), .at true (.fl .f32 (yrpS_710 z)), .at true (.fl .f32 (yrpS_711 z)), .at true (.as 1 [.nil, .nil])]) | none => none)) (by kernel_rfl) ?_
      rw [someD (hc.2.1)]
      try rfl) (by kernel_rfl) (by kernel_rfl) (anrpS_7_32 hc)
  · exact any_one _ (v := vrpS_7_0 z 6) tabok_rpS horpS_7_6 (trivial) (by kernel_rfl) (by kernel_rfl) (by kernel_rfl) (anrpS_7_40 hc)
theorem anrpS_7_43 {z : zrpS_7} (hc : crpS_7_0 z) : arpS_7_0 z 13 31 (qrpS_7_0 z 31 []) (HrpS_7_0 z []) := by
  refine any_next [5, 6, 15] (by kernel_rfl) (by decide) fun i hi => ?_
  rcases two3 hi with rfl | rfl | rfl
  · exact any_one _ (v := vrpS_7_0 z 5) tabok_rpS horpS_7_5 (trivial) (by
      refine Eq.trans (b := (match (yrpS_73 z)[0 + (IntKind.i64.wrap ((yrpS_71 z) - 1)).toNat * 1]? with | some e12 => some ((.fl .f32 e12), [.at (yrpS_72 z) (.fl .f32 (yrpS_73 z)), .at (yrpS_74 z) (.fl .f32 (yrpS_75 z)), .at true (.as 1 [.sl 0 0 (yrpS_76 z), .sl 1 0 (yrpS_77 z)]), .at true (.as 1 [.nil, .nil]), .at true (.as 1 [.sl 5 0 (yrpS_78 z), .sl 6 0 (yrpS_79 z)]), .at true (.fl .f32 (yrpS_710 z)), .at true (.fl .f32 (yrpS_711 z))]) | none => none)) (by kernel_rfl) ?_
      rw [someD (hc.2.1)]
      try rfl) (by kernel_rfl) (by kernel_rfl) (anrpS_7_33 hc)
  · exact any_one _ (v := vrpS_7_0 z 6) tabok_rpS horpS_7_6 (trivial) (by kernel_rfl) (by kernel_rfl) (by kernel_rfl) (anrpS_7_41 hc)
  · exact any_one _ (v := .ptr 7 0) tabok_rpS horpS_7_15 (trivial) (by kernel_rfl) (by kernel_rfl) (by kernel_rfl) (anrpS_7_42 hc)
theorem anrpS_7_44 {z : zrpS_7} (hc : crpS_7_0 z) : arpS_7_0 z 9 33743 (qrpS_7_0 z 33743 [(8, .ptr 7 0)]) (HrpS_7_0 z [3]) := by
  refine any_next [4] (by kernel_rfl) (by decide) fun i hi => ?_
  obtain rfl := two1 hi
  · exact any_one _ (v := vrpS_7_0 z 4) tabok_rpS horpS_7_4 (trivial) (by
      refine Eq.trans (b := (match decide (0 ≤ (IntKind.i64.wrap ((yrpS_71 z) - 1) : Int) ∧ (IntKind.i64.wrap ((yrpS_71 z) - 1) : Int) < (((yrpS_76 z) : Nat) : Int)) with | true => some ((.ptr 0 (0 + (IntKind.i64.wrap ((yrpS_71 z) - 1)).toNat * 1)), [.at (yrpS_72 z) (.fl .f32 (yrpS_73 z)), .at (yrpS_74 z) (.fl .f32 (yrpS_75 z)), .at true (.as 1 [.sl 0 0 (yrpS_76 z), .sl 1 0 (yrpS_77 z)]), .at true (.as 1 [.nil, .nil]), .at true (.as 1 [.sl 5 0 (yrpS_78 z), .sl 6 0 (yrpS_79 z)]), .at true (.fl .f32 (yrpS_710 z)), .at true (.fl .f32 (yrpS_711 z)), .at true (.as 1 [.nil, .nil])]) | false => none)) (by kernel_rfl) ?_
      rw [hc.1]
      try rfl) (by kernel_rfl) (by kernel_rfl) (anrpS_7_34 hc)
theorem anrpS_7_45 {z : zrpS_7} (hc : crpS_7_0 z) : arpS_7_0 z 10 975 (qrpS_7_0 z 975 []) (HrpS_7_0 z []) := by
  refine any_next [4, 15] (by kernel_rfl) (by decide) fun i hi => ?_
  rcases two2 hi with rfl | rfl
  · exact any_one _ (v := vrpS_7_0 z 4) tabok_rpS horpS_7_4 (trivial) (by
      refine Eq.trans (b := (match decide (0 ≤ (IntKind.i64.wrap ((yrpS_71 z) - 1) : Int) ∧ (IntKind.i64.wrap ((yrpS_71 z) - 1) : Int) < (((yrpS_76 z) : Nat) : Int)) with | true => some ((.ptr 0 (0 + (IntKind.i64.wrap ((yrpS_71 z) - 1)).toNat * 1)), [.at (yrpS_72 z) (.fl .f32 (yrpS_73 z)), .at (yrpS_74 z) (.fl .f32 (yrpS_75 z)), .at true (.as 1 [.sl 0 0 (yrpS_76 z), .sl 1 0 (yrpS_77 z)]), .at true (.as 1 [.nil, .nil]), .at true (.as 1 [.sl 5 0 (yrpS_78 z), .sl 6 0 (yrpS_79 z)]), .at true (.fl .f32 (yrpS_710 z)), .at true (.fl .f32 (yrpS_711 z))]) | false => none)) (by kernel_rfl) ?_
      rw [hc.1]
      try rfl) (by kernel_rfl) (by kernel_rfl) (anrpS_7_35 hc)
  · exact any_one _ (v := .ptr 7 0) tabok_rpS horpS_7_15 (trivial) (by kernel_rfl) (by kernel_rfl) (by kernel_rfl) (anrpS_7_44 hc)
theorem anrpS_7_46 {z : zrpS_7} (hc : crpS_7_0 z) : arpS_7_0 z 10 33231 (qrpS_7_0 z 33231 [(8, .ptr 7 0)]) (HrpS_7_0 z [3]) := by
  refine any_next [4, 9] (by kernel_rfl) (by decide) fun i hi => ?_
  rcases two2 hi with rfl | rfl
  · exact any_one _ (v := vrpS_7_0 z 4) tabok_rpS horpS_7_4 (trivial) (by
      refine Eq.trans (b := (match decide (0 ≤ (IntKind.i64.wrap ((yrpS_71 z) - 1) : Int) ∧ (IntKind.i64.wrap ((yrpS_71 z) - 1) : Int) < (((yrpS_76 z) : Nat) : Int)) with | true => some ((.ptr 0 (0 + (IntKind.i64.wrap ((yrpS_71 z) - 1)).toNat * 1)), [.at (yrpS_72 z) (.fl .f32 (yrpS_73 z)), .at (yrpS_74 z) (.fl .f32 (yrpS_75 z)), .at true (.as 1 [.sl 0 0 (yrpS_76 z), .sl 1 0 (yrpS_77 z)]), .at true (.as 1 [.nil, .nil]), .at true (.as 1 [.sl 5 0 (yrpS_78 z), .sl 6 0 (yrpS_79 z)]), .at true (.fl .f32 (yrpS_710 z)), .at true (.fl .f32 (yrpS_711 z)), .at true (.as 1 [.nil, .nil])]) | false => none)) (by kernel_rfl) ?_
      rw [hc.1]
      try rfl) (by kernel_rfl) (by kernel_rfl) (anrpS_7_36 hc)
  · exact any_one _ (v := vrpS_7_0 z 9) tabok_rpS horpS_7_9 (trivial) (by
      refine Eq.trans (b := (match (yrpS_73 z)[0]? with | some e38 => some ((.fl .f32 e38), [.at (yrpS_72 z) (.fl .f32 (yrpS_73 z)), .at (yrpS_74 z) (.fl .f32 (yrpS_75 z)), .at true (.as 1 [.sl 0 0 (yrpS_76 z), .sl 1 0 (yrpS_77 z)]), .at true (.as 1 [.nil, .nil]), .at true (.as 1 [.sl 5 0 (yrpS_78 z), .sl 6 0 (yrpS_79 z)]), .at true (.fl .f32 (yrpS_710 z)), .at true (.fl .f32 (yrpS_711 z)), .at true (.as 1 [.nil, .nil])]) | none => none)) (by kernel_rfl) ?_
      rw [someD (hc.2.2.2.1)]
      try rfl) (by kernel_rfl) (by kernel_rfl) (anrpS_7_44 hc)
theorem anrpS_7_47 {z : zrpS_7} (hc : crpS_7_0 z) : arpS_7_0 z 11 463 (qrpS_7_0 z 463 []) (HrpS_7_0 z []) := by
  refine any_next [4, 9, 15] (by kernel_rfl) (by decide) fun i hi => ?_
  rcases two3 hi with rfl | rfl | rfl
  · exact any_one _ (v := vrpS_7_0 z 4) tabok_rpS horpS_7_4 (trivial) (by
      refine Eq.trans (b := (match decide (0 ≤ (IntKind.i64.wrap ((yrpS_71 z) - 1) : Int) ∧ (IntKind.i64.wrap ((yrpS_71 z) - 1) : Int) < (((yrpS_76 z) : Nat) : Int)) with | true => some ((.ptr 0 (0 + (IntKind.i64.wrap ((yrpS_71 z) - 1)).toNat * 1)), [.at (yrpS_72 z) (.fl .f32 (yrpS_73 z)), .at (yrpS_74 z) (.fl .f32 (yrpS_75 z)), .at true (.as 1 [.sl 0 0 (yrpS_76 z), .sl 1 0 (yrpS_77 z)]), .at true (.as 1 [.nil, .nil]), .at true (.as 1 [.sl 5 0 (yrpS_78 z), .sl 6 0 (yrpS_79 z)]), .at true (.fl .f32 (yrpS_710 z)), .at true (.fl .f32 (yrpS_711 z))]) | false => none)) (by kernel_rfl) ?_
      rw [hc.1]
      try rfl) (by kernel_rfl) (by kernel_rfl) (anrpS_7_37 hc)
  · exact any_one _ (v := vrpS_7_0 z 9) tabok_rpS horpS_7_9 (trivial) (by
      refine Eq.trans (b := (match (yrpS_73 z)[0]? with | some e36 => some ((.fl .f32 e36), [.at (yrpS_72 z) (.fl .f32 (yrpS_73 z)), .at (yrpS_74 z) (.fl .f32 (yrpS_75 z)), .at true (.as 1 [.sl 0 0 (yrpS_76 z), .sl 1 0 (yrpS_77 z)]), .at true (.as 1 [.nil, .nil]), .at true (.as 1 [.sl 5 0 (yrpS_78 z), .sl 6 0 (yrpS_79 z)]), .at true (.fl .f32 (yrpS_710 z)), .at true (.fl .f32 (yrpS_711 z))]) | none => none)) (by kernel_rfl) ?_
      rw [someD (hc.2.2.2.1)]
      try rfl) (by kernel_rfl) (by kernel_rfl) (anrpS_7_45 hc)
  · exact any_one _ (v := .ptr 7 0) tabok_rpS horpS_7_15 (trivial) (by kernel_rfl) (by kernel_rfl) (by kernel_rfl) (anrpS_7_46 hc)
theorem anrpS_7_48 {z : zrpS_7} (hc : crpS_7_0 z) : arpS_7_0 z 11 32975 (qrpS_7_0 z 32975 [(8, .ptr 7 0)]) (HrpS_7_0 z [3]) := by
  refine any_next [4, 8] (by kernel_rfl) (by decide) fun i hi => ?_
  rcases two2 hi with rfl | rfl
  · exact any_one _ (v := vrpS_7_0 z 4) tabok_rpS horpS_7_4 (trivial) (by
      refine Eq.trans (b := (match decide (0 ≤ (IntKind.i64.wrap ((yrpS_71 z) - 1) : Int) ∧ (IntKind.i64.wrap ((yrpS_71 z) - 1) : Int) < (((yrpS_76 z) : Nat) : Int)) with | true => some ((.ptr 0 (0 + (IntKind.i64.wrap ((yrpS_71 z) - 1)).toNat * 1)), [.at (yrpS_72 z) (.fl .f32 (yrpS_73 z)), .at (yrpS_74 z) (.fl .f32 (yrpS_75 z)), .at true (.as 1 [.sl 0 0 (yrpS_76 z), .sl 1 0 (yrpS_77 z)]), .at true (.as 1 [.nil, .nil]), .at true (.as 1 [.sl 5 0 (yrpS_78 z), .sl 6 0 (yrpS_79 z)]), .at true (.fl .f32 (yrpS_710 z)), .at true (.fl .f32 (yrpS_711 z)), .at true (.as 1 [.nil, .nil])]) | false => none)) (by kernel_rfl) ?_
      rw [hc.1]
      try rfl) (by kernel_rfl) (by kernel_rfl) (anrpS_7_38 hc)
  · exact any_one _ (v := vrpS_7_0 z 8) tabok_rpS horpS_7_8 (trivial) (by
      refine Eq.trans (b := (match decide (0 ≤ (0 : Int) ∧ (0 : Int) < (((yrpS_76 z) : Nat) : Int)) with | true => some ((.ptr 0 0), [.at (yrpS_72 z) (.fl .f32 (yrpS_73 z)), .at (yrpS_74 z) (.fl .f32 (yrpS_75 z)), .at true (.as 1 [.sl 0 0 (yrpS_76 z), .sl 1 0 (yrpS_77 z)]), .at true (.as 1 [.nil, .nil]), .at true (.as 1 [.sl 5 0 (yrpS_78 z), .sl 6 0 (yrpS_79 z)]), .at true (.fl .f32 (yrpS_710 z)), .at true (.fl .f32 (yrpS_711 z)), .at true (.as 1 [.nil, .nil])]) | false => none)) (by kernel_rfl) ?_
      rw [hc.2.2.1]
      try rfl) (by kernel_rfl) (by kernel_rfl) (anrpS_7_46 hc)
theorem anrpS_7_49 {z : zrpS_7} (hc : crpS_7_0 z) : arpS_7_0 z 12 207 (qrpS_7_0 z 207 []) (HrpS_7_0 z []) := by
  refine any_next [4, 8, 15] (by kernel_rfl) (by decide) fun i hi => ?_
  rcases two3 hi with rfl | rfl | rfl
  · exact any_one _ (v := vrpS_7_0 z 4) tabok_rpS horpS_7_4 (trivial) (by
      refine Eq.trans (b := (match decide (0 ≤ (IntKind.i64.wrap ((yrpS_71 z) - 1) : Int) ∧ (IntKind.i64.wrap ((yrpS_71 z) - 1) : Int) < (((yrpS_76 z) : Nat) : Int)) with | true => some ((.ptr 0 (0 + (IntKind.i64.wrap ((yrpS_71 z) - 1)).toNat * 1)), [.at (yrpS_72 z) (.fl .f32 (yrpS_73 z)), .at (yrpS_74 z) (.fl .f32 (yrpS_75 z)), .at true (.as 1 [.sl 0 0 (yrpS_76 z), .sl 1 0 (yrpS_77 z)]), .at true (.as 1 [.nil, .nil]), .at true (.as 1 [.sl 5 0 (yrpS_78 z), .sl 6 0 (yrpS_79 z)]), .at true (.fl .f32 (yrpS_710 z)), .at true (.fl .f32 (yrpS_711 z))]) | false => none)) (by kernel_rfl) ?_
      rw [hc.1]
      try rfl) (by kernel_rfl) (by kernel_rfl) (anrpS_7_39 hc)
  · exact any_one _ (v := vrpS_7_0 z 8) tabok_rpS horpS_7_8 (trivial) (by
      refine Eq.trans (b := (match decide (0 ≤ (0 : Int) ∧ (0 : Int) < (((yrpS_76 z) : Nat) : Int)) with | true => some ((.ptr 0 0), [.at (yrpS_72 z) (.fl .f32 (yrpS_73 z)), .at (yrpS_74 z) (.fl .f32 (yrpS_75 z)), .at true (.as 1 [.sl 0 0 (yrpS_76 z), .sl 1 0 (yrpS_77 z)]), .at true (.as 1 [.nil, .nil]), .at true (.as 1 [.sl 5 0 (yrpS_78 z), .sl 6 0 (yrpS_79 z)]), .at true (.fl .f32 (yrpS_710 z)), .at true (.fl .f32 (yrpS_711 z))]) | false => none)) (by kernel_rfl) ?_
      rw [hc.2.2.1]
      try rfl) (by kernel_rfl) (by kernel_rfl) (anrpS_7_47 hc)
  · exact any_one _ (v := .ptr 7 0) tabok_rpS horpS_7_15 (trivial) (by kernel_rfl) (by kernel_rfl) (by kernel_rfl) (anrpS_7_48 hc)
theorem anrpS_7_50 {z : zrpS_7} (hc : crpS_7_0 z) : arpS_7_0 z 12 32847 (qrpS_7_0 z 32847 [(8, .ptr 7 0)]) (HrpS_7_0 z [3]) := by
  refine any_next [4, 7] (by kernel_rfl) (by decide) fun i hi => ?_
  rcases two2 hi with rfl | rfl
  · exact any_one _ (v := vrpS_7_0 z 4) tabok_rpS horpS_7_4 (trivial) (by
      refine Eq.trans (b := (match decide (0 ≤ (IntKind.i64.wrap ((yrpS_71 z) - 1) : Int) ∧ (IntKind.i64.wrap ((yrpS_71 z) - 1) : Int) < (((yrpS_76 z) : Nat) : Int)) with | true => some ((.ptr 0 (0 + (IntKind.i64.wrap ((yrpS_71 z) - 1)).toNat * 1)), [.at (yrpS_72 z) (.fl .f32 (yrpS_73 z)), .at (yrpS_74 z) (.fl .f32 (yrpS_75 z)), .at true (.as 1 [.sl 0 0 (yrpS_76 z), .sl 1 0 (yrpS_77 z)]), .at true (.as 1 [.nil, .nil]), .at true (.as 1 [.sl 5 0 (yrpS_78 z), .sl 6 0 (yrpS_79 z)]), .at true (.fl .f32 (yrpS_710 z)), .at true (.fl .f32 (yrpS_711 z)), .at true (.as 1 [.nil, .nil])]) | false => none)) (by kernel_rfl) ?_
      rw [hc.1]
      try rfl) (by kernel_rfl) (by kernel_rfl) (anrpS_7_40 hc)
  · exact any_one _ (v := vrpS_7_0 z 7) tabok_rpS horpS_7_7 (trivial) (by kernel_rfl) (by kernel_rfl) (by kernel_rfl) (anrpS_7_48 hc)
theorem anrpS_7_51 {z : zrpS_7} (hc : crpS_7_0 z) : arpS_7_0 z 13 79 (qrpS_7_0 z 79 []) (HrpS_7_0 z []) := by
  refine any_next [4, 7, 15] (by kernel_rfl) (by decide) fun i hi => ?_
  rcases two3 hi with rfl | rfl | rfl
  · exact any_one _ (v := vrpS_7_0 z 4) tabok_rpS horpS_7_4 (trivial) (by
      refine Eq.trans (b := (match decide (0 ≤ (IntKind.i64.wrap ((yrpS_71 z) - 1) : Int) ∧ (IntKind.i64.wrap ((yrpS_71 z) - 1) : Int) < (((yrpS_76 z) : Nat) : Int)) with | true => some ((.ptr 0 (0 + (IntKind.i64.wrap ((yrpS_71 z) - 1)).toNat * 1)), [.at (yrpS_72 z) (.fl .f32 (yrpS_73 z)), .at (yrpS_74 z) (.fl .f32 (yrpS_75 z)), .at true (.as 1 [.sl 0 0 (yrpS_76 z), .sl 1 0 (yrpS_77 z)]), .at true (.as 1 [.nil, .nil]), .at true (.as 1 [.sl 5 0 (yrpS_78 z), .sl 6 0 (yrpS_79 z)]), .at true (.fl .f32 (yrpS_710 z)), .at true (.fl .f32 (yrpS_711 z))]) | false => none)) (by kernel_rfl) ?_
      rw [hc.1]
      try rfl) (by kernel_rfl) (by kernel_rfl) (anrpS_7_41 hc)
  · exact any_one _ (v := vrpS_7_0 z 7) tabok_rpS horpS_7_7 (trivial) (by kernel_rfl) (by kernel_rfl) (by kernel_rfl) (anrpS_7_49 hc)
  · exact any_one _ (v := .ptr 7 0) tabok_rpS horpS_7_15 (trivial) (by kernel_rfl) (by kernel_rfl) (by kernel_rfl) (anrpS_7_50 hc)
theorem anrpS_7_52 {z : zrpS_7} (hc : crpS_7_0 z) : arpS_7_0 z 13 32783 (qrpS_7_0 z 32783 [(8, .ptr 7 0)]) (HrpS_7_0 z [3]) := by
  refine any_next [4, 6] (by kernel_rfl) (by decide) fun i hi => ?_
  rcases two2 hi with rfl | rfl
  · exact any_one _ (v := vrpS_7_0 z 4) tabok_rpS horpS_7_4 (trivial) (by
      refine Eq.trans (b := (match decide (0 ≤ (IntKind.i64.wrap ((yrpS_71 z) - 1) : Int) ∧ (IntKind.i64.wrap ((yrpS_71 z) - 1) : Int) < (((yrpS_76 z) : Nat) : Int)) with | true => some ((.ptr 0 (0 + (IntKind.i64.wrap ((yrpS_71 z) - 1)).toNat * 1)), [.at (yrpS_72 z) (.fl .f32 (yrpS_73 z)), .at (yrpS_74 z) (.fl .f32 (yrpS_75 z)), .at true (.as 1 [.sl 0 0 (yrpS_76 z), .sl 1 0 (yrpS_77 z)]), .at true (.as 1 [.nil, .nil]), .at true (.as 1 [.sl 5 0 (yrpS_78 z), .sl 6 0 (yrpS_79 z)]), .at true (.fl .f32 (yrpS_710 z)), .at true (.fl .f32 (yrpS_711 z)), .at true (.as 1 [.nil, .nil])]) | false => none)) (by kernel_rfl) ?_
      rw [hc.1]
      try rfl) (by kernel_rfl) (by kernel_rfl) (anrpS_7_42 hc)
  · exact any_one _ (v := vrpS_7_0 z 6) tabok_rpS horpS_7_6 (trivial) (by kernel_rfl) (by kernel_rfl) (by kernel_rfl) (anrpS_7_50 hc)
theorem anrpS_7_53 {z : zrpS_7} (hc : crpS_7_0 z) : arpS_7_0 z 14 15 (qrpS_7_0 z 15 []) (HrpS_7_0 z []) := by
  refine any_next [4, 6, 15] (by kernel_rfl) (by decide) fun i hi => ?_
  rcases two3 hi with rfl | rfl | rfl
  · exact any_one _ (v := vrpS_7_0 z 4) tabok_rpS horpS_7_4 (trivial) (by
      refine Eq.trans (b := (match decide (0 ≤ (IntKind.i64.wrap ((yrpS_71 z) - 1) : Int) ∧ (IntKind.i64.wrap ((yrpS_71 z) - 1) : Int) < (((yrpS_76 z) : Nat) : Int)) with | true => some ((.ptr 0 (0 + (IntKind.i64.wrap ((yrpS_71 z) - 1)).toNat * 1)), [.at (yrpS_72 z) (.fl .f32 (yrpS_73 z)), .at (yrpS_74 z) (.fl .f32 (yrpS_75 z)), .at true (.as 1 [.sl 0 0 (yrpS_76 z), .sl 1 0 (yrpS_77 z)]), .at true (.as 1 [.nil, .nil]), .at true (.as 1 [.sl 5 0 (yrpS_78 z), .sl 6 0 (yrpS_79 z)]), .at true (.fl .f32 (yrpS_710 z)), .at true (.fl .f32 (yrpS_711 z))]) | false => none)) (by kernel_rfl) ?_
      rw [hc.1]
      try rfl) (by kernel_rfl) (by kernel_rfl) (anrpS_7_43 hc)
  · exact any_one _ (v := vrpS_7_0 z 6) tabok_rpS horpS_7_6 (trivial) (by kernel_rfl) (by kernel_rfl) (by kernel_rfl) (anrpS_7_51 hc)
  · exact any_one _ (v := .ptr 7 0) tabok_rpS horpS_7_15 (trivial) (by kernel_rfl) (by kernel_rfl) (by kernel_rfl) (anrpS_7_52 hc)
theorem anrpS_7_54 {z : zrpS_7} (hc : crpS_7_0 z) : arpS_7_0 z 10 33735 (qrpS_7_0 z 33735 [(8, .ptr 7 0)]) (HrpS_7_0 z [3]) := by
  refine any_next [3] (by kernel_rfl) (by decide) fun i hi => ?_
  obtain rfl := two1 hi
  · exact any_one _ (v := vrpS_7_0 z 3) tabok_rpS horpS_7_3 (trivial) (by kernel_rfl) (by kernel_rfl) (by kernel_rfl) (anrpS_7_44 hc)
theorem anrpS_7_55 {z : zrpS_7} (hc : crpS_7_0 z) : arpS_7_0 z 11 967 (qrpS_7_0 z 967 []) (HrpS_7_0 z []) := by
  refine any_next [3, 15] (by kernel_rfl) (by decide) fun i hi => ?_
  rcases two2 hi with rfl | rfl
  · exact any_one _ (v := vrpS_7_0 z 3) tabok_rpS horpS_7_3 (trivial) (by kernel_rfl) (by kernel_rfl) (by kernel_rfl) (anrpS_7_45 hc)
  · exact any_one _ (v := .ptr 7 0) tabok_rpS horpS_7_15 (trivial) (by kernel_rfl) (by kernel_rfl) (by kernel_rfl) (anrpS_7_54 hc)
theorem anrpS_7_56 {z : zrpS_7} (hc : crpS_7_0 z) : arpS_7_0 z 11 33223 (qrpS_7_0 z 33223 [(8, .ptr 7 0)]) (HrpS_7_0 z [3]) := by
  refine any_next [3, 9] (by kernel_rfl) (by decide) fun i hi => ?_
  rcases two2 hi with rfl | rfl
  · exact any_one _ (v := vrpS_7_0 z 3) tabok_rpS horpS_7_3 (trivial) (by kernel_rfl) (by kernel_rfl) (by kernel_rfl) (anrpS_7_46 hc)
  · exact any_one _ (v := vrpS_7_0 z 9) tabok_rpS horpS_7_9 (trivial) (by
      refine Eq.trans (b := (match (yrpS_73 z)[0]? with | some e42 => some ((.fl .f32 e42), [.at (yrpS_72 z) (.fl .f32 (yrpS_73 z)), .at (yrpS_74 z) (.fl .f32 (yrpS_75 z)), .at true (.as 1 [.sl 0 0 (yrpS_76 z), .sl 1 0 (yrpS_77 z)]), .at true (.as 1 [.nil, .nil]), .at true (.as 1 [.sl 5 0 (yrpS_78 z), .sl 6 0 (yrpS_79 z)]), .at true (.fl .f32 (yrpS_710 z)), .at true (.fl .f32 (yrpS_711 z)), .at true (.as 1 [.nil, .nil])]) | none => none)) (by kernel_rfl) ?_
      rw [someD (hc.2.2.2.1)]
      try rfl) (by kernel_rfl) (by kernel_rfl) (anrpS_7_54 hc)
theorem anrpS_7_57 {z : zrpS_7} (hc : crpS_7_0 z) : arpS_7_0 z 12 455 (qrpS_7_0 z 455 []) (HrpS_7_0 z []) := by
  refine any_next [3, 9, 15] (by kernel_rfl) (by decide) fun i hi => ?_
  rcases two3 hi with rfl | rfl | rfl
  · exact any_one _ (v := vrpS_7_0 z 3) tabok_rpS horpS_7_3 (trivial) (by kernel_rfl) (by kernel_rfl) (by kernel_rfl) (anrpS_7_47 hc)
  · exact any_one _ (v := vrpS_7_0 z 9) tabok_rpS horpS_7_9 (trivial) (by
      refine Eq.trans (b := (match (yrpS_73 z)[0]? with | some e40 => some ((.fl .f32 e40), [.at (yrpS_72 z) (.fl .f32 (yrpS_73 z)), .at (yrpS_74 z) (.fl .f32 (yrpS_75 z)), .at true (.as 1 [.sl 0 0 (yrpS_76 z), .sl 1 0 (yrpS_77 z)]), .at true (.as 1 [.nil, .nil]), .at true (.as 1 [.sl 5 0 (yrpS_78 z), .sl 6 0 (yrpS_79 z)]), .at true (.fl .f32 (yrpS_710 z)), .at true (.fl .f32 (yrpS_711 z))]) | none => none)) (by kernel_rfl) ?_
      rw [someD (hc.2.2.2.1)]
      try rfl) (by kernel_rfl) (by kernel_rfl) (anrpS_7_55 hc)
  · exact any_one _ (v := .ptr 7 0) tabok_rpS horpS_7_15 (trivial) (by kernel_rfl) (by kernel_rfl) (by kernel_rfl) (anrpS_7_56 hc)
theorem anrpS_7_58 {z : zrpS_7} (hc : crpS_7_0 z) : arpS_7_0 z 12 32967 (qrpS_7_0 z 32967 [(8, .ptr 7 0)]) (HrpS_7_0 z [3]) := by
  refine any_next [3, 8] (by kernel_rfl) (by decide) fun i hi => ?_
  rcases two2 hi with rfl | rfl
  · exact any_one _ (v := vrpS_7_0 z 3) tabok_rpS horpS_7_3 (trivial) (by kernel_rfl) (by kernel_rfl) (by kernel_rfl) (anrpS_7_48 hc)
  · exact any_one _ (v := vrpS_7_0 z 8) tabok_rpS horpS_7_8 (trivial) (by
      refine Eq.trans (b := (match decide (0 ≤ (0 : Int) ∧ (0 : Int) < (((yrpS_76 z) : Nat) : Int)) with | true => some ((.ptr 0 0), [.at (yrpS_72 z) (.fl .f32 (yrpS_73 z)), .at (yrpS_74 z) (.fl .f32 (yrpS_75 z)), .at true (.as 1 [.sl 0 0 (yrpS_76 z), .sl 1 0 (yrpS_77 z)]), .at true (.as 1 [.nil, .nil]), .at true (.as 1 [.sl 5 0 (yrpS_78 z), .sl 6 0 (yrpS_79 z)]), .at true (.fl .f32 (yrpS_710 z)), .at true (.fl .f32 (yrpS_711 z)), .at true (.as 1 [.nil, .nil])]) | false => none)) (by kernel_rfl) ?_
      rw [hc.2.2.1]
      try rfl) (by kernel_rfl) (by kernel_rfl) (anrpS_7_56 hc)
theorem anrpS_7_59 {z : zrpS_7} (hc : crpS_7_0 z) : arpS_7_0 z 13 199 (qrpS_7_0 z 199 []) (HrpS_7_0 z []) := by
  refine any_next [3, 8, 15] (by kernel_rfl) (by decide) fun i hi => ?_
  rcases two3 hi with rfl | rfl | rfl
  · exact any_one _ (v := vrpS_7_0 z 3) tabok_rpS horpS_7_3 (trivial) (by kernel_rfl) (by kernel_rfl) (by kernel_rfl) (anrpS_7_49 hc)
  · exact any_one _ (v := vrpS_7_0 z 8) tabok_rpS horpS_7_8 (trivial) (by
      refine Eq.trans (b := (match decide (0 ≤ (0 : Int) ∧ (0 : Int) < (((yrpS_76 z) : Nat) : Int)) with | true => some ((.ptr 0 0), [.at (yrpS_72 z) (.fl .f32 (yrpS_73 z)), .at (yrpS_74 z) (.fl .f32 (yrpS_75 z)), .at true (.as 1 [.sl 0 0 (yrpS_76 z), .sl 1 0 (yrpS_77 z)]), .at true (.as 1 [.nil, .nil]), .at true (.as 1 [.sl 5 0 (yrpS_78 z), .sl 6 0 (yrpS_79 z)]), .at true (.fl .f32 (yrpS_710 z)), .at true (.fl .f32 (yrpS_711 z))]) | false => none)) (by kernel_rfl) ?_
      rw [hc.2.2.1]
      try rfl) (by kernel_rfl) (by kernel_rfl) (anrpS_7_57 hc)
  · exact any_one _ (v := .ptr 7 0) tabok_rpS horpS_7_15 (trivial) (by kernel_rfl) (by kernel_rfl) (by kernel_rfl) (anrpS_7_58 hc)
theorem anrpS_7_60 {z : zrpS_7} (hc : crpS_7_0 z) : arpS_7_0 z 13 32839 (qrpS_7_0 z 32839 [(8, .ptr 7 0)]) (HrpS_7_0 z [3]) := by
  refine any_next [3, 7] (by kernel_rfl) (by decide) fun i hi => ?_
  rcases two2 hi with rfl | rfl
  · exact any_one _ (v := vrpS_7_0 z 3) tabok_rpS horpS_7_3 (trivial) (by kernel_rfl) (by kernel_rfl) (by kernel_rfl) (anrpS_7_50 hc)
  · exact any_one _ (v := vrpS_7_0 z 7) tabok_rpS horpS_7_7 (trivial) (by kernel_rfl) (by kernel_rfl) (by kernel_rfl) (anrpS_7_58 hc)
theorem anrpS_7_61 {z : zrpS_7} (hc : crpS_7_0 z) : arpS_7_0 z 14 71 (qrpS_7_0 z 71 []) (HrpS_7_0 z []) := by
  refine any_next [3, 7, 15] (by kernel_rfl) (by decide) fun i hi => ?_
  rcases two3 hi with rfl | rfl | rfl
  · exact any_one _ (v := vrpS_7_0 z 3) tabok_rpS horpS_7_3 (trivial) (by kernel_rfl) (by kernel_rfl) (by kernel_rfl) (anrpS_7_51 hc)
  · exact any_one _ (v := vrpS_7_0 z 7) tabok_rpS horpS_7_7 (trivial) (by kernel_rfl) (by kernel_rfl) (by kernel_rfl) (anrpS_7_59 hc)
  · exact any_one _ (v := .ptr 7 0) tabok_rpS horpS_7_15 (trivial) (by kernel_rfl) (by kernel_rfl) (by kernel_rfl) (anrpS_7_60 hc)
theorem anrpS_7_62 {z : zrpS_7} (hc : crpS_7_0 z) : arpS_7_0 z 14 32775 (qrpS_7_0 z 32775 [(8, .ptr 7 0)]) (HrpS_7_0 z [3]) := by
  refine any_next [3, 6] (by kernel_rfl) (by decide) fun i hi => ?_
  rcases two2 hi with rfl | rfl
  · exact any_one _ (v := vrpS_7_0 z 3) tabok_rpS horpS_7_3 (trivial) (by kernel_rfl) (by kernel_rfl) (by kernel_rfl) (anrpS_7_52 hc)
  · exact any_one _ (v := vrpS_7_0 z 6) tabok_rpS horpS_7_6 (trivial) (by kernel_rfl) (by kernel_rfl) (by kernel_rfl) (anrpS_7_60 hc)
theorem anrpS_7_63 {z : zrpS_7} (hc : crpS_7_0 z) : arpS_7_0 z 15 7 (qrpS_7_0 z 7 []) (HrpS_7_0 z []) := by
  refine any_next [3, 6, 15] (by kernel_rfl) (by decide) fun i hi => ?_
  rcases two3 hi with rfl | rfl | rfl
  · exact any_one _ (v := vrpS_7_0 z 3) tabok_rpS horpS_7_3 (trivial) (by kernel_rfl) (by kernel_rfl) (by kernel_rfl) (anrpS_7_53 hc)
  · exact any_one _ (v := vrpS_7_0 z 6) tabok_rpS horpS_7_6 (trivial) (by kernel_rfl) (by kernel_rfl) (by kernel_rfl) (anrpS_7_61 hc)
  · exact any_one _ (v := .ptr 7 0) tabok_rpS horpS_7_15 (trivial) (by kernel_rfl) (by kernel_rfl) (by kernel_rfl) (anrpS_7_62 hc)
theorem anrpS_7_64 {z : zrpS_7} (hc : crpS_7_0 z) : arpS_7_0 z 11 33731 (qrpS_7_0 z 33731 [(8, .ptr 7 0)]) (HrpS_7_0 z [3]) := by
  refine any_next [2] (by kernel_rfl) (by decide) fun i hi => ?_
  obtain rfl := two1 hi
  · exact any_one _ (v := vrpS_7_0 z 2) tabok_rpS horpS_7_2 (trivial) (by kernel_rfl) (by kernel_rfl) (by kernel_rfl) (anrpS_7_54 hc)
theorem anrpS_7_65 {z : zrpS_7} (hc : crpS_7_0 z) : arpS_7_0 z 12 963 (qrpS_7_0 z 963 []) (HrpS_7_0 z []) := by
  refine any_next [2, 15] (by kernel_rfl) (by decide) fun i hi => ?_
  rcases two2 hi with rfl | rfl
  · exact any_one _ (v := vrpS_7_0 z 2) tabok_rpS horpS_7_2 (trivial) (by kernel_rfl) (by kernel_rfl) (by kernel_rfl) (anrpS_7_55 hc)
  · exact any_one _ (v := .ptr 7 0) tabok_rpS horpS_7_15 (trivial) (by kernel_rfl) (by kernel_rfl) (by kernel_rfl) (anrpS_7_64 hc)
theorem anrpS_7_66 {z : zrpS_7} (hc : crpS_7_0 z) : arpS_7_0 z 12 33219 (qrpS_7_0 z 33219 [(8, .ptr 7 0)]) (HrpS_7_0 z [3]) := by
  refine any_next [2, 9] (by kernel_rfl) (by decide) fun i hi => ?_
  rcases two2 hi with rfl | rfl
  · exact any_one _ (v := vrpS_7_0 z 2) tabok_rpS horpS_7_2 (trivial) (by kernel_rfl) (by kernel_rfl) (by kernel_rfl) (anrpS_7_56 hc)
  · exact any_one _ (v := vrpS_7_0 z 9) tabok_rpS horpS_7_9 (trivial) (by
      refine Eq.trans (b := (match (yrpS_73 z)[0]? with | some e46 => some ((.fl .f32 e46), [.at (yrpS_72 z) (.fl .f32 (yrpS_73 z)), .at (yrpS_74 z) (.fl .f32 (yrpS_75 z)), .at true (.as 1 [.sl 0 0 (yrpS_76 z), .sl 1 0 (yrpS_77 z)]), .at true (.as 1 [.nil, .nil]), .at true (.as 1 [.sl 5 0 (yrpS_78 z), .sl 6 0 (yrpS_79 z)]), .at true (.fl .f32 (yrpS_710 z)), .at true (.fl .f32 (yrpS_711 z)), .at true (.as 1 [.nil, .nil])]) | none => none)) (by kernel_rfl) ?_
      rw [someD (hc.2.2.2.1)]
      try rfl) (by kernel_rfl) (by kernel_rfl) (anrpS_7_64 hc)
theorem anrpS_7_67 {z : zrpS_7} (hc : crpS_7_0 z) : arpS_7_0 z 13 451 (qrpS_7_0 z 451 []) (HrpS_7_0 z []) := by
  refine any_next [2, 9, 15] (by kernel_rfl) (by decide) fun i hi => ?_
  rcases two3 hi with rfl | rfl | rfl
  · exact any_one _ (v := vrpS_7_0 z 2) tabok_rpS horpS_7_2 (trivial) (by kernel_rfl) (by kernel_rfl) (by kernel_rfl) (anrpS_7_57 hc)
  · exact any_one _ (v := vrpS_7_0 z 9) tabok_rpS horpS_7_9 (trivial) (by
      refine Eq.trans (b := (match (yrpS_73 z)[0]? with | some e44 => some ((.fl .f32 e44), [.at (yrpS_72 z) (.fl .f32 (yrpS_73 z)), .at (yrpS_74 z) (.fl .f32 (yrpS_75 z)), .at true (.as 1 [.sl 0 0 (yrpS_76 z), .sl 1 0 (yrpS_77 z)]), .at true (.as 1 [.nil, .nil]), .at true (.as 1 [.sl 5 0 (yrpS_78 z), .sl 6 0 (yrpS_79 z)]), .at true (.fl .f32 (yrpS_710 z)), .at true (.fl .f32 (yrpS_711 z))]) | none => none)) (by kernel_rfl) ?_
      rw [someD (hc.2.2.2.1)]
      try rfl) (by kernel_rfl) (by kernel_rfl) (anrpS_7_65 hc)
  · exact any_one _ (v := .ptr 7 0) tabok_rpS horpS_7_15 (trivial) (by kernel_rfl) (by kernel_rfl) (by kernel_rfl) (anrpS_7_66 hc)
theorem anrpS_7_68 {z : zrpS_7} (hc : crpS_7_0 z) : arpS_7_0 z 13 32963 (qrpS_7_0 z 32963 [(8, .ptr 7 0)]) (HrpS_7_0 z [3]) := by
  refine any_next [2, 8] (by kernel_rfl) (by decide) fun i hi => ?_
  rcases two2 hi with rfl | rfl
  · exact any_one _ (v := vrpS_7_0 z 2) tabok_rpS horpS_7_2 (trivial) (by kernel_rfl) (by kernel_rfl) (by kernel_rfl) (anrpS_7_58 hc)
  · exact any_one _ (v := vrpS_7_0 z 8) tabok_rpS horpS_7_8 (trivial) (by
      refine Eq.trans (b := (match decide (0 ≤ (0 : Int) ∧ (0 : Int) < (((yrpS_76 z) : Nat) : Int)) with | true => some ((.ptr 0 0), [.at (yrpS_72 z) (.fl .f32 (yrpS_73 z)), .at (yrpS_74 z) (.fl .f32 (yrpS_75 z)), .at true (.as 1 [.sl 0 0 (yrpS_76 z), .sl 1 0 (yrpS_77 z)]), .at true (.as 1 [.nil, .nil]), .at true (.as 1 [.sl 5 0 (yrpS_78 z), .sl 6 0 (yrpS_79 z)]), .at true (.fl .f32 (yrpS_710 z)), .at true (.fl .f32 (yrpS_711 z)), .at true (.as 1 [.nil, .nil])]) | false => none)) (by kernel_rfl) ?_
      rw [hc.2.2.1]
      try rfl) (by kernel_rfl) (by kernel_rfl) (anrpS_7_66 hc)
theorem anrpS_7_69 {z : zrpS_7} (hc : crpS_7_0 z) : arpS_7_0 z 14 195 (qrpS_7_0 z 195 []) (HrpS_7_0 z []) := by
  refine any_next [2, 8, 15] (by kernel_rfl) (by decide) fun i hi => ?_
  rcases two3 hi with rfl | rfl | rfl
  · exact any_one _ (v := vrpS_7_0 z 2) tabok_rpS horpS_7_2 (trivial) (by kernel_rfl) (by kernel_rfl) (by kernel_rfl) (anrpS_7_59 hc)
  · exact any_one _ (v := vrpS_7_0 z 8) tabok_rpS horpS_7_8 (trivial) (by
      refine Eq.trans (b := (match decide (0 ≤ (0 : Int) ∧ (0 : Int) < (((yrpS_76 z) : Nat) : Int)) with | true => some ((.ptr 0 0), [.at (yrpS_72 z) (.fl .f32 (yrpS_73 z)), .at (yrpS_74 z) (.fl .f32 (yrpS_75 z)), .at true (.as 1 [.sl 0 0 (yrpS_76 z), .sl 1 0 (yrpS_77 z)]), .at true (.as 1 [.nil, .nil]), .at true (.as 1 [.sl 5 0 (yrpS_78 z), .sl 6 0 (yrpS_79 z)]), .at true (.fl .f32 (yrpS_710 z)), .at true (.fl .f32 (yrpS_711 z))]) | false => none)) (by kernel_rfl) ?_
      rw [hc.2.2.1]
      try rfl) (by kernel_rfl) (by kernel_rfl) (anrpS_7_67 hc)
  · exact any_one _ (v := .ptr 7 0) tabok_rpS horpS_7_15 (trivial) (by kernel_rfl) (by kernel_rfl) (by kernel_rfl) (anrpS_7_68 hc)
theorem anrpS_7_70 {z : zrpS_7} (hc : crpS_7_0 z) : arpS_7_0 z 14 32835 (qrpS_7_0 z 32835 [(8, .ptr 7 0)]) (HrpS_7_0 z [3]) := by
  refine any_next [2, 7] (by kernel_rfl) (by decide) fun i hi => ?_
  rcases two2 hi with rfl | rfl
  · exact any_one _ (v := vrpS_7_0 z 2) tabok_rpS horpS_7_2 (trivial) (by kernel_rfl) (by kernel_rfl) (by kernel_rfl) (anrpS_7_60 hc)
  · exact any_one _ (v := vrpS_7_0 z 7) tabok_rpS horpS_7_7 (trivial) (by kernel_rfl) (by kernel_rfl) (by kernel_rfl) (anrpS_7_68 hc)
theorem anrpS_7_71 {z : zrpS_7} (hc : crpS_7_0 z) : arpS_7_0 z 15 67 (qrpS_7_0 z 67 []) (HrpS_7_0 z []) := by
  refine any_next [2, 7, 15] (by kernel_rfl) (by decide) fun i hi => ?_
  rcases two3 hi with rfl | rfl | rfl
  · exact any_one _ (v := vrpS_7_0 z 2) tabok_rpS horpS_7_2 (trivial) (by kernel_rfl) (by kernel_rfl) (by kernel_rfl) (anrpS_7_61 hc)
  · exact any_one _ (v := vrpS_7_0 z 7) tabok_rpS horpS_7_7 (trivial) (by kernel_rfl) (by kernel_rfl) (by kernel_rfl) (anrpS_7_69 hc)
  · exact any_one _ (v := .ptr 7 0) tabok_rpS horpS_7_15 (trivial) (by kernel_rfl) (by kernel_rfl) (by kernel_rfl) (anrpS_7_70 hc)
theorem anrpS_7_72 {z : zrpS_7} (hc : crpS_7_0 z) : arpS_7_0 z 15 32771 (qrpS_7_0 z 32771 [(8, .ptr 7 0)]) (HrpS_7_0 z [3]) := by
  refine any_next [2, 6] (by kernel_rfl) (by decide) fun i hi => ?_
  rcases two2 hi with rfl | rfl
  · exact any_one _ (v := vrpS_7_0 z 2) tabok_rpS horpS_7_2 (trivial) (by kernel_rfl) (by kernel_rfl) (by kernel_rfl) (anrpS_7_62 hc)
  · exact any_one _ (v := vrpS_7_0 z 6) tabok_rpS horpS_7_6 (trivial) (by kernel_rfl) (by kernel_rfl) (by kernel_rfl) (anrpS_7_70 hc)
theorem anrpS_7_73 {z : zrpS_7} (hc : crpS_7_0 z) : arpS_7_0 z 16 3 (qrpS_7_0 z 3 []) (HrpS_7_0 z []) := by
  refine any_next [2, 6, 15] (by kernel_rfl) (by decide) fun i hi => ?_
  rcases two3 hi with rfl | rfl | rfl
  · exact any_one _ (v := vrpS_7_0 z 2) tabok_rpS horpS_7_2 (trivial) (by kernel_rfl) (by kernel_rfl) (by kernel_rfl) (anrpS_7_63 hc)
  · exact any_one _ (v := vrpS_7_0 z 6) tabok_rpS horpS_7_6 (trivial) (by kernel_rfl) (by kernel_rfl) (by kernel_rfl) (anrpS_7_71 hc)
  · exact any_one _ (v := .ptr 7 0) tabok_rpS horpS_7_15 (trivial) (by kernel_rfl) (by kernel_rfl) (by kernel_rfl) (anrpS_7_72 hc)
theorem anrpS_7_74 {z : zrpS_7} (hc : crpS_7_0 z) : arpS_7_0 z 10 33741 (qrpS_7_0 z 33741 [(8, .ptr 7 0)]) (HrpS_7_0 z [3]) := by
  refine any_next [1] (by kernel_rfl) (by decide) fun i hi => ?_
  obtain rfl := two1 hi
  · exact any_one _ (v := vrpS_7_0 z 1) tabok_rpS horpS_7_1 (trivial) (by kernel_rfl) (by kernel_rfl) (by kernel_rfl) (anrpS_7_44 hc)
theorem anrpS_7_75 {z : zrpS_7} (hc : crpS_7_0 z) : arpS_7_0 z 11 973 (qrpS_7_0 z 973 []) (HrpS_7_0 z []) := by
  refine any_next [1, 15] (by kernel_rfl) (by decide) fun i hi => ?_
  rcases two2 hi with rfl | rfl
  · exact any_one _ (v := vrpS_7_0 z 1) tabok_rpS horpS_7_1 (trivial) (by kernel_rfl) (by kernel_rfl) (by kernel_rfl) (anrpS_7_45 hc)
  · exact any_one _ (v := .ptr 7 0) tabok_rpS horpS_7_15 (trivial) (by kernel_rfl) (by kernel_rfl) (by kernel_rfl) (anrpS_7_74 hc)
theorem anrpS_7_76 {z : zrpS_7} (hc : crpS_7_0 z) : arpS_7_0 z 11 33229 (qrpS_7_0 z 33229 [(8, .ptr 7 0)]) (HrpS_7_0 z [3]) := by
  refine any_next [1, 9] (by kernel_rfl) (by decide) fun i hi => ?_
  rcases two2 hi with rfl | rfl
  · exact any_one _ (v := vrpS_7_0 z 1) tabok_rpS horpS_7_1 (trivial) (by kernel_rfl) (by kernel_rfl) (by kernel_rfl) (anrpS_7_46 hc)
  · exact any_one _ (v := vrpS_7_0 z 9) tabok_rpS horpS_7_9 (trivial) (by
      refine Eq.trans (b := (match (yrpS_73 z)[0]? with | some e50 => some ((.fl .f32 e50), [.at (yrpS_72 z) (.fl .f32 (yrpS_73 z)), .at (yrpS_74 z) (.fl .f32 (yrpS_75 z)), .at true (.as 1 [.sl 0 0 (yrpS_76 z), .sl 1 0 (yrpS_77 z)]), .at true (.as 1 [.nil, .nil]), .at true (.as 1 [.sl 5 0 (yrpS_78 z), .sl 6 0 (yrpS_79 z)]), .at true (.fl .f32 (yrpS_710 z)), .at true (.fl .f32 (yrpS_711 z)), .at true (.as 1 [.nil, .nil])]) | none => none)) (by kernel_rfl) ?_
      rw [someD (hc.2.2.2.1)]
      try rfl) (by kernel_rfl) (by kernel_rfl) (anrpS_7_74 hc)
theorem anrpS_7_77 {z : zrpS_7} (hc : crpS_7_0 z) : arpS_7_0 z 12 461 (qrpS_7_0 z 461 []) (HrpS_7_0 z []) := by
  refine any_next [1, 9, 15] (by kernel_rfl) (by decide) fun i hi => ?_
  rcases two3 hi with rfl | rfl | rfl
  · exact any_one _ (v := vrpS_7_0 z 1) tabok_rpS horpS_7_1 (trivial) (by kernel_rfl) (by kernel_rfl) (by kernel_rfl) (anrpS_7_47 hc)
  · exact any_one _ (v := vrpS_7_0 z 9) tabok_rpS horpS_7_9 (trivial) (by
      refine Eq.trans (b := (match (yrpS_73 z)[0]? with | some e48 => some ((.fl .f32 e48), [.at (yrpS_72 z) (.fl .f32 (yrpS_73 z)), .at (yrpS_74 z) (.fl .f32 (yrpS_75 z)), .at true (.as 1 [.sl 0 0 (yrpS_76 z), .sl 1 0 (yrpS_77 z)]), .at true (.as 1 [.nil, .nil]), .at true (.as 1 [.sl 5 0 (yrpS_78 z), .sl 6 0 (yrpS_79 z)]), .at true (.fl .f32 (yrpS_710 z)), .at true (.fl .f32 (yrpS_711 z))]) | none => none)) (by kernel_rfl) ?_
      rw [someD (hc.2.2.2.1)]
      try rfl) (by kernel_rfl) (by kernel_rfl) (anrpS_7_75 hc)
  · exact any_one _ (v := .ptr 7 0) tabok_rpS horpS_7_15 (trivial) (by kernel_rfl) (by kernel_rfl) (by kernel_rfl) (anrpS_7_76 hc)
theorem anrpS_7_78 {z : zrpS_7} (hc : crpS_7_0 z) : arpS_7_0 z 12 32973 (qrpS_7_0 z 32973 [(8, .ptr 7 0)]) (HrpS_7_0 z [3]) := by
  refine any_next [1, 8] (by kernel_rfl) (by decide) fun i hi => ?_
  rcases two2 hi with rfl | rfl
  · exact any_one _ (v := vrpS_7_0 z 1) tabok_rpS horpS_7_1 (trivial) (by kernel_rfl) (by kernel_rfl) (by kernel_rfl) (anrpS_7_48 hc)
  · exact any_one _ (v := vrpS_7_0 z 8) tabok_rpS horpS_7_8 (trivial) (by
      refine Eq.trans (b := (match decide (0 ≤ (0 : Int) ∧ (0 : Int) < (((yrpS_76 z) : Nat) : Int)) with | true => some ((.ptr 0 0), [.at (yrpS_72 z) (.fl .f32 (yrpS_73 z)), .at (yrpS_74 z) (.fl .f32 (yrpS_75 z)), .at true (.as 1 [.sl 0 0 (yrpS_76 z), .sl 1 0 (yrpS_77 z)]), .at true (.as 1 [.nil, .nil]), .at true (.as 1 [.sl 5 0 (yrpS_78 z), .sl 6 0 (yrpS_79 z)]), .at true (.fl .f32 (yrpS_710 z)), .at true (.fl .f32 (yrpS_711 z)), .at true (.as 1 [.nil, .nil])]) | false => none)) (by kernel_rfl) ?_
      rw [hc.2.2.1]
      try rfl) (by kernel_rfl) (by kernel_rfl) (anrpS_7_76 hc)
theorem anrpS_7_79 {z : zrpS_7} (hc : crpS_7_0 z) : arpS_7_0 z 13 205 (qrpS_7_0 z 205 []) (HrpS_7_0 z []) := by
  refine any_next [1, 8, 15] (by kernel_rfl) (by decide) fun i hi => ?_
  rcases two3 hi with rfl | rfl | rfl
  · exact any_one _ (v := vrpS_7_0 z 1) tabok_rpS horpS_7_1 (trivial) (by kernel_rfl) (by kernel_rfl) (by kernel_rfl) (anrpS_7_49 hc)
  · exact any_one _ (v := vrpS_7_0 z 8) tabok_rpS horpS_7_8 (trivial) (by
      refine Eq.trans (b := (match decide (0 ≤ (0 : Int) ∧ (0 : Int) < (((yrpS_76 z) : Nat) : Int)) with | true => some ((.ptr 0 0), [.at (yrpS_72 z) (.fl .f32 (yrpS_73 z)), .at (yrpS_74 z) (.fl .f32 (yrpS_75 z)), .at true (.as 1 [.sl 0 0 (yrpS_76 z), .sl 1 0 (yrpS_77 z)]), .at true (.as 1 [.nil, .nil]), .at true (.as 1 [.sl 5 0 (yrpS_78 z), .sl 6 0 (yrpS_79 z)]), .at true (.fl .f32 (yrpS_710 z)), .at true (.fl .f32 (yrpS_711 z))]) | false => none)) (by kernel_rfl) ?_
      rw [hc.2.2.1]
      try rfl) (by kernel_rfl) (by kernel_rfl) (anrpS_7_77 hc)
  · exact any_one _ (v := .ptr 7 0) tabok_rpS horpS_7_15 (trivial) (by kernel_rfl) (by kernel_rfl) (by kernel_rfl) (anrpS_7_78 hc)
theorem anrpS_7_80 {z : zrpS_7} (hc : crpS_7_0 z) : arpS_7_0 z 13 32845 (qrpS_7_0 z 32845 [(8, .ptr 7 0)]) (HrpS_7_0 z [3]) := by
  refine any_next [1, 7] (by kernel_rfl) (by decide) fun i hi => ?_
  rcases two2 hi with rfl | rfl
  · exact any_one _ (v := vrpS_7_0 z 1) tabok_rpS horpS_7_1 (trivial) (by kernel_rfl) (by kernel_rfl) (by kernel_rfl) (anrpS_7_50 hc)
  · exact any_one _ (v := vrpS_7_0 z 7) tabok_rpS horpS_7_7 (trivial) (by kernel_rfl) (by kernel_rfl) (by kernel_rfl) (anrpS_7_78 hc)
theorem anrpS_7_81 {z : zrpS_7} (hc : crpS_7_0 z) : arpS_7_0 z 14 77 (qrpS_7_0 z 77 []) (HrpS_7_0 z []) := by
  refine any_next [1, 7, 15] (by kernel_rfl) (by decide) fun i hi => ?_
  rcases two3 hi with rfl | rfl | rfl
  · exact any_one _ (v := vrpS_7_0 z 1) tabok_rpS horpS_7_1 (trivial) (by kernel_rfl) (by kernel_rfl) (by kernel_rfl) (anrpS_7_51 hc)
  · exact any_one _ (v := vrpS_7_0 z 7) tabok_rpS horpS_7_7 (trivial) (by kernel_rfl) (by kernel_rfl) (by kernel_rfl) (anrpS_7_79 hc)
  · exact any_one _ (v := .ptr 7 0) tabok_rpS horpS_7_15 (trivial) (by kernel_rfl) (by kernel_rfl) (by kernel_rfl) (anrpS_7_80 hc)
theorem anrpS_7_82 {z : zrpS_7} (hc : crpS_7_0 z) : arpS_7_0 z 14 32781 (qrpS_7_0 z 32781 [(8, .ptr 7 0)]) (HrpS_7_0 z [3]) := by
  refine any_next [1, 6] (by kernel_rfl) (by decide) fun i hi => ?_
  rcases two2 hi with rfl | rfl
  · exact any_one _ (v := vrpS_7_0 z 1) tabok_rpS horpS_7_1 (trivial) (by kernel_rfl) (by kernel_rfl) (by kernel_rfl) (anrpS_7_52 hc)
  · exact any_one _ (v := vrpS_7_0 z 6) tabok_rpS horpS_7_6 (trivial) (by kernel_rfl) (by kernel_rfl) (by kernel_rfl) (anrpS_7_80 hc)
theorem anrpS_7_83 {z : zrpS_7} (hc : crpS_7_0 z) : arpS_7_0 z 15 13 (qrpS_7_0 z 13 []) (HrpS_7_0 z []) := by
  refine any_next [1, 6, 15] (by kernel_rfl) (by decide) fun i hi => ?_
  rcases two3 hi with rfl | rfl | rfl
  · exact any_one _ (v := vrpS_7_0 z 1) tabok_rpS horpS_7_1 (trivial) (by kernel_rfl) (by kernel_rfl) (by kernel_rfl) (anrpS_7_53 hc)
  · exact any_one _ (v := vrpS_7_0 z 6) tabok_rpS horpS_7_6 (trivial) (by kernel_rfl) (by kernel_rfl) (by kernel_rfl) (anrpS_7_81 hc)
  · exact any_one _ (v := .ptr 7 0) tabok_rpS horpS_7_15 (trivial) (by kernel_rfl) (by kernel_rfl) (by kernel_rfl) (anrpS_7_82 hc)
theorem anrpS_7_84 {z : zrpS_7} (hc : crpS_7_0 z) : arpS_7_0 z 11 33733 (qrpS_7_0 z 33733 [(8, .ptr 7 0)]) (HrpS_7_0 z [3]) := by
  refine any_next [1, 3] (by kernel_rfl) (by decide) fun i hi => ?_
  rcases two2 hi with rfl | rfl
  · exact any_one _ (v := vrpS_7_0 z 1) tabok_rpS horpS_7_1 (trivial) (by kernel_rfl) (by kernel_rfl) (by kernel_rfl) (anrpS_7_54 hc)
  · exact any_one _ (v := vrpS_7_0 z 3) tabok_rpS horpS_7_3 (trivial) (by kernel_rfl) (by kernel_rfl) (by kernel_rfl) (anrpS_7_74 hc)
theorem anrpS_7_85 {z : zrpS_7} (hc : crpS_7_0 z) : arpS_7_0 z 12 965 (qrpS_7_0 z 965 []) (HrpS_7_0 z []) := by
  refine any_next [1, 3, 15] (by kernel_rfl) (by decide) fun i hi => ?_
  rcases two3 hi with rfl | rfl | rfl
  · exact any_one _ (v := vrpS_7_0 z 1) tabok_rpS horpS_7_1 (trivial) (by kernel_rfl) (by kernel_rfl) (by kernel_rfl) (anrpS_7_55 hc)
  · exact any_one _ (v := vrpS_7_0 z 3) tabok_rpS horpS_7_3 (trivial) (by kernel_rfl) (by kernel_rfl) (by kernel_rfl) (anrpS_7_75 hc)
  · exact any_one _ (v := .ptr 7 0) tabok_rpS horpS_7_15 (trivial) (by kernel_rfl) (by kernel_rfl) (by kernel_rfl) (anrpS_7_84 hc)
theorem anrpS_7_86 {z : zrpS_7} (hc : crpS_7_0 z) : arpS_7_0 z 12 33221 (qrpS_7_0 z 33221 [(8, .ptr 7 0)]) (HrpS_7_0 z [3]) := by
  refine any_next [1, 3, 9] (by kernel_rfl) (by decide) fun i hi => ?_
  rcases two3 hi with rfl | rfl | rfl
  · exact any_one _ (v := vrpS_7_0 z 1) tabok_rpS horpS_7_1 (trivial) (by kernel_rfl) (by kernel_rfl) (by kernel_rfl) (anrpS_7_56 hc)
  · exact any_one _ (v := vrpS_7_0 z 3) tabok_rpS horpS_7_3 (trivial) (by kernel_rfl) (by kernel_rfl) (by kernel_rfl) (anrpS_7_76 hc)
  · exact any_one _ (v := vrpS_7_0 z 9) tabok_rpS horpS_7_9 (trivial) (by
      refine Eq.trans (b := (match (yrpS_73 z)[0]? with | some e54 => some ((.fl .f32 e54), [.at (yrpS_72 z) (.fl .f32 (yrpS_73 z)), .at (yrpS_74 z) (.fl .f32 (yrpS_75 z)), .at true (.as 1 [.sl 0 0 (yrpS_76 z), .sl 1 0 (yrpS_77 z)]), .at true (.as 1 [.nil, .nil]), .at true (.as 1 [.sl 5 0 (yrpS_78 z), .sl 6 0 (yrpS_79 z)]), .at true (.fl .f32 (yrpS_710 z)), .at true (.fl .f32 (yrpS_711 z)), .at true (.as 1 [.nil, .nil])]) | none => none)) (by kernel_rfl) ?_
      rw [someD (hc.2.2.2.1)]
      try rfl) (by kernel_rfl) (by kernel_rfl) (anrpS_7_84 hc)
theorem anrpS_7_87 {z : zrpS_7} (hc : crpS_7_0 z) : arpS_7_0 z 13 453 (qrpS_7_0 z 453 []) (HrpS_7_0 z []) := by
  refine any_next [1, 3, 9, 15] (by kernel_rfl) (by decide) fun i hi => ?_
  rcases two4 hi with rfl | rfl | rfl | rfl
  · exact any_one _ (v := vrpS_7_0 z 1) tabok_rpS horpS_7_1 (trivial) (by kernel_rfl) (by kernel_rfl) (by kernel_rfl) (anrpS_7_57 hc)
  · exact any_one _ (v := vrpS_7_0 z 3) tabok_rpS horpS_7_3 (trivial) (by kernel_rfl) (by kernel_rfl) (by kernel_rfl) (anrpS_7_77 hc)
  · exact any_one _ (v := vrpS_7_0 z 9) tabok_rpS horpS_7_9 (trivial) (by
      refine Eq.trans (b := (match (yrpS_73 z)[0]? with | some e52 => some ((.fl .f32 e52), [.at (yrpS_72 z) (.fl .f32 (yrpS_73 z)), .at (yrpS_74 z) (.fl .f32 (yrpS_75 z)), .at true (.as 1 [.sl 0 0 (yrpS_76 z), .sl 1 0 (yrpS_77 z)]), .at true (.as 1 [.nil, .nil]), .at true (.as 1 [.sl 5 0 (yrpS_78 z), .sl 6 0 (yrpS_79 z)]), .at true (.fl .f32 (yrpS_710 z)), .at true (.fl .f32 (yrpS_711 z))]) | none => none)) (by kernel_rfl) ?_
      rw [someD (hc.2.2.2.1)]
      try rfl) (by kernel_rfl) (by kernel_rfl) (anrpS_7_85 hc)
  · exact any_one _ (v := .ptr 7 0) tabok_rpS horpS_7_15 (trivial) (by kernel_rfl) (by kernel_rfl) (by kernel_rfl) (anrpS_7_86 hc)
theorem anrpS_7_88 {z : zrpS_7} (hc : crpS_7_0 z) : arpS_7_0 z 13 32965 (qrpS_7_0 z 32965 [(8, .ptr 7 0)]) (HrpS_7_0 z [3]) := by
  refine any_next [1, 3, 8] (by kernel_rfl) (by decide) fun i hi => ?_
  rcases two3 hi with rfl | rfl | rfl
  · exact any_one _ (v := vrpS_7_0 z 1) tabok_rpS horpS_7_1 (trivial) (by kernel_rfl) (by kernel_rfl) (by kernel_rfl) (anrpS_7_58 hc)
  · exact any_one _ (v := vrpS_7_0 z 3) tabok_rpS horpS_7_3 (trivial) (by kernel_rfl) (by kernel_rfl) (by kernel_rfl) (anrpS_7_78 hc)
  · exact any_one _ (v := vrpS_7_0 z 8) tabok_rpS horpS_7_8 (trivial) (by
      refine Eq.trans (b := (match decide (0 ≤ (0 : Int) ∧ (0 : Int) < (((yrpS_76 z) : Nat) : Int)) with | true => some ((.ptr 0 0), [.at (yrpS_72 z) (.fl .f32 (yrpS_73 z)), .at (yrpS_74 z) (.fl .f32 (yrpS_75 z)), .at true (.as 1 [.sl 0 0 (yrpS_76 z), .sl 1 0 (yrpS_77 z)]), .at true (.as 1 [.nil, .nil]), .at true (.as 1 [.sl 5 0 (yrpS_78 z), .sl 6 0 (yrpS_79 z)]), .at true (.fl .f32 (yrpS_710 z)), .at true (.fl .f32 (yrpS_711 z)), .at true (.as 1 [.nil, .nil])]) | false => none)) (by kernel_rfl) ?_
      rw [hc.2.2.1]
      try rfl) (by kernel_rfl) (by kernel_rfl) (anrpS_7_86 hc)
theorem anrpS_7_89 {z : zrpS_7} (hc : crpS_7_0 z) : arpS_7_0 z 14 197 (qrpS_7_0 z 197 []) (HrpS_7_0 z []) := by
  refine any_next [1, 3, 8, 15] (by kernel_rfl) (by decide) fun i hi => ?_
  rcases two4 hi with rfl | rfl | rfl | rfl
  · exact any_one _ (v := vrpS_7_0 z 1) tabok_rpS horpS_7_1 (trivial) (by kernel_rfl) (by kernel_rfl) (by kernel_rfl) (anrpS_7_59 hc)
  · exact any_one _ (v := vrpS_7_0 z 3) tabok_rpS horpS_7_3 (trivial) (by kernel_rfl) (by kernel_rfl) (by kernel_rfl) (anrpS_7_79 hc)
  · exact any_one _ (v := vrpS_7_0 z 8) tabok_rpS horpS_7_8 (trivial) (by
      refine Eq.trans (b := (match decide (0 ≤ (0 : Int) ∧ (0 : Int) < (((yrpS_76 z) : Nat) : Int)) with | true => some ((.ptr 0 0), [.at (yrpS_72 z) (.fl .f32 (yrpS_73 z)), .at (yrpS_74 z) (.fl .f32 (yrpS_75 z)), .at true (.as 1 [.sl 0 0 (yrpS_76 z), .sl 1 0 (yrpS_77 z)]), .at true (.as 1 [.nil, .nil]), .at true (.as 1 [.sl 5 0 (yrpS_78 z), .sl 6 0 (yrpS_79 z)]), .at true (.fl .f32 (yrpS_710 z)), .at true (.fl .f32 (yrpS_711 z))]) | false => none)) (by kernel_rfl) ?_
      rw [hc.2.2.1]
      try rfl) (by kernel_rfl) (by kernel_rfl) (anrpS_7_87 hc)
  · exact any_one _ (v := .ptr 7 0) tabok_rpS horpS_7_15 (trivial) (by kernel_rfl) (by kernel_rfl) (by kernel_rfl) (anrpS_7_88 hc)
theorem anrpS_7_90 {z : zrpS_7} (hc : crpS_7_0 z) : arpS_7_0 z 14 32837 (qrpS_7_0 z 32837 [(8, .ptr 7 0)]) (HrpS_7_0 z [3]) := by
  refine any_next [1, 3, 7] (by kernel_rfl) (by decide) fun i hi => ?_
  rcases two3 hi with rfl | rfl | rfl
  · exact any_one _ (v := vrpS_7_0 z 1) tabok_rpS horpS_7_1 (trivial) (by kernel_rfl) (by kernel_rfl) (by kernel_rfl) (anrpS_7_60 hc)
  · exact any_one _ (v := vrpS_7_0 z 3) tabok_rpS horpS_7_3 (trivial) (by kernel_rfl) (by kernel_rfl) (by kernel_rfl) (anrpS_7_80 hc)
  · exact any_one _ (v := vrpS_7_0 z 7) tabok_rpS horpS_7_7 (trivial) (by kernel_rfl) (by kernel_rfl) (by kernel_rfl) (anrpS_7_88 hc)
theorem anrpS_7_91 {z : zrpS_7} (hc : crpS_7_0 z) : arpS_7_0 z 15 69 (qrpS_7_0 z 69 []) (HrpS_7_0 z []) := by
  refine any_next [1, 3, 7, 15] (by kernel_rfl) (by decide) fun i hi => ?_
  rcases two4 hi with rfl | rfl | rfl | rfl
  · exact any_one _ (v := vrpS_7_0 z 1) tabok_rpS horpS_7_1 (trivial) (by kernel_rfl) (by kernel_rfl) (by kernel_rfl) (anrpS_7_61 hc)
  · exact any_one _ (v := vrpS_7_0 z 3) tabok_rpS horpS_7_3 (trivial) (by kernel_rfl) (by kernel_rfl) (by kernel_rfl) (anrpS_7_81 hc)
  · exact any_one _ (v := vrpS_7_0 z 7) tabok_rpS horpS_7_7 (trivial) (by kernel_rfl) (by kernel_rfl) (by kernel_rfl) (anrpS_7_89 hc)
  · exact any_one _ (v := .ptr 7 0) tabok_rpS horpS_7_15 (trivial) (by kernel_rfl) (by kernel_rfl) (by kernel_rfl) (anrpS_7_90 hc)
theorem anrpS_7_92 {z : zrpS_7} (hc : crpS_7_0 z) : arpS_7_0 z 15 32773 (qrpS_7_0 z 32773 [(8, .ptr 7 0)]) (HrpS_7_0 z [3]) := by
  refine any_next [1, 3, 6] (by kernel_rfl) (by decide) fun i hi => ?_
  rcases two3 hi with rfl | rfl | rfl
  · exact any_one _ (v := vrpS_7_0 z 1) tabok_rpS horpS_7_1 (trivial) (by kernel_rfl) (by kernel_rfl) (by kernel_rfl) (anrpS_7_62 hc)
  · exact any_one _ (v := vrpS_7_0 z 3) tabok_rpS horpS_7_3 (trivial) (by kernel_rfl) (by kernel_rfl) (by kernel_rfl) (anrpS_7_82 hc)
  · exact any_one _ (v := vrpS_7_0 z 6) tabok_rpS horpS_7_6 (trivial) (by kernel_rfl) (by kernel_rfl) (by kernel_rfl) (anrpS_7_90 hc)
theorem anrpS_7_93 {z : zrpS_7} (hc : crpS_7_0 z) : arpS_7_0 z 16 5 (qrpS_7_0 z 5 []) (HrpS_7_0 z []) := by
  refine any_next [1, 3, 6, 15] (by kernel_rfl) (by decide) fun i hi => ?_
  rcases two4 hi with rfl | rfl | rfl | rfl
  · exact any_one _ (v := vrpS_7_0 z 1) tabok_rpS horpS_7_1 (trivial) (by kernel_rfl) (by kernel_rfl) (by kernel_rfl) (anrpS_7_63 hc)
  · exact any_one _ (v := vrpS_7_0 z 3) tabok_rpS horpS_7_3 (trivial) (by kernel_rfl) (by kernel_rfl) (by kernel_rfl) (anrpS_7_83 hc)
  · exact any_one _ (v := vrpS_7_0 z 6) tabok_rpS horpS_7_6 (trivial) (by kernel_rfl) (by kernel_rfl) (by kernel_rfl) (anrpS_7_91 hc)
  · exact any_one _ (v := .ptr 7 0) tabok_rpS horpS_7_15 (trivial) (by kernel_rfl) (by kernel_rfl) (by kernel_rfl) (anrpS_7_92 hc)
theorem anrpS_7_94 {z : zrpS_7} (hc : crpS_7_0 z) : arpS_7_0 z 12 33729 (qrpS_7_0 z 33729 [(8, .ptr 7 0)]) (HrpS_7_0 z [3]) := by
  refine any_next [1, 2] (by kernel_rfl) (by decide) fun i hi => ?_
  rcases two2 hi with rfl | rfl
  · exact any_one _ (v := vrpS_7_0 z 1) tabok_rpS horpS_7_1 (trivial) (by kernel_rfl) (by kernel_rfl) (by kernel_rfl) (anrpS_7_64 hc)
  · exact any_one _ (v := vrpS_7_0 z 2) tabok_rpS horpS_7_2 (trivial) (by kernel_rfl) (by kernel_rfl) (by kernel_rfl) (anrpS_7_84 hc)
theorem anrpS_7_95 {z : zrpS_7} (hc : crpS_7_0 z) : arpS_7_0 z 13 961 (qrpS_7_0 z 961 []) (HrpS_7_0 z []) := by
  refine any_next [1, 2, 15] (by kernel_rfl) (by decide) fun i hi => ?_
  rcases two3 hi with rfl | rfl | rfl
  · exact any_one _ (v := vrpS_7_0 z 1) tabok_rpS horpS_7_1 (trivial) (by kernel_rfl) (by kernel_rfl) (by kernel_rfl) (anrpS_7_65 hc)
  · exact any_one _ (v := vrpS_7_0 z 2) tabok_rpS horpS_7_2 (trivial) (by kernel_rfl) (by kernel_rfl) (by kernel_rfl) (anrpS_7_85 hc)
  · exact any_one _ (v := .ptr 7 0) tabok_rpS horpS_7_15 (trivial) (by kernel_rfl) (by kernel_rfl) (by kernel_rfl) (anrpS_7_94 hc)
theorem anrpS_7_96 {z : zrpS_7} (hc : crpS_7_0 z) : arpS_7_0 z 13 33217 (qrpS_7_0 z 33217 [(8, .ptr 7 0)]) (HrpS_7_0 z [3]) := by
  refine any_next [1, 2, 9] (by kernel_rfl) (by decide) fun i hi => ?_
  rcases two3 hi with rfl | rfl | rfl
  · exact any_one _ (v := vrpS_7_0 z 1) tabok_rpS horpS_7_1 (trivial) (by kernel_rfl) (by kernel_rfl) (by kernel_rfl) (anrpS_7_66 hc)
  · exact any_one _ (v := vrpS_7_0 z 2) tabok_rpS horpS_7_2 (trivial) (by kernel_rfl) (by kernel_rfl) (by kernel_rfl) (anrpS_7_86 hc)
  · exact any_one _ (v := vrpS_7_0 z 9) tabok_rpS horpS_7_9 (trivial) (by
      refine Eq.trans (b := (match (yrpS_73 z)[0]? with | some e58 => some ((.fl .f32 e58), [.at (yrpS_72 z) (.fl .f32 (yrpS_73 z)), .at (yrpS_74 z) (.fl .f32 (yrpS_75 z)), .at true (.as 1 [.sl 0 0 (yrpS_76 z), .sl 1 0 (yrpS_77 z)]), .at true (.as 1 [.nil, .nil]), .at true (.as 1 [.sl 5 0 (yrpS_78 z), .sl 6 0 (yrpS_79 z)]), .at true (.fl .f32 (yrpS_710 z)), .at true (.fl .f32 (yrpS_711 z)), .at true (.as 1 [.nil, .nil])]) | none => none)) (by kernel_rfl) ?_
      rw [someD (hc.2.2.2.1)]
      try rfl) (by kernel_rfl) (by kernel_rfl) (anrpS_7_94 hc)
theorem anrpS_7_97 {z : zrpS_7} (hc : crpS_7_0 z) : arpS_7_0 z 14 449 (qrpS_7_0 z 449 []) (HrpS_7_0 z []) := by
  refine any_next [1, 2, 9, 15] (by kernel_rfl) (by decide) fun i hi => ?_
  rcases two4 hi with rfl | rfl | rfl | rfl
  · exact any_one _ (v := vrpS_7_0 z 1) tabok_rpS horpS_7_1 (trivial) (by kernel_rfl) (by kernel_rfl) (by kernel_rfl) (anrpS_7_67 hc)
  · exact any_one _ (v := vrpS_7_0 z 2) tabok_rpS horpS_7_2 (trivial) (by kernel_rfl) (by kernel_rfl) (by kernel_rfl) (anrpS_7_87 hc)
  · exact any_one _ (v := vrpS_7_0 z 9) tabok_rpS horpS_7_9 (trivial) (by
      refine Eq.trans (b := (match (yrpS_73 z)[0]? with | some e56 => some ((.fl .f32 e56), [.at (yrpS_72 z) (.fl .f32 (yrpS_73 z)), .at (yrpS_74 z) (.fl .f32 (yrpS_75 z)), .at true (.as 1 [.sl 0 0 (yrpS_76 z), .sl 1 0 (yrpS_77 z)]), .at true (.as 1 [.nil, .nil]), .at true (.as 1 [.sl 5 0 (yrpS_78 z), .sl 6 0 (yrpS_79 z)]), .at true (.fl .f32 (yrpS_710 z)), .at true (.fl .f32 (yrpS_711 z))]) | none => none)) (by kernel_rfl) ?_
      rw [someD (hc.2.2.2.1)]
      try rfl) (by kernel_rfl) (by kernel_rfl) (anrpS_7_95 hc)
  · exact any_one _ (v := .ptr 7 0) tabok_rpS horpS_7_15 (trivial) (by kernel_rfl) (by kernel_rfl) (by kernel_rfl) (anrpS_7_96 hc)
theorem anrpS_7_98 {z : zrpS_7} (hc : crpS_7_0 z) : arpS_7_0 z 14 32961 (qrpS_7_0 z 32961 [(8, .ptr 7 0)]) (HrpS_7_0 z [3]) := by
  refine any_next [1, 2, 8] (by kernel_rfl) (by decide) fun i hi => ?_
  rcases two3 hi with rfl | rfl | rfl
  · exact any_one _ (v := vrpS_7_0 z 1) tabok_rpS horpS_7_1 (trivial) (by kernel_rfl) (by kernel_rfl) (by kernel_rfl) (anrpS_7_68 hc)
  · exact any_one _ (v := vrpS_7_0 z 2) tabok_rpS horpS_7_2 (trivial) (by kernel_rfl) (by kernel_rfl) (by kernel_rfl) (anrpS_7_88 hc)
  · exact any_one _ (v := vrpS_7_0 z 8) tabok_rpS horpS_7_8 (trivial) (by
      refine Eq.trans (b := (match decide (0 ≤ (0 : Int) ∧ (0 : Int) < (((yrpS_76 z) : Nat) : Int)) with | true => some ((.ptr 0 0), [.at (yrpS_72 z) (.fl .f32 (yrpS_73 z)), .at (yrpS_74 z) (.fl .f32 (yrpS_75 z)), .at true (.as 1 [.sl 0 0 (yrpS_76 z), .sl 1 0 (yrpS_77 z)]), .at true (.as 1 [.nil, .nil]), .at true (.as 1 [.sl 5 0 (yrpS_78 z), .sl 6 0 (yrpS_79 z)]), .at true (.fl .f32 (yrpS_710 z)), .at true (.fl .f32 (yrpS_711 z)), .at true (.as 1 [.nil, .nil])]) | false => none)) (by kernel_rfl) ?_
      rw [hc.2.2.1]
      try rfl) (by kernel_rfl) (by kernel_rfl) (anrpS_7_96 hc)
theorem anrpS_7_99 {z : zrpS_7} (hc : crpS_7_0 z) : arpS_7_0 z 15 193 (qrpS_7_0 z 193 []) (HrpS_7_0 z []) := by
  refine any_next [1, 2, 8, 15] (by kernel_rfl) (by decide) fun i hi => ?_
  rcases two4 hi with rfl | rfl | rfl | rfl
  · exact any_one _ (v := vrpS_7_0 z 1) tabok_rpS horpS_7_1 (trivial) (by kernel_rfl) (by kernel_rfl) (by kernel_rfl) (anrpS_7_69 hc)
  · exact any_one _ (v := vrpS_7_0 z 2) tabok_rpS horpS_7_2 (trivial) (by kernel_rfl) (by kernel_rfl) (by kernel_rfl) (anrpS_7_89 hc)
  · exact any_one _ (v := vrpS_7_0 z 8) tabok_rpS horpS_7_8 (trivial) (by
      refine Eq.trans (b := (match decide (0 ≤ (0 : Int) ∧ (0 : Int) < (((yrpS_76 z) : Nat) : Int)) with | true => some ((.ptr 0 0), [.at (yrpS_72 z) (.fl .f32 (yrpS_73 z)), .at (yrpS_74 z) (.fl .f32 (yrpS_75 z)), .at true (.as 1 [.sl 0 0 (yrpS_76 z), .sl 1 0 (yrpS_77 z)]), .at true (.as 1 [.nil, .nil]), .at true (.as 1 [.sl 5 0 (yrpS_78 z), .sl 6 0 (yrpS_79 z)]), .at true (.fl .f32 (yrpS_710 z)), .at true (.fl .f32 (yrpS_711 z))]) | false => none)) (by kernel_rfl) ?_
      rw [hc.2.2.1]
      try rfl) (by kernel_rfl) (by kernel_rfl) (anrpS_7_97 hc)
  · exact any_one _ (v := .ptr 7 0) tabok_rpS horpS_7_15 (trivial) (by kernel_rfl) (by kernel_rfl) (by kernel_rfl) (anrpS_7_98 hc)
theorem anrpS_7_100 {z : zrpS_7} (hc : crpS_7_0 z) : arpS_7_0 z 15 32833 (qrpS_7_0 z 32833 [(8, .ptr 7 0)]) (HrpS_7_0 z [3]) := by
  refine any_next [1, 2, 7] (by kernel_rfl) (by decide) fun i hi => ?_
  rcases two3 hi with rfl | rfl | rfl
  · exact any_one _ (v := vrpS_7_0 z 1) tabok_rpS horpS_7_1 (trivial) (by kernel_rfl) (by kernel_rfl) (by kernel_rfl) (anrpS_7_70 hc)
  · exact any_one _ (v := vrpS_7_0 z 2) tabok_rpS horpS_7_2 (trivial) (by kernel_rfl) (by kernel_rfl) (by kernel_rfl) (anrpS_7_90 hc)
  · exact any_one _ (v := vrpS_7_0 z 7) tabok_rpS horpS_7_7 (trivial) (by kernel_rfl) (by kernel_rfl) (by kernel_rfl) (anrpS_7_98 hc)
theorem anrpS_7_101 {z : zrpS_7} (hc : crpS_7_0 z) : arpS_7_0 z 16 65 (qrpS_7_0 z 65 []) (HrpS_7_0 z []) := by
  refine any_next [1, 2, 7, 15] (by kernel_rfl) (by decide) fun i hi => ?_
  rcases two4 hi with rfl | rfl | rfl | rfl
  · exact any_one _ (v := vrpS_7_0 z 1) tabok_rpS horpS_7_1 (trivial) (by kernel_rfl) (by kernel_rfl) (by kernel_rfl) (anrpS_7_71 hc)
  · exact any_one _ (v := vrpS_7_0 z 2) tabok_rpS horpS_7_2 (trivial) (by kernel_rfl) (by kernel_rfl) (by kernel_rfl) (anrpS_7_91 hc)
  · exact any_one _ (v := vrpS_7_0 z 7) tabok_rpS horpS_7_7 (trivial) (by kernel_rfl) (by kernel_rfl) (by kernel_rfl) (anrpS_7_99 hc)
  · exact any_one _ (v := .ptr 7 0) tabok_rpS horpS_7_15 (trivial) (by kernel_rfl) (by kernel_rfl) (by kernel_rfl) (anrpS_7_100 hc)
theorem anrpS_7_102 {z : zrpS_7} (hc : crpS_7_0 z) : arpS_7_0 z 16 32769 (qrpS_7_0 z 32769 [(8, .ptr 7 0)]) (HrpS_7_0 z [3]) := by
  refine any_next [1, 2, 6] (by kernel_rfl) (by decide) fun i hi => ?_
  rcases two3 hi with rfl | rfl | rfl
  · exact any_one _ (v := vrpS_7_0 z 1) tabok_rpS horpS_7_1 (trivial) (by kernel_rfl) (by kernel_rfl) (by kernel_rfl) (anrpS_7_72 hc)
  · exact any_one _ (v := vrpS_7_0 z 2) tabok_rpS horpS_7_2 (trivial) (by kernel_rfl) (by kernel_rfl) (by kernel_rfl) (anrpS_7_92 hc)
  · exact any_one _ (v := vrpS_7_0 z 6) tabok_rpS horpS_7_6 (trivial) (by kernel_rfl) (by kernel_rfl) (by kernel_rfl) (anrpS_7_100 hc)
theorem anrpS_7_103 {z : zrpS_7} (hc : crpS_7_0 z) : arpS_7_0 z 17 1 (qrpS_7_0 z 1 []) (HrpS_7_0 z []) := by
  refine any_next [1, 2, 6, 15] (by kernel_rfl) (by decide) fun i hi => ?_
  rcases two4 hi with rfl | rfl | rfl | rfl
  · exact any_one _ (v := vrpS_7_0 z 1) tabok_rpS horpS_7_1 (trivial) (by kernel_rfl) (by kernel_rfl) (by kernel_rfl) (anrpS_7_73 hc)
  · exact any_one _ (v := vrpS_7_0 z 2) tabok_rpS horpS_7_2 (trivial) (by kernel_rfl) (by kernel_rfl) (by kernel_rfl) (anrpS_7_93 hc)
  · exact any_one _ (v := vrpS_7_0 z 6) tabok_rpS horpS_7_6 (trivial) (by kernel_rfl) (by kernel_rfl) (by kernel_rfl) (anrpS_7_101 hc)
  · exact any_one _ (v := .ptr 7 0) tabok_rpS horpS_7_15 (trivial) (by kernel_rfl) (by kernel_rfl) (by kernel_rfl) (anrpS_7_102 hc)
theorem anrpS_7_104 {z : zrpS_7} (hc : crpS_7_0 z) : arpS_7_0 z 11 33740 (qrpS_7_0 z 33740 [(8, .ptr 7 0)]) (HrpS_7_0 z [3]) := by
  refine any_next [0] (by kernel_rfl) (by decide) fun i hi => ?_
  obtain rfl := two1 hi
  · exact any_one _ (v := vrpS_7_0 z 0) tabok_rpS horpS_7_0 (trivial) (by kernel_rfl) (by kernel_rfl) (by kernel_rfl) (anrpS_7_74 hc)
theorem anrpS_7_105 {z : zrpS_7} (hc : crpS_7_0 z) : arpS_7_0 z 12 972 (qrpS_7_0 z 972 []) (HrpS_7_0 z []) := by
  refine any_next [0, 15] (by kernel_rfl) (by decide) fun i hi => ?_
  rcases two2 hi with rfl | rfl
  · exact any_one _ (v := vrpS_7_0 z 0) tabok_rpS horpS_7_0 (trivial) (by kernel_rfl) (by kernel_rfl) (by kernel_rfl) (anrpS_7_75 hc)
  · exact any_one _ (v := .ptr 7 0) tabok_rpS horpS_7_15 (trivial) (by kernel_rfl) (by kernel_rfl) (by kernel_rfl) (anrpS_7_104 hc)
theorem anrpS_7_106 {z : zrpS_7} (hc : crpS_7_0 z) : arpS_7_0 z 12 33228 (qrpS_7_0 z 33228 [(8, .ptr 7 0)]) (HrpS_7_0 z [3]) := by
  refine any_next [0, 9] (by kernel_rfl) (by decide) fun i hi => ?_
  rcases two2 hi with rfl | rfl
  · exact any_one _ (v := vrpS_7_0 z 0) tabok_rpS horpS_7_0 (trivial) (by kernel_rfl) (by kernel_rfl) (by kernel_rfl) (anrpS_7_76 hc)
  · exact any_one _ (v := vrpS_7_0 z 9) tabok_rpS horpS_7_9 (trivial) (by
      refine Eq.trans (b := (match (yrpS_73 z)[0]? with | some e62 => some ((.fl .f32 e62), [.at (yrpS_72 z) (.fl .f32 (yrpS_73 z)), .at (yrpS_74 z) (.fl .f32 (yrpS_75 z)), .at true (.as 1 [.sl 0 0 (yrpS_76 z), .sl 1 0 (yrpS_77 z)]), .at true (.as 1 [.nil, .nil]), .at true (.as 1 [.sl 5 0 (yrpS_78 z), .sl 6 0 (yrpS_79 z)]), .at true (.fl .f32 (yrpS_710 z)), .at true (.fl .f32 (yrpS_711 z)), .at true (.as 1 [.nil, .nil])]) | none => none)) (by kernel_rfl) ?_
      rw [someD (hc.2.2.2.1)]
      try rfl) (by kernel_rfl) (by kernel_rfl) (anrpS_7_104 hc)
theorem anrpS_7_107 {z : zrpS_7} (hc : crpS_7_0 z) : arpS_7_0 z 13 460 (qrpS_7_0 z 460 []) (HrpS_7_0 z []) := by
  refine any_next [0, 9, 15] (by kernel_rfl) (by decide) fun i hi => ?_
  rcases two3 hi with rfl | rfl | rfl
  · exact any_one _ (v := vrpS_7_0 z 0) tabok_rpS horpS_7_0 (trivial) (by kernel_rfl) (by kernel_rfl) (by kernel_rfl) (anrpS_7_77 hc)
  · exact any_one _ (v := vrpS_7_0 z 9) tabok_rpS horpS_7_9 (trivial) (by
      refine Eq.trans (b := (match (yrpS_73 z)[0]? with | some e60 => some ((.fl .f32 e60), [.at (yrpS_72 z) (.fl .f32 (yrpS_73 z)), .at (yrpS_74 z) (.fl .f32 (yrpS_75 z)), .at true (.as 1 [.sl 0 0 (yrpS_76 z), .sl 1 0 (yrpS_77 z)]), .at true (.as 1 [.nil, .nil]), .at true (.as 1 [.sl 5 0 (yrpS_78 z), .sl 6 0 (yrpS_79 z)]), .at true (.fl .f32 (yrpS_710 z)), .at true (.fl .f32 (yrpS_711 z))]) | none => none)) (by kernel_rfl) ?_
      rw [someD (hc.2.2.2.1)]
      try rfl) (by kernel_rfl) (by kernel_rfl) (anrpS_7_105 hc)
  · exact any_one _ (v := .ptr 7 0) tabok_rpS horpS_7_15 (trivial) (by kernel_rfl) (by kernel_rfl) (by kernel_rfl) (anrpS_7_106 hc)
theorem anrpS_7_108 {z : zrpS_7} (hc : crpS_7_0 z) : arpS_7_0 z 13 32972 (qrpS_7_0 z 32972 [(8, .ptr 7 0)]) (HrpS_7_0 z [3]) := by
  refine any_next [0, 8] (by kernel_rfl) (by decide) fun i hi => ?_
  rcases two2 hi with rfl | rfl
  · exact any_one _ (v := vrpS_7_0 z 0) tabok_rpS horpS_7_0 (trivial) (by kernel_rfl) (by kernel_rfl) (by kernel_rfl) (anrpS_7_78 hc)
  · exact any_one _ (v := vrpS_7_0 z 8) tabok_rpS horpS_7_8 (trivial) (by
      refine Eq.trans (b := (match decide (0 ≤ (0 : Int) ∧ (0 : Int) < (((yrpS_76 z) : Nat) : Int)) with | true => some ((.ptr 0 0), [.at (yrpS_72 z) (.fl .f32 (yrpS_73 z)), .at (yrpS_74 z) (.fl .f32 (yrpS_75 z)), .at true (.as 1 [.sl 0 0 (yrpS_76 z), .sl 1 0 (yrpS_77 z)]), .at true (.as 1 [.nil, .nil]), .at true (.as 1 [.sl 5 0 (yrpS_78 z), .sl 6 0 (yrpS_79 z)]), .at true (.fl .f32 (yrpS_710 z)), .at true (.fl .f32 (yrpS_711 z)), .at true (.as 1 [.nil, .nil])]) | false => none)) (by kernel_rfl) ?_
      rw [hc.2.2.1]
      try rfl) (by kernel_rfl) (by kernel_rfl) (anrpS_7_106 hc)
theorem anrpS_7_109 {z : zrpS_7} (hc : crpS_7_0 z) : arpS_7_0 z 14 204 (qrpS_7_0 z 204 []) (HrpS_7_0 z []) := by
  refine any_next [0, 8, 15] (by kernel_rfl) (by decide) fun i hi => ?_
  rcases two3 hi with rfl | rfl | rfl
  · exact any_one _ (v := vrpS_7_0 z 0) tabok_rpS horpS_7_0 (trivial) (by kernel_rfl) (by kernel_rfl) (by kernel_rfl) (anrpS_7_79 hc)
  · exact any_one _ (v := vrpS_7_0 z 8) tabok_rpS horpS_7_8 (trivial) (by
      refine Eq.trans (b := (match decide (0 ≤ (0 : Int) ∧ (0 : Int) < (((yrpS_76 z) : Nat) : Int)) with | true => some ((.ptr 0 0), [.at (yrpS_72 z) (.fl .f32 (yrpS_73 z)), .at (yrpS_74 z) (.fl .f32 (yrpS_75 z)), .at true (.as 1 [.sl 0 0 (yrpS_76 z), .sl 1 0 (yrpS_77 z)]), .at true (.as 1 [.nil, .nil]), .at true (.as 1 [.sl 5 0 (yrpS_78 z), .sl 6 0 (yrpS_79 z)]), .at true (.fl .f32 (yrpS_710 z)), .at true (.fl .f32 (yrpS_711 z))]) | false => none)) (by kernel_rfl) ?_
      rw [hc.2.2.1]
      try rfl) (by kernel_rfl) (by kernel_rfl) (anrpS_7_107 hc)
  · exact any_one _ (v := .ptr 7 0) tabok_rpS horpS_7_15 (trivial) (by kernel_rfl) (by kernel_rfl) (by kernel_rfl) (anrpS_7_108 hc)
theorem anrpS_7_110 {z : zrpS_7} (hc : crpS_7_0 z) : arpS_7_0 z 14 32844 (qrpS_7_0 z 32844 [(8, .ptr 7 0)]) (HrpS_7_0 z [3]) := by
  refine any_next [0, 7] (by kernel_rfl) (by decide) fun i hi => ?_
  rcases two2 hi with rfl | rfl
  · exact any_one _ (v := vrpS_7_0 z 0) tabok_rpS horpS_7_0 (trivial) (by kernel_rfl) (by kernel_rfl) (by kernel_rfl) (anrpS_7_80 hc)
  · exact any_one _ (v := vrpS_7_0 z 7) tabok_rpS horpS_7_7 (trivial) (by kernel_rfl) (by kernel_rfl) (by kernel_rfl) (anrpS_7_108 hc)
theorem anrpS_7_111 {z : zrpS_7} (hc : crpS_7_0 z) : arpS_7_0 z 15 76 (qrpS_7_0 z 76 []) (HrpS_7_0 z []) := by
  refine any_next [0, 7, 15] (by kernel_rfl) (by decide) fun i hi => ?_
  rcases two3 hi with rfl | rfl | rfl
  · exact any_one _ (v := vrpS_7_0 z 0) tabok_rpS horpS_7_0 (trivial) (by kernel_rfl) (by kernel_rfl) (by kernel_rfl) (anrpS_7_81 hc)
  · exact any_one _ (v := vrpS_7_0 z 7) tabok_rpS horpS_7_7 (trivial) (by kernel_rfl) (by kernel_rfl) (by kernel_rfl) (anrpS_7_109 hc)
  · exact any_one _ (v := .ptr 7 0) tabok_rpS horpS_7_15 (trivial) (by kernel_rfl) (by kernel_rfl) (by kernel_rfl) (anrpS_7_110 hc)
theorem anrpS_7_112 {z : zrpS_7} (hc : crpS_7_0 z) : arpS_7_0 z 15 32780 (qrpS_7_0 z 32780 [(8, .ptr 7 0)]) (HrpS_7_0 z [3]) := by
  refine any_next [0, 6] (by kernel_rfl) (by decide) fun i hi => ?_
  rcases two2 hi with rfl | rfl
  · exact any_one _ (v := vrpS_7_0 z 0) tabok_rpS horpS_7_0 (trivial) (by kernel_rfl) (by kernel_rfl) (by kernel_rfl) (anrpS_7_82 hc)
  · exact any_one _ (v := vrpS_7_0 z 6) tabok_rpS horpS_7_6 (trivial) (by kernel_rfl) (by kernel_rfl) (by kernel_rfl) (anrpS_7_110 hc)
theorem anrpS_7_113 {z : zrpS_7} (hc : crpS_7_0 z) : arpS_7_0 z 16 12 (qrpS_7_0 z 12 []) (HrpS_7_0 z []) := by
  refine any_next [0, 6, 15] (by kernel_rfl) (by decide) fun i hi => ?_
  rcases two3 hi with rfl | rfl | rfl
  · exact any_one _ (v := vrpS_7_0 z 0) tabok_rpS horpS_7_0 (trivial) (by kernel_rfl) (by kernel_rfl) (by kernel_rfl) (anrpS_7_83 hc)
  · exact any_one _ (v := vrpS_7_0 z 6) tabok_rpS horpS_7_6 (trivial) (by kernel_rfl) (by kernel_rfl) (by kernel_rfl) (anrpS_7_111 hc)
  · exact any_one _ (v := .ptr 7 0) tabok_rpS horpS_7_15 (trivial) (by kernel_rfl) (by kernel_rfl) (by kernel_rfl) (anrpS_7_112 hc)
theorem anrpS_7_114 {z : zrpS_7} (hc : crpS_7_0 z) : arpS_7_0 z 12 33732 (qrpS_7_0 z 33732 [(8, .ptr 7 0)]) (HrpS_7_0 z [3]) := by
  refine any_next [0, 3] (by kernel_rfl) (by decide) fun i hi => ?_
  rcases two2 hi with rfl | rfl
  · exact any_one _ (v := vrpS_7_0 z 0) tabok_rpS horpS_7_0 (trivial) (by kernel_rfl) (by kernel_rfl) (by kernel_rfl) (anrpS_7_84 hc)
  · exact any_one _ (v := vrpS_7_0 z 3) tabok_rpS horpS_7_3 (trivial) (by kernel_rfl) (by kernel_rfl) (by kernel_rfl) (anrpS_7_104 hc)
theorem anrpS_7_115 {z : zrpS_7} (hc : crpS_7_0 z) : arpS_7_0 z 13 964 (qrpS_7_0 z 964 []) (HrpS_7_0 z []) := by
  refine any_next [0, 3, 15] (by kernel_rfl) (by decide) fun i hi => ?_
  rcases two3 hi with rfl | rfl | rfl
  · exact any_one _ (v := vrpS_7_0 z 0) tabok_rpS horpS_7_0 (trivial) (by kernel_rfl) (by kernel_rfl) (by kernel_rfl) (anrpS_7_85 hc)
  · exact any_one _ (v := vrpS_7_0 z 3) tabok_rpS horpS_7_3 (trivial) (by kernel_rfl) (by kernel_rfl) (by kernel_rfl) (anrpS_7_105 hc)
  · exact any_one _ (v := .ptr 7 0) tabok_rpS horpS_7_15 (trivial) (by kernel_rfl) (by kernel_rfl) (by kernel_rfl) (anrpS_7_114 hc)
theorem anrpS_7_116 {z : zrpS_7} (hc : crpS_7_0 z) : arpS_7_0 z 13 33220 (qrpS_7_0 z 33220 [(8, .ptr 7 0)]) (HrpS_7_0 z [3]) := by
  refine any_next [0, 3, 9] (by kernel_rfl) (by decide) fun i hi => ?_
  rcases two3 hi with rfl | rfl | rfl
  · exact any_one _ (v := vrpS_7_0 z 0) tabok_rpS horpS_7_0 (trivial) (by kernel_rfl) (by kernel_rfl) (by kernel_rfl) (anrpS_7_86 hc)
  · exact any_one _ (v := vrpS_7_0 z 3) tabok_rpS horpS_7_3 (trivial) (by kernel_rfl) (by kernel_rfl) (by kernel_rfl) (anrpS_7_106 hc)
  · exact any_one _ (v := vrpS_7_0 z 9) tabok_rpS horpS_7_9 (trivial) (by
      refine Eq.trans (b := (match (yrpS_73 z)[0]? with | some e66 => some ((.fl .f32 e66), [.at (yrpS_72 z) (.fl .f32 (yrpS_73 z)), .at (yrpS_74 z) (.fl .f32 (yrpS_75 z)), .at true (.as 1 [.sl 0 0 (yrpS_76 z), .sl 1 0 (yrpS_77 z)]), .at true (.as 1 [.nil, .nil]), .at true (.as 1 [.sl 5 0 (yrpS_78 z), .sl 6 0 (yrpS_79 z)]), .at true (.fl .f32 (yrpS_710 z)), .at true (.fl .f32 (yrpS_711 z)), .at true (.as 1 [.nil, .nil])]) | none => none)) (by kernel_rfl) ?_
      rw [someD (hc.2.2.2.1)]
      try rfl) (by kernel_rfl) (by kernel_rfl) (anrpS_7_114 hc)
theorem anrpS_7_117 {z : zrpS_7} (hc : crpS_7_0 z) : arpS_7_0 z 14 452 (qrpS_7_0 z 452 []) (HrpS_7_0 z []) := by
  refine any_next [0, 3, 9, 15] (by kernel_rfl) (by decide) fun i hi => ?_
  rcases two4 hi with rfl | rfl | rfl | rfl
  · exact any_one _ (v := vrpS_7_0 z 0) tabok_rpS horpS_7_0 (trivial) (by kernel_rfl) (by kernel_rfl) (by kernel_rfl) (anrpS_7_87 hc)
  · exact any_one _ (v := vrpS_7_0 z 3) tabok_rpS horpS_7_3 (trivial) (by kernel_rfl) (by kernel_rfl) (by kernel_rfl) (anrpS_7_107 hc)
  · exact any_one _ (v := vrpS_7_0 z 9) tabok_rpS horpS_7_9 (trivial) (by
      refine Eq.trans (b := (match (yrpS_73 z)[0]? with | some e64 => some ((.fl .f32 e64), [.at (yrpS_72 z) (.fl .f32 (yrpS_73 z)), .at (yrpS_74 z) (.fl .f32 (yrpS_75 z)), .at true (.as 1 [.sl 0 0 (yrpS_76 z), .sl 1 0 (yrpS_77 z)]), .at true (.as 1 [.nil, .nil]), .at true (.as 1 [.sl 5 0 (yrpS_78 z), .sl 6 0 (yrpS_79 z)]), .at true (.fl .f32 (yrpS_710 z)), .at true (.fl .f32 (yrpS_711 z))]) | none => none)) (by kernel_rfl) ?_
      rw [someD (hc.2.2.2.1)]
      try rfl) (by kernel_rfl) (by kernel_rfl) (anrpS_7_115 hc)
  · exact any_one _ (v := .ptr 7 0) tabok_rpS horpS_7_15 (trivial) (by kernel_rfl) (by kernel_rfl) (by kernel_rfl) (anrpS_7_116 hc)
theorem anrpS_7_118 {z : zrpS_7} (hc : crpS_7_0 z) : arpS_7_0 z 14 32964 (qrpS_7_0 z 32964 [(8, .ptr 7 0)]) (HrpS_7_0 z [3]) := by
  refine any_next [0, 3, 8] (by kernel_rfl) (by decide) fun i hi => ?_
  rcases two3 hi with rfl | rfl | rfl
  · exact any_one _ (v := vrpS_7_0 z 0) tabok_rpS horpS_7_0 (trivial) (by kernel_rfl) (by kernel_rfl) (by kernel_rfl) (anrpS_7_88 hc)
  · exact any_one _ (v := vrpS_7_0 z 3) tabok_rpS horpS_7_3 (trivial) (by kernel_rfl) (by kernel_rfl) (by kernel_rfl) (anrpS_7_108 hc)
  · exact any_one _ (v := vrpS_7_0 z 8) tabok_rpS horpS_7_8 (trivial) (by
      refine Eq.trans (b := (match decide (0 ≤ (0 : Int) ∧ (0 : Int) < (((yrpS_76 z) : Nat) : Int)) with | true => some ((.ptr 0 0), [.at (yrpS_72 z) (.fl .f32 (yrpS_73 z)), .at (yrpS_74 z) (.fl .f32 (yrpS_75 z)), .at true (.as 1 [.sl 0 0 (yrpS_76 z), .sl 1 0 (yrpS_77 z)]), .at true (.as 1 [.nil, .nil]), .at true (.as 1 [.sl 5 0 (yrpS_78 z), .sl 6 0 (yrpS_79 z)]), .at true (.fl .f32 (yrpS_710 z)), .at true (.fl .f32 (yrpS_711 z)), .at true (.as 1 [.nil, .nil])]) | false => none)) (by kernel_rfl) ?_
      rw [hc.2.2.1]
      try rfl) (by kernel_rfl) (by kernel_rfl) (anrpS_7_116 hc)
theorem anrpS_7_119 {z : zrpS_7} (hc : crpS_7_0 z) : arpS_7_0 z 15 196 (qrpS_7_0 z 196 []) (HrpS_7_0 z []) := by
  refine any_next [0, 3, 8, 15] (by kernel_rfl) (by decide) fun i hi => ?_
  rcases two4 hi with rfl | rfl | rfl | rfl
  · exact any_one _ (v := vrpS_7_0 z 0) tabok_rpS horpS_7_0 (trivial) (by kernel_rfl) (by kernel_rfl) (by kernel_rfl) (anrpS_7_89 hc)
  · exact any_one _ (v := vrpS_7_0 z 3) tabok_rpS horpS_7_3 (trivial) (by kernel_rfl) (by kernel_rfl) (by kernel_rfl) (anrpS_7_109 hc)
  · exact any_one _ (v := vrpS_7_0 z 8) tabok_rpS horpS_7_8 (trivial) (by
      refine Eq.trans (b := (match decide (0 ≤ (0 : Int) ∧ (0 : Int) < (((yrpS_76 z) : Nat) : Int)) with | true => some ((.ptr 0 0), [.at (yrpS_72 z) (.fl .f32 (yrpS_73 z)), .at (yrpS_74 z) (.fl .f32 (yrpS_75 z)), .at true (.as 1 [.sl 0 0 (yrpS_76 z), .sl 1 0 (yrpS_77 z)]), .at true (.as 1 [.nil, .nil]), .at true (.as 1 [.sl 5 0 (yrpS_78 z), .sl 6 0 (yrpS_79 z)]), .at true (.fl .f32 (yrpS_710 z)), .at true (.fl .f32 (yrpS_711 z))]) | false => none)) (by kernel_rfl) ?_
      rw [hc.2.2.1]
      try rfl) (by kernel_rfl) (by kernel_rfl) (anrpS_7_117 hc)
  · exact any_one _ (v := .ptr 7 0) tabok_rpS horpS_7_15 (trivial) (by kernel_rfl) (by kernel_rfl) (by kernel_rfl) (anrpS_7_118 hc)
theorem anrpS_7_120 {z : zrpS_7} (hc : crpS_7_0 z) : arpS_7_0 z 15 32836 (qrpS_7_0 z 32836 [(8, .ptr 7 0)]) (HrpS_7_0 z [3]) := by
  refine any_next [0, 3, 7] (by kernel_rfl) (by decide) fun i hi => ?_
  rcases two3 hi with rfl | rfl | rfl
  · exact any_one _ (v := vrpS_7_0 z 0) tabok_rpS horpS_7_0 (trivial) (by kernel_rfl) (by kernel_rfl) (by kernel_rfl) (anrpS_7_90 hc)
  · exact any_one _ (v := vrpS_7_0 z 3) tabok_rpS horpS_7_3 (trivial) (by kernel_rfl) (by kernel_rfl) (by kernel_rfl) (anrpS_7_110 hc)
  · exact any_one _ (v := vrpS_7_0 z 7) tabok_rpS horpS_7_7 (trivial) (by kernel_rfl) (by kernel_rfl) (by kernel_rfl) (anrpS_7_118 hc)
theorem anrpS_7_121 {z : zrpS_7} (hc : crpS_7_0 z) : arpS_7_0 z 16 68 (qrpS_7_0 z 68 []) (HrpS_7_0 z []) := by
  refine any_next [0, 3, 7, 15] (by kernel_rfl) (by decide) fun i hi => ?_
  rcases two4 hi with rfl | rfl | rfl | rfl
  · exact any_one _ (v := vrpS_7_0 z 0) tabok_rpS horpS_7_0 (trivial) (by kernel_rfl) (by kernel_rfl) (by kernel_rfl) (anrpS_7_91 hc)
  · exact any_one _ (v := vrpS_7_0 z 3) tabok_rpS horpS_7_3 (trivial) (by kernel_rfl) (by kernel_rfl) (by kernel_rfl) (anrpS_7_111 hc)
  · exact any_one _ (v := vrpS_7_0 z 7) tabok_rpS horpS_7_7 (trivial) (by kernel_rfl) (by kernel_rfl) (by kernel_rfl) (anrpS_7_119 hc)
  · exact any_one _ (v := .ptr 7 0) tabok_rpS horpS_7_15 (trivial) (by kernel_rfl) (by kernel_rfl) (by kernel_rfl) (anrpS_7_120 hc)
theorem anrpS_7_122 {z : zrpS_7} (hc : crpS_7_0 z) : arpS_7_0 z 16 32772 (qrpS_7_0 z 32772 [(8, .ptr 7 0)]) (HrpS_7_0 z [3]) := by
  refine any_next [0, 3, 6] (by kernel_rfl) (by decide) fun i hi => ?_
  rcases two3 hi with rfl | rfl | rfl
  · exact any_one _ (v := vrpS_7_0 z 0) tabok_rpS horpS_7_0 (trivial) (by kernel_rfl) (by kernel_rfl) (by kernel_rfl) (anrpS_7_92 hc)
  · exact any_one _ (v := vrpS_7_0 z 3) tabok_rpS horpS_7_3 (trivial) (by kernel_rfl) (by kernel_rfl) (by kernel_rfl) (anrpS_7_112 hc)
  · exact any_one _ (v := vrpS_7_0 z 6) tabok_rpS horpS_7_6 (trivial) (by kernel_rfl) (by kernel_rfl) (by kernel_rfl) (anrpS_7_120 hc)
theorem anrpS_7_123 {z : zrpS_7} (hc : crpS_7_0 z) : arpS_7_0 z 17 4 (qrpS_7_0 z 4 []) (HrpS_7_0 z []) := by
  refine any_next [0, 3, 6, 15] (by kernel_rfl) (by decide) fun i hi => ?_
  rcases two4 hi with rfl | rfl | rfl | rfl
  · exact any_one _ (v := vrpS_7_0 z 0) tabok_rpS horpS_7_0 (trivial) (by kernel_rfl) (by kernel_rfl) (by kernel_rfl) (anrpS_7_93 hc)
  · exact any_one _ (v := vrpS_7_0 z 3) tabok_rpS horpS_7_3 (trivial) (by kernel_rfl) (by kernel_rfl) (by kernel_rfl) (anrpS_7_113 hc)
  · exact any_one _ (v := vrpS_7_0 z 6) tabok_rpS horpS_7_6 (trivial) (by kernel_rfl) (by kernel_rfl) (by kernel_rfl) (anrpS_7_121 hc)
  · exact any_one _ (v := .ptr 7 0) tabok_rpS horpS_7_15 (trivial) (by kernel_rfl) (by kernel_rfl) (by kernel_rfl) (anrpS_7_122 hc)
theorem anrpS_7_124 {z : zrpS_7} (hc : crpS_7_0 z) : arpS_7_0 z 13 33728 (qrpS_7_0 z 33728 [(8, .ptr 7 0)]) (HrpS_7_0 z [3]) := by
  refine any_next [0, 2] (by kernel_rfl) (by decide) fun i hi => ?_
  rcases two2 hi with rfl | rfl
  · exact any_one _ (v := vrpS_7_0 z 0) tabok_rpS horpS_7_0 (trivial) (by kernel_rfl) (by kernel_rfl) (by kernel_rfl) (anrpS_7_94 hc)
  · exact any_one _ (v := vrpS_7_0 z 2) tabok_rpS horpS_7_2 (trivial) (by kernel_rfl) (by kernel_rfl) (by kernel_rfl) (anrpS_7_114 hc)
theorem anrpS_7_125 {z : zrpS_7} (hc : crpS_7_0 z) : arpS_7_0 z 14 960 (qrpS_7_0 z 960 []) (HrpS_7_0 z []) := by
  refine any_next [0, 2, 15] (by kernel_rfl) (by decide) fun i hi => ?_
  rcases two3 hi with rfl | rfl | rfl
  · exact any_one _ (v := vrpS_7_0 z 0) tabok_rpS horpS_7_0 (trivial) (by kernel_rfl) (by kernel_rfl) (by kernel_rfl) (anrpS_7_95 hc)
  · exact any_one _ (v := vrpS_7_0 z 2) tabok_rpS horpS_7_2 (trivial) (by kernel_rfl) (by kernel_rfl) (by kernel_rfl) (anrpS_7_115 hc)
  · exact any_one _ (v := .ptr 7 0) tabok_rpS horpS_7_15 (trivial) (by kernel_rfl) (by kernel_rfl) (by kernel_rfl) (anrpS_7_124 hc)
theorem anrpS_7_126 {z : zrpS_7} (hc : crpS_7_0 z) : arpS_7_0 z 14 33216 (qrpS_7_0 z 33216 [(8, .ptr 7 0)]) (HrpS_7_0 z [3]) := by
  refine any_next [0, 2, 9] (by kernel_rfl) (by decide) fun i hi => ?_
  rcases two3 hi with rfl | rfl | rfl
  · exact any_one _ (v := vrpS_7_0 z 0) tabok_rpS horpS_7_0 (trivial) (by kernel_rfl) (by kernel_rfl) (by kernel_rfl) (anrpS_7_96 hc)
  · exact any_one _ (v := vrpS_7_0 z 2) tabok_rpS horpS_7_2 (trivial) (by kernel_rfl) (by kernel_rfl) (by kernel_rfl) (anrpS_7_116 hc)
  · exact any_one _ (v := vrpS_7_0 z 9) tabok_rpS horpS_7_9 (trivial) (by
      refine Eq.trans (b := (match (yrpS_73 z)[0]? with | some e70 => some ((.fl .f32 e70), [.at (yrpS_72 z) (.fl .f32 (yrpS_73 z)), .at (yrpS_74 z) (.fl .f32 (yrpS_75 z)), .at true (.as 1 [.sl 0 0 (yrpS_76 z), .sl 1 0 (yrpS_77 z)]), .at true (.as 1 [.nil, .nil]), .at true (.as 1 [.sl 5 0 (yrpS_78 z), .sl 6 0 (yrpS_79 z)]), .at true (.fl .f32 (yrpS_710 z)), .at true (.fl .f32 (yrpS_711 z)), .at true (.as 1 [.nil, .nil])]) | none => none)) (by kernel_rfl) ?_
      rw [someD (hc.2.2.2.1)]
      try rfl) (by kernel_rfl) (by kernel_rfl) (anrpS_7_124 hc)
theorem anrpS_7_127 {z : zrpS_7} (hc : crpS_7_0 z) : arpS_7_0 z 15 448 (qrpS_7_0 z 448 []) (HrpS_7_0 z []) := by
  refine any_next [0, 2, 9, 15] (by kernel_rfl) (by decide) fun i hi => ?_
  rcases two4 hi with rfl | rfl | rfl | rfl
  · exact any_one _ (v := vrpS_7_0 z 0) tabok_rpS horpS_7_0 (trivial) (by kernel_rfl) (by kernel_rfl) (by kernel_rfl) (anrpS_7_97 hc)
  · exact any_one _ (v := vrpS_7_0 z 2) tabok_rpS horpS_7_2 (trivial) (by kernel_rfl) (by kernel_rfl) (by kernel_rfl) (anrpS_7_117 hc)
  · exact any_one _ (v := vrpS_7_0 z 9) tabok_rpS horpS_7_9 (trivial) (by
      refine Eq.trans (b := (match (yrpS_73 z)[0]? with | some e68 => some ((.fl .f32 e68), [.at (yrpS_72 z) (.fl .f32 (yrpS_73 z)), .at (yrpS_74 z) (.fl .f32 (yrpS_75 z)), .at true (.as 1 [.sl 0 0 (yrpS_76 z), .sl 1 0 (yrpS_77 z)]), .at true (.as 1 [.nil, .nil]), .at true (.as 1 [.sl 5 0 (yrpS_78 z), .sl 6 0 (yrpS_79 z)]), .at true (.fl .f32 (yrpS_710 z)), .at true (.fl .f32 (yrpS_711 z))]) | none => none)) (by kernel_rfl) ?_
      rw [someD (hc.2.2.2.1)]
      try rfl) (by kernel_rfl) (by kernel_rfl) (anrpS_7_125 hc)
  · exact any_one _ (v := .ptr 7 0) tabok_rpS horpS_7_15 (trivial) (by kernel_rfl) (by kernel_rfl) (by kernel_rfl) (anrpS_7_126 hc)
theorem anrpS_7_128 {z : zrpS_7} (hc : crpS_7_0 z) : arpS_7_0 z 15 32960 (qrpS_7_0 z 32960 [(8, .ptr 7 0)]) (HrpS_7_0 z [3]) := by
  refine any_next [0, 2, 8] (by kernel_rfl) (by decide) fun i hi => ?_
  rcases two3 hi with rfl | rfl | rfl
  · exact any_one _ (v := vrpS_7_0 z 0) tabok_rpS horpS_7_0 (trivial) (by kernel_rfl) (by kernel_rfl) (by kernel_rfl) (anrpS_7_98 hc)
  · exact any_one _ (v := vrpS_7_0 z 2) tabok_rpS horpS_7_2 (trivial) (by kernel_rfl) (by kernel_rfl) (by kernel_rfl) (anrpS_7_118 hc)
  · exact any_one _ (v := vrpS_7_0 z 8) tabok_rpS horpS_7_8 (trivial) (by
      refine Eq.trans (b := (match decide (0 ≤ (0 : Int) ∧ (0 : Int) < (((yrpS_76 z) : Nat) : Int)) with | true => some ((.ptr 0 0), [.at (yrpS_72 z) (.fl .f32 (yrpS_73 z)), .at (yrpS_74 z) (.fl .f32 (yrpS_75 z)), .at true (.as 1 [.sl 0 0 (yrpS_76 z), .sl 1 0 (yrpS_77 z)]), .at true (.as 1 [.nil, .nil]), .at true (.as 1 [.sl 5 0 (yrpS_78 z), .sl 6 0 (yrpS_79 z)]), .at true (.fl .f32 (yrpS_710 z)), .at true (.fl .f32 (yrpS_711 z)), .at true (.as 1 [.nil, .nil])]) | false => none)) (by kernel_rfl) ?_
      rw [hc.2.2.1]
      try rfl) (by kernel_rfl) (by kernel_rfl) (anrpS_7_126 hc)
theorem anrpS_7_129 {z : zrpS_7} (hc : crpS_7_0 z) : arpS_7_0 z 16 192 (qrpS_7_0 z 192 []) (HrpS_7_0 z []) := by
  refine any_next [0, 2, 8, 15] (by kernel_rfl) (by decide) fun i hi => ?_
  rcases two4 hi with rfl | rfl | rfl | rfl
  · exact any_one _ (v := vrpS_7_0 z 0) tabok_rpS horpS_7_0 (trivial) (by kernel_rfl) (by kernel_rfl) (by kernel_rfl) (anrpS_7_99 hc)
  · exact any_one _ (v := vrpS_7_0 z 2) tabok_rpS horpS_7_2 (trivial) (by kernel_rfl) (by kernel_rfl) (by kernel_rfl) (anrpS_7_119 hc)
  · exact any_one _ (v := vrpS_7_0 z 8) tabok_rpS horpS_7_8 (trivial) (by
      refine Eq.trans (b := (match decide (0 ≤ (0 : Int) ∧ (0 : Int) < (((yrpS_76 z) : Nat) : Int)) with | true => some ((.ptr 0 0), [.at (yrpS_72 z) (.fl .f32 (yrpS_73 z)), .at (yrpS_74 z) (.fl .f32 (yrpS_75 z)), .at true (.as 1 [.sl 0 0 (yrpS_76 z), .sl 1 0 (yrpS_77 z)]), .at true (.as 1 [.nil, .nil]), .at true (.as 1 [.sl 5 0 (yrpS_78 z), .sl 6 0 (yrpS_79 z)]), .at true (.fl .f32 (yrpS_710 z)), .at true (.fl .f32 (yrpS_711 z))]) | false => none)) (by kernel_rfl) ?_
      rw [hc.2.2.1]
      try rfl) (by kernel_rfl) (by kernel_rfl) (anrpS_7_127 hc)
  · exact any_one _ (v := .ptr 7 0) tabok_rpS horpS_7_15 (trivial) (by kernel_rfl) (by kernel_rfl) (by kernel_rfl) (anrpS_7_128 hc)
theorem anrpS_7_130 {z : zrpS_7} (hc : crpS_7_0 z) : arpS_7_0 z 16 32832 (qrpS_7_0 z 32832 [(8, .ptr 7 0)]) (HrpS_7_0 z [3]) := by
  refine any_next [0, 2, 7] (by kernel_rfl) (by decide) fun i hi => ?_
  rcases two3 hi with rfl | rfl | rfl
  · exact any_one _ (v := vrpS_7_0 z 0) tabok_rpS horpS_7_0 (trivial) (by kernel_rfl) (by kernel_rfl) (by kernel_rfl) (anrpS_7_100 hc)
  · exact any_one _ (v := vrpS_7_0 z 2) tabok_rpS horpS_7_2 (trivial) (by kernel_rfl) (by kernel_rfl) (by kernel_rfl) (anrpS_7_120 hc)
  · exact any_one _ (v := vrpS_7_0 z 7) tabok_rpS horpS_7_7 (trivial) (by kernel_rfl) (by kernel_rfl) (by kernel_rfl) (anrpS_7_128 hc)
theorem anrpS_7_131 {z : zrpS_7} (hc : crpS_7_0 z) : arpS_7_0 z 17 64 (qrpS_7_0 z 64 []) (HrpS_7_0 z []) := by
  refine any_next [0, 2, 7, 15] (by kernel_rfl) (by decide) fun i hi => ?_
  rcases two4 hi with rfl | rfl | rfl | rfl
  · exact any_one _ (v := vrpS_7_0 z 0) tabok_rpS horpS_7_0 (trivial) (by kernel_rfl) (by kernel_rfl) (by kernel_rfl) (anrpS_7_101 hc)
  · exact any_one _ (v := vrpS_7_0 z 2) tabok_rpS horpS_7_2 (trivial) (by kernel_rfl) (by kernel_rfl) (by kernel_rfl) (anrpS_7_121 hc)
  · exact any_one _ (v := vrpS_7_0 z 7) tabok_rpS horpS_7_7 (trivial) (by kernel_rfl) (by kernel_rfl) (by kernel_rfl) (anrpS_7_129 hc)
  · exact any_one _ (v := .ptr 7 0) tabok_rpS horpS_7_15 (trivial) (by kernel_rfl) (by kernel_rfl) (by kernel_rfl) (anrpS_7_130 hc)
theorem anrpS_7_132 {z : zrpS_7} (hc : crpS_7_0 z) : arpS_7_0 z 17 32768 (qrpS_7_0 z 32768 [(8, .ptr 7 0)]) (HrpS_7_0 z [3]) := by
  refine any_next [0, 2, 6] (by kernel_rfl) (by decide) fun i hi => ?_
  rcases two3 hi with rfl | rfl | rfl
  · exact any_one _ (v := vrpS_7_0 z 0) tabok_rpS horpS_7_0 (trivial) (by kernel_rfl) (by kernel_rfl) (by kernel_rfl) (anrpS_7_102 hc)
  · exact any_one _ (v := vrpS_7_0 z 2) tabok_rpS horpS_7_2 (trivial) (by kernel_rfl) (by kernel_rfl) (by kernel_rfl) (anrpS_7_122 hc)
  · exact any_one _ (v := vrpS_7_0 z 6) tabok_rpS horpS_7_6 (trivial) (by kernel_rfl) (by kernel_rfl) (by kernel_rfl) (anrpS_7_130 hc)
theorem anrpS_7_133 {z : zrpS_7} (hc : crpS_7_0 z) : arpS_7_0 z 18 0 (qrpS_7_0 z 0 []) (HrpS_7_0 z []) := by
  refine any_next [0, 2, 6, 15] (by kernel_rfl) (by decide) fun i hi => ?_
  rcases two4 hi with rfl | rfl | rfl | rfl
  · exact any_one _ (v := vrpS_7_0 z 0) tabok_rpS horpS_7_0 (trivial) (by kernel_rfl) (by kernel_rfl) (by kernel_rfl) (anrpS_7_103 hc)
  · exact any_one _ (v := vrpS_7_0 z 2) tabok_rpS horpS_7_2 (trivial) (by kernel_rfl) (by kernel_rfl) (by kernel_rfl) (anrpS_7_123 hc)
  · exact any_one _ (v := vrpS_7_0 z 6) tabok_rpS horpS_7_6 (trivial) (by kernel_rfl) (by kernel_rfl) (by kernel_rfl) (anrpS_7_131 hc)
  · exact any_one _ (v := .ptr 7 0) tabok_rpS horpS_7_15 (trivial) (by kernel_rfl) (by kernel_rfl) (by kernel_rfl) (anrpS_7_132 hc)
theorem tolrpS_7_0 (z0 : Int) (z3 : Int) (z5 : Bool) (z6 : List Nat) (z7 : Bool) (z8 : List Nat) (z10 : Nat) (z12 : Nat) (z14 : Nat) (z16 : Nat) (z17 : List Nat) (z18 : List Nat) (hc : crpS_7_0 (z0, z3, z5, z6, z7, z8, z10, z12, z14, z16, z17, z18)) {st : St} (hl : st.t.length = 61) (et : viewT [1, 2, 4, 6, 7] 61 st.t = (.any :: .int .i64 z0 :: .ptr 2 0 :: .any :: .ptr 3 0 :: .any :: .int .i64 z3 :: .ptr 4 0 :: (anys 53 []))) (eh : st.h = [.at z5 (.fl .f32 z6), .at z7 (.fl .f32 z8), .at true (.as 1 [.sl 0 0 z10, .sl 1 0 z12]), .at true (.as 1 [.nil, .nil]), .at true (.as 1 [.sl 5 0 z14, .sl 6 0 z16]), .at true (.fl .f32 z17), .at true (.fl .f32 z18)]) {μ0 : Mu} {h0 : H} {w0 : World} {Q : Exit → Act → World → Prop} (hQ : ∀ μ a w, Inv μ0 h0 w0 μ (⟨(.any :: .int .i64 z0 :: .ptr 2 0 :: .any :: .ptr 3 0 :: .any :: .int .i64 z3 :: .ptr 4 0 :: .ptr 7 0 :: .bool true :: (anys 51 [])), [.at z5 (.fl .f32 z6), .at z7 (.fl .f32 z8), .at true (.as 1 [.sl 0 0 z10, .sl 1 0 z12]), .at true (.as 1 [.nil, .nil]), .at true (.as 1 [.sl 5 0 z14, .sl 6 0 z16]), .at true (.fl .f32 z17), .at true (.fl .f32 z18), .at true (.as 1 [.sl 8 0 ((jE z17 z6 (fop .sub .f32 ((z6[0 + (IntKind.i64.wrap (z3 - 1)).toNat * 1]?).getD 0) ((z6[0]?).getD 0))).length), .sl 9 0 ((jM z18 z8).length)]), .at true (.fl .f32 (jE z17 z6 (fop .sub .f32 ((z6[0 + (IntKind.i64.wrap (z3 - 1)).toNat * 1]?).getD 0) ((z6[0]?).getD 0)))), .at true (.fl .f32 (jM z18 z8))]⟩ : St) a w → Q .normal a w) {μ : Mu} {a : Act} {w : World} (hi : Inv μ0 h0 w0 μ st a w) : (Code.region 7 opsrpS_7 true).wp Try.prog Q a w :=
  told (L0 := bitsA 18 0) (T0 := qrpS_7_0 (z0, z3, z5, z6, z7, z8, z10, z12, z14, z16, z17, z18) 0 []) (H0 := HrpS_7_0 (z0, z3, z5, z6, z7, z8, z10, z12, z14, z16, z17, z18) []) [1, 2, 4, 6, 7, 8, 9] mixed (by kernel_rfl : opsrpS_7.size = 18) (by kernel_rfl) hl (et.trans (by kernel_rfl)) (eh.trans (by kernel_rfl)) rfl (anrpS_7_133 hc) hQ hi
def vrpS_7_1 (z : zrpS_7) : Nat → V
  | 0 => .ptr 2 0
  | 1 => .sl 0 0 (yrpS_76 z)
  | 2 => .int .i64 (yrpS_71 z)
  | 3 => .int .i64 (IntKind.i64.wrap ((yrpS_71 z) - 1))
  | 4 => .ptr 0 (0 + (IntKind.i64.wrap ((yrpS_71 z) - 1)).toNat * 1)
  | 5 => .fl .f32 (((yrpS_73 z)[0 + (IntKind.i64.wrap ((yrpS_71 z) - 1)).toNat * 1]?).getD 0)
  | 6 => .ptr 2 0
  | 7 => .sl 0 0 (yrpS_76 z)
  | 8 => .ptr 0 0
  | 9 => .fl .f32 (((yrpS_73 z)[0]?).getD 0)
  | 10 => .fl .f32 (fop .sub .f32 (((yrpS_73 z)[0 + (IntKind.i64.wrap ((yrpS_71 z) - 1)).toNat * 1]?).getD 0) (((yrpS_73 z)[0]?).getD 0))
  | 11 => .tup [.g [.nil, .nil], .a (.bool false)]
  | 12 => .tup [.g [.nil, .nil], .a (.bool false)]
  | 13 => .g [.nil, .nil]
  | 14 => .bool false
  | 15 => .ptr 7 0
  | 16 => V.no
  | 17 => .bool false
  | _ => .any
def qrpS_7_1 (z : zrpS_7) (k : Nat) (l : List (Nat × V)) : List V := setsA l (setsA (selA k [(0, 42), (1, 43), (2, 44), (3, 45), (4, 46), (5, 47), (6, 48), (7, 49), (8, 50), (9, 51), (10, 52), (11, 53), (12, 41), (13, 54), (14, 55), (15, 8), (17, 9)] (vrpS_7_1 z)) (srpS_7 z))
def crpS_7_1 (z : zrpS_7) : Prop := (decide (0 ≤ (IntKind.i64.wrap ((yrpS_71 z) - 1) : Int) ∧ (IntKind.i64.wrap ((yrpS_71 z) - 1) : Int) < (((yrpS_76 z) : Nat) : Int))) = true ∧ (((yrpS_73 z)[0 + (IntKind.i64.wrap ((yrpS_71 z) - 1)).toNat * 1]?).isSome) = true ∧ (decide (0 ≤ (0 : Int) ∧ (0 : Int) < (((yrpS_76 z) : Nat) : Int))) = true ∧ (((yrpS_73 z)[0]?).isSome) = true ∧ (decide ((yrpS_710 z).length = (yrpS_78 z) ∧ (yrpS_711 z).length = (yrpS_79 z) ∧ (yrpS_73 z).length = (yrpS_76 z) ∧ (yrpS_75 z).length = (yrpS_77 z))) = true ∧ (jPre (yrpS_710 z) (yrpS_711 z) (yrpS_73 z) (yrpS_75 z)) = true ∧ (jOk (yrpS_710 z) (yrpS_711 z) (yrpS_73 z) (yrpS_75 z) (fop .sub .f32 (((yrpS_73 z)[0 + (IntKind.i64.wrap ((yrpS_71 z) - 1)).toNat * 1]?).getD 0) (((yrpS_73 z)[0]?).getD 0))) = false
abbrev arpS_7_1 (z : zrpS_7) (m k : Nat) (t : List V) (h : H) : Prop := AnyRun Try.prog opsrpS_7 (FinTo [1, 2, 4, 6, 7, 8, 9] 7 (⟨(.any :: .int .i64 (yrpS_70 z) :: .ptr 2 0 :: .any :: .ptr 3 0 :: .any :: .int .i64 (yrpS_71 z) :: .ptr 4 0 :: .ptr 7 0 :: .bool false :: (anys 51 [])), [.at (yrpS_72 z) (.fl .f32 (yrpS_73 z)), .at (yrpS_74 z) (.fl .f32 (yrpS_75 z)), .at true (.as 1 [.sl 0 0 (yrpS_76 z), .sl 1 0 (yrpS_77 z)]), .at true (.as 1 [.nil, .nil]), .at true (.as 1 [.sl 5 0 (yrpS_78 z), .sl 6 0 (yrpS_79 z)]), .at true (.fl .f32 (yrpS_710 z)), .at true (.fl .f32 (yrpS_711 z)), .at true (.as 1 [.nil, .nil])]⟩ : St)) m (bitsA 18 k) t h
def brpS_7_1 (z : zrpS_7) : Nat → B
  | 0 => .at true (.as 1 [.nil, .nil])
  | _ => .gone
def HrpS_7_1 (z : zrpS_7) (l : List Nat) : H := hrpS_7 z ++ l.map (brpS_7_1 z)
theorem anrpS_7_134 {z : zrpS_7} (hc : crpS_7_1 z) : arpS_7_1 z 0 262143 (qrpS_7_1 z 262143 []) (HrpS_7_1 z [0]) := ⟨by kernel_rfl, [0, 1, 2, 3, 4, 5, 6, 7], by decide, by decide, by kernel_rfl, by kernel_rfl⟩
theorem anrpS_7_135 {z : zrpS_7} (hc : crpS_7_1 z) : arpS_7_1 z 1 131071 (qrpS_7_1 z 131071 []) (HrpS_7_1 z [0]) := by
  refine any_next [17] (by kernel_rfl) (by decide) fun i hi => ?_
  obtain rfl := two1 hi
  · exact any_one _ (v := vrpS_7_1 z 17) tabok_rpS horpS_7_17 (trivial) (by kernel_rfl) (by kernel_rfl) (by kernel_rfl) (anrpS_7_134 hc)
theorem anrpS_7_136 {z : zrpS_7} (hc : crpS_7_1 z) : arpS_7_1 z 2 65535 (qrpS_7_1 z 65535 []) (HrpS_7_1 z [0]) := by
  refine any_next [16] (by kernel_rfl) (by decide) fun i hi => ?_
  obtain rfl := two1 hi
  · exact any_one _ (v := vrpS_7_1 z 16) tabok_rpS horpS_7_16 (trivial) (by kernel_rfl) (by kernel_rfl) (by kernel_rfl) (anrpS_7_135 hc)
theorem anrpS_7_137 {z : zrpS_7} (hc : crpS_7_1 z) : arpS_7_1 z 3 32767 (qrpS_7_1 z 32767 []) (HrpS_7_1 z []) := by
  refine any_next [15] (by kernel_rfl) (by decide) fun i hi => ?_
  obtain rfl := two1 hi
  · exact any_one _ (v := vrpS_7_1 z 15) tabok_rpS horpS_7_15 (trivial) (by kernel_rfl) (by kernel_rfl) (by kernel_rfl) (anrpS_7_136 hc)
theorem anrpS_7_138 {z : zrpS_7} (hc : crpS_7_1 z) : arpS_7_1 z 2 114687 (qrpS_7_1 z 114687 []) (HrpS_7_1 z [0]) := by
  refine any_next [14] (by kernel_rfl) (by decide) fun i hi => ?_
  obtain rfl := two1 hi
  · exact any_one _ (v := vrpS_7_1 z 14) tabok_rpS horpS_7_14 (trivial) (by kernel_rfl) (by kernel_rfl) (by kernel_rfl) (anrpS_7_135 hc)
theorem anrpS_7_139 {z : zrpS_7} (hc : crpS_7_1 z) : arpS_7_1 z 3 49151 (qrpS_7_1 z 49151 []) (HrpS_7_1 z [0]) := by
  refine any_next [14, 16] (by kernel_rfl) (by decide) fun i hi => ?_
  rcases two2 hi with rfl | rfl
  · exact any_one _ (v := vrpS_7_1 z 14) tabok_rpS horpS_7_14 (trivial) (by kernel_rfl) (by kernel_rfl) (by kernel_rfl) (anrpS_7_136 hc)
  · exact any_one _ (v := vrpS_7_1 z 16) tabok_rpS horpS_7_16 (trivial) (by kernel_rfl) (by kernel_rfl) (by kernel_rfl) (anrpS_7_138 hc)
theorem anrpS_7_140 {z : zrpS_7} (hc : crpS_7_1 z) : arpS_7_1 z 4 16383 (qrpS_7_1 z 16383 []) (HrpS_7_1 z []) := by
  refine any_next [14, 15] (by kernel_rfl) (by decide) fun i hi => ?_
  rcases two2 hi with rfl | rfl
  · exact any_one _ (v := vrpS_7_1 z 14) tabok_rpS horpS_7_14 (trivial) (by kernel_rfl) (by kernel_rfl) (by kernel_rfl) (anrpS_7_137 hc)
  · exact any_one _ (v := vrpS_7_1 z 15) tabok_rpS horpS_7_15 (trivial) (by kernel_rfl) (by kernel_rfl) (by kernel_rfl) (anrpS_7_139 hc)
theorem anrpS_7_141 {z : zrpS_7} (hc : crpS_7_1 z) : arpS_7_1 z 3 57343 (qrpS_7_1 z 57343 []) (HrpS_7_1 z [0]) := by
  refine any_next [13] (by kernel_rfl) (by decide) fun i hi => ?_
  obtain rfl := two1 hi
  · exact any_one _ (v := vrpS_7_1 z 13) tabok_rpS horpS_7_13 (trivial) (by kernel_rfl) (by kernel_rfl) (by kernel_rfl) (anrpS_7_136 hc)
theorem anrpS_7_142 {z : zrpS_7} (hc : crpS_7_1 z) : arpS_7_1 z 4 24575 (qrpS_7_1 z 24575 []) (HrpS_7_1 z []) := by
  refine any_next [13, 15] (by kernel_rfl) (by decide) fun i hi => ?_
  rcases two2 hi with rfl | rfl
  · exact any_one _ (v := vrpS_7_1 z 13) tabok_rpS horpS_7_13 (trivial) (by kernel_rfl) (by kernel_rfl) (by kernel_rfl) (anrpS_7_137 hc)
  · exact any_one _ (v := vrpS_7_1 z 15) tabok_rpS horpS_7_15 (trivial) (by kernel_rfl) (by kernel_rfl) (by kernel_rfl) (anrpS_7_141 hc)
theorem anrpS_7_143 {z : zrpS_7} (hc : crpS_7_1 z) : arpS_7_1 z 4 40959 (qrpS_7_1 z 40959 []) (HrpS_7_1 z [0]) := by
  refine any_next [13, 14] (by kernel_rfl) (by decide) fun i hi => ?_
  rcases two2 hi with rfl | rfl
  · exact any_one _ (v := vrpS_7_1 z 13) tabok_rpS horpS_7_13 (trivial) (by kernel_rfl) (by kernel_rfl) (by kernel_rfl) (anrpS_7_139 hc)
  · exact any_one _ (v := vrpS_7_1 z 14) tabok_rpS horpS_7_14 (trivial) (by kernel_rfl) (by kernel_rfl) (by kernel_rfl) (anrpS_7_141 hc)
theorem anrpS_7_144 {z : zrpS_7} (hc : crpS_7_1 z) : arpS_7_1 z 5 8191 (qrpS_7_1 z 8191 []) (HrpS_7_1 z []) := by
  refine any_next [13, 14, 15] (by kernel_rfl) (by decide) fun i hi => ?_
  rcases two3 hi with rfl | rfl | rfl
  · exact any_one _ (v := vrpS_7_1 z 13) tabok_rpS horpS_7_13 (trivial) (by kernel_rfl) (by kernel_rfl) (by kernel_rfl) (anrpS_7_140 hc)
  · exact any_one _ (v := vrpS_7_1 z 14) tabok_rpS horpS_7_14 (trivial) (by kernel_rfl) (by kernel_rfl) (by kernel_rfl) (anrpS_7_142 hc)
  · exact any_one _ (v := vrpS_7_1 z 15) tabok_rpS horpS_7_15 (trivial) (by kernel_rfl) (by kernel_rfl) (by kernel_rfl) (anrpS_7_143 hc)
theorem anrpS_7_145 {z : zrpS_7} (hc : crpS_7_1 z) : arpS_7_1 z 5 36863 (qrpS_7_1 z 36863 []) (HrpS_7_1 z [0]) := by
  refine any_next [12] (by kernel_rfl) (by decide) fun i hi => ?_
  obtain rfl := two1 hi
  · exact any_one _ (v := vrpS_7_1 z 12) tabok_rpS horpS_7_12 (trivial) (by kernel_rfl) (by kernel_rfl) (by kernel_rfl) (anrpS_7_143 hc)
theorem anrpS_7_146 {z : zrpS_7} (hc : crpS_7_1 z) : arpS_7_1 z 6 4095 (qrpS_7_1 z 4095 []) (HrpS_7_1 z []) := by
  refine any_next [12, 15] (by kernel_rfl) (by decide) fun i hi => ?_
  rcases two2 hi with rfl | rfl
  · exact any_one _ (v := vrpS_7_1 z 12) tabok_rpS horpS_7_12 (trivial) (by kernel_rfl) (by kernel_rfl) (by kernel_rfl) (anrpS_7_144 hc)
  · exact any_one _ (v := vrpS_7_1 z 15) tabok_rpS horpS_7_15 (trivial) (by kernel_rfl) (by kernel_rfl) (by kernel_rfl) (anrpS_7_145 hc)
theorem anrpS_7_147 {z : zrpS_7} (hc : crpS_7_1 z) : arpS_7_1 z 6 34815 (qrpS_7_1 z 34815 []) (HrpS_7_1 z [0]) := by
  refine any_next [11] (by kernel_rfl) (by decide) fun i hi => ?_
  obtain rfl := two1 hi
  · exact any_one _ (v := vrpS_7_1 z 11) tabok_rpS horpS_7_11 (trivial) (by
      refine Eq.trans (b := (match decide ((yrpS_710 z).length = (yrpS_78 z) ∧ (yrpS_711 z).length = (yrpS_79 z) ∧ (yrpS_73 z).length = (yrpS_76 z) ∧ (yrpS_75 z).length = (yrpS_77 z)) with | true => (match jPre (yrpS_710 z) (yrpS_711 z) (yrpS_73 z) (yrpS_75 z) with | true => (match jOk (yrpS_710 z) (yrpS_711 z) (yrpS_73 z) (yrpS_75 z) (fop .sub .f32 (((yrpS_73 z)[0 + (IntKind.i64.wrap ((yrpS_71 z) - 1)).toNat * 1]?).getD 0) (((yrpS_73 z)[0]?).getD 0)) with | true => some ((.tup [.g [.sl 8 0 ((jE (yrpS_710 z) (yrpS_73 z) (fop .sub .f32 (((yrpS_73 z)[0 + (IntKind.i64.wrap ((yrpS_71 z) - 1)).toNat * 1]?).getD 0) (((yrpS_73 z)[0]?).getD 0))).length), .sl 9 0 ((jM (yrpS_711 z) (yrpS_75 z)).length)], .a (.bool true)]), [.at (yrpS_72 z) (.fl .f32 (yrpS_73 z)), .at (yrpS_74 z) (.fl .f32 (yrpS_75 z)), .at true (.as 1 [.sl 0 0 (yrpS_76 z), .sl 1 0 (yrpS_77 z)]), .at true (.as 1 [.nil, .nil]), .at true (.as 1 [.sl 5 0 (yrpS_78 z), .sl 6 0 (yrpS_79 z)]), .at true (.fl .f32 (yrpS_710 z)), .at true (.fl .f32 (yrpS_711 z)), .at true (.as 1 [.nil, .nil]), .at true (.fl .f32 (jE (yrpS_710 z) (yrpS_73 z) (fop .sub .f32 (((yrpS_73 z)[0 + (IntKind.i64.wrap ((yrpS_71 z) - 1)).toNat * 1]?).getD 0) (((yrpS_73 z)[0]?).getD 0)))), .at true (.fl .f32 (jM (yrpS_711 z) (yrpS_75 z)))]) | false => some ((.tup [.g [.nil, .nil], .a (.bool false)]), [.at (yrpS_72 z) (.fl .f32 (yrpS_73 z)), .at (yrpS_74 z) (.fl .f32 (yrpS_75 z)), .at true (.as 1 [.sl 0 0 (yrpS_76 z), .sl 1 0 (yrpS_77 z)]), .at true (.as 1 [.nil, .nil]), .at true (.as 1 [.sl 5 0 (yrpS_78 z), .sl 6 0 (yrpS_79 z)]), .at true (.fl .f32 (yrpS_710 z)), .at true (.fl .f32 (yrpS_711 z)), .at true (.as 1 [.nil, .nil])])) | false => none) | false => none)) (by kernel_rfl) ?_
      rw [hc.2.2.2.2.1, hc.2.2.2.2.2.1, hc.2.2.2.2.2.2]
      try rfl) (by kernel_rfl) (by kernel_rfl) (anrpS_7_145 hc)
theorem anrpS_7_148 {z : zrpS_7} (hc : crpS_7_1 z) : arpS_7_1 z 7 2047 (qrpS_7_1 z 2047 []) (HrpS_7_1 z []) := by
  refine any_next [11, 15] (by kernel_rfl) (by decide) fun i hi => ?_
  rcases two2 hi with rfl | rfl
  · exact any_one _ (v := vrpS_7_1 z 11) tabok_rpS horpS_7_11 (trivial) (by
      refine Eq.trans (b := (match decide ((yrpS_710 z).length = (yrpS_78 z) ∧ (yrpS_711 z).length = (yrpS_79 z) ∧ (yrpS_73 z).length = (yrpS_76 z) ∧ (yrpS_75 z).length = (yrpS_77 z)) with | true => (match jPre (yrpS_710 z) (yrpS_711 z) (yrpS_73 z) (yrpS_75 z) with | true => (match jOk (yrpS_710 z) (yrpS_711 z) (yrpS_73 z) (yrpS_75 z) (fop .sub .f32 (((yrpS_73 z)[0 + (IntKind.i64.wrap ((yrpS_71 z) - 1)).toNat * 1]?).getD 0) (((yrpS_73 z)[0]?).getD 0)) with | true => some ((.tup [.g [.sl 7 0 ((jE (yrpS_710 z) (yrpS_73 z) (fop .sub .f32 (((yrpS_73 z)[0 + (IntKind.i64.wrap ((yrpS_71 z) - 1)).toNat * 1]?).getD 0) (((yrpS_73 z)[0]?).getD 0))).length), .sl 8 0 ((jM (yrpS_711 z) (yrpS_75 z)).length)], .a (.bool true)]), [.at (yrpS_72 z) (.fl .f32 (yrpS_73 z)), .at (yrpS_74 z) (.fl .f32 (yrpS_75 z)), .at true (.as 1 [.sl 0 0 (yrpS_76 z), .sl 1 0 (yrpS_77 z)]), .at true (.as 1 [.nil, .nil]), .at true (.as 1 [.sl 5 0 (yrpS_78 z), .sl 6 0 (yrpS_79 z)]), .at true (.fl .f32 (yrpS_710 z)), .at true (.fl .f32 (yrpS_711 z)), .at true (.fl .f32 (jE (yrpS_710 z) (yrpS_73 z) (fop .sub .f32 (((yrpS_73 z)[0 + (IntKind.i64.wrap ((yrpS_71 z) - 1)).toNat * 1]?).getD 0) (((yrpS_73 z)[0]?).getD 0)))), .at true (.fl .f32 (jM (yrpS_711 z) (yrpS_75 z)))]) | false => some ((.tup [.g [.nil, .nil], .a (.bool false)]), [.at (yrpS_72 z) (.fl .f32 (yrpS_73 z)), .at (yrpS_74 z) (.fl .f32 (yrpS_75 z)), .at true (.as 1 [.sl 0 0 (yrpS_76 z), .sl 1 0 (yrpS_77 z)]), .at true (.as 1 [.nil, .nil]), .at true (.as 1 [.sl 5 0 (yrpS_78 z), .sl 6 0 (yrpS_79 z)]), .at true (.fl .f32 (yrpS_710 z)), .at true (.fl .f32 (yrpS_711 z))])) | false => none) | false => none)) (by kernel_rfl) ?_
      rw [hc.2.2.2.2.1, hc.2.2.2.2.2.1, hc.2.2.2.2.2.2]
      try rfl) (by kernel_rfl) (by kernel_rfl) (anrpS_7_146 hc)
  · exact any_one _ (v := vrpS_7_1 z 15) tabok_rpS horpS_7_15 (trivial) (by kernel_rfl) (by kernel_rfl) (by kernel_rfl) (anrpS_7_147 hc)
theorem anrpS_7_149 {z : zrpS_7} (hc : crpS_7_1 z) : arpS_7_1 z 7 33791 (qrpS_7_1 z 33791 []) (HrpS_7_1 z [0]) := by
  refine any_next [10] (by kernel_rfl) (by decide) fun i hi => ?_
  obtain rfl := two1 hi
  · exact any_one _ (v := vrpS_7_1 z 10) tabok_rpS horpS_7_10 (trivial) (by kernel_rfl) (by kernel_rfl) (by kernel_rfl) (anrpS_7_147 hc)
theorem anrpS_7_150 {z : zrpS_7} (hc : crpS_7_1 z) : arpS_7_1 z 8 1023 (qrpS_7_1 z 1023 []) (HrpS_7_1 z []) := by
  refine any_next [10, 15] (by kernel_rfl) (by decide) fun i hi => ?_
  rcases two2 hi with rfl | rfl
  · exact any_one _ (v := vrpS_7_1 z 10) tabok_rpS horpS_7_10 (trivial) (by kernel_rfl) (by kernel_rfl) (by kernel_rfl) (anrpS_7_148 hc)
  · exact any_one _ (v := vrpS_7_1 z 15) tabok_rpS horpS_7_15 (trivial) (by kernel_rfl) (by kernel_rfl) (by kernel_rfl) (anrpS_7_149 hc)
theorem anrpS_7_151 {z : zrpS_7} (hc : crpS_7_1 z) : arpS_7_1 z 8 33279 (qrpS_7_1 z 33279 []) (HrpS_7_1 z [0]) := by
  refine any_next [9] (by kernel_rfl) (by decide) fun i hi => ?_
  obtain rfl := two1 hi
  · exact any_one _ (v := vrpS_7_1 z 9) tabok_rpS horpS_7_9 (trivial) (by
      refine Eq.trans (b := (match (yrpS_73 z)[0]? with | some e77 => some ((.fl .f32 e77), [.at (yrpS_72 z) (.fl .f32 (yrpS_73 z)), .at (yrpS_74 z) (.fl .f32 (yrpS_75 z)), .at true (.as 1 [.sl 0 0 (yrpS_76 z), .sl 1 0 (yrpS_77 z)]), .at true (.as 1 [.nil, .nil]), .at true (.as 1 [.sl 5 0 (yrpS_78 z), .sl 6 0 (yrpS_79 z)]), .at true (.fl .f32 (yrpS_710 z)), .at true (.fl .f32 (yrpS_711 z)), .at true (.as 1 [.nil, .nil])]) | none => none)) (by kernel_rfl) ?_
      rw [someD (hc.2.2.2.1)]
      try rfl) (by kernel_rfl) (by kernel_rfl) (anrpS_7_149 hc)
theorem anrpS_7_152 {z : zrpS_7} (hc : crpS_7_1 z) : arpS_7_1 z 9 511 (qrpS_7_1 z 511 []) (HrpS_7_1 z []) := by
  refine any_next [9, 15] (by kernel_rfl) (by decide) fun i hi => ?_
  rcases two2 hi with rfl | rfl
  · exact any_one _ (v := vrpS_7_1 z 9) tabok_rpS horpS_7_9 (trivial) (by
      refine Eq.trans (b := (match (yrpS_73 z)[0]? with | some e75 => some ((.fl .f32 e75), [.at (yrpS_72 z) (.fl .f32 (yrpS_73 z)), .at (yrpS_74 z) (.fl .f32 (yrpS_75 z)), .at true (.as 1 [.sl 0 0 (yrpS_76 z), .sl 1 0 (yrpS_77 z)]), .at true (.as 1 [.nil, .nil]), .at true (.as 1 [.sl 5 0 (yrpS_78 z), .sl 6 0 (yrpS_79 z)]), .at true (.fl .f32 (yrpS_710 z)), .at true (.fl .f32 (yrpS_711 z))]) | none => none)) (by kernel_rfl) ?_
      rw [someD (hc.2.2.2.1)]
      try rfl) (by kernel_rfl) (by kernel_rfl) (anrpS_7_150 hc)
  · exact any_one _ (v := vrpS_7_1 z 15) tabok_rpS horpS_7_15 (trivial) (by kernel_rfl) (by kernel_rfl) (by kernel_rfl) (anrpS_7_151 hc)
theorem anrpS_7_153 {z : zrpS_7} (hc : crpS_7_1 z) : arpS_7_1 z 9 33023 (qrpS_7_1 z 33023 []) (HrpS_7_1 z [0]) := by
  refine any_next [8] (by kernel_rfl) (by decide) fun i hi => ?_
  obtain rfl := two1 hi
  · exact any_one _ (v := vrpS_7_1 z 8) tabok_rpS horpS_7_8 (trivial) (by
      refine Eq.trans (b := (match decide (0 ≤ (0 : Int) ∧ (0 : Int) < (((yrpS_76 z) : Nat) : Int)) with | true => some ((.ptr 0 0), [.at (yrpS_72 z) (.fl .f32 (yrpS_73 z)), .at (yrpS_74 z) (.fl .f32 (yrpS_75 z)), .at true (.as 1 [.sl 0 0 (yrpS_76 z), .sl 1 0 (yrpS_77 z)]), .at true (.as 1 [.nil, .nil]), .at true (.as 1 [.sl 5 0 (yrpS_78 z), .sl 6 0 (yrpS_79 z)]), .at true (.fl .f32 (yrpS_710 z)), .at true (.fl .f32 (yrpS_711 z)), .at true (.as 1 [.nil, .nil])]) | false => none)) (by kernel_rfl) ?_
      rw [hc.2.2.1]
      try rfl) (by kernel_rfl) (by kernel_rfl) (anrpS_7_151 hc)
theorem anrpS_7_154 {z : zrpS_7} (hc : crpS_7_1 z) : arpS_7_1 z 10 255 (qrpS_7_1 z 255 []) (HrpS_7_1 z []) := by
  refine any_next [8, 15] (by kernel_rfl) (by decide) fun i hi => ?_
  rcases two2 hi with rfl | rfl
  · exact any_one _ (v := vrpS_7_1 z 8) tabok_rpS horpS_7_8 (trivial) (by
      refine Eq.trans (b := (match decide (0 ≤ (0 : Int) ∧ (0 : Int) < (((yrpS_76 z) : Nat) : Int)) with | true => some ((.ptr 0 0), [.at (yrpS_72 z) (.fl .f32 (yrpS_73 z)), .at (yrpS_74 z) (.fl .f32 (yrpS_75 z)), .at true (.as 1 [.sl 0 0 (yrpS_76 z), .sl 1 0 (yrpS_77 z)]), .at true (.as 1 [.nil, .nil]), .at true (.as 1 [.sl 5 0 (yrpS_78 z), .sl 6 0 (yrpS_79 z)]), .at true (.fl .f32 (yrpS_710 z)), .at true (.fl .f32 (yrpS_711 z))]) | false => none)) (by kernel_rfl) ?_
      rw [hc.2.2.1]
      try rfl) (by kernel_rfl) (by kernel_rfl) (anrpS_7_152 hc)
  · exact any_one _ (v := vrpS_7_1 z 15) tabok_rpS horpS_7_15 (trivial) (by kernel_rfl) (by kernel_rfl) (by kernel_rfl) (anrpS_7_153 hc)
theorem anrpS_7_155 {z : zrpS_7} (hc : crpS_7_1 z) : arpS_7_1 z 10 32895 (qrpS_7_1 z 32895 []) (HrpS_7_1 z [0]) := by
  refine any_next [7] (by kernel_rfl) (by decide) fun i hi => ?_
  obtain rfl := two1 hi
  · exact any_one _ (v := vrpS_7_1 z 7) tabok_rpS horpS_7_7 (trivial) (by kernel_rfl) (by kernel_rfl) (by kernel_rfl) (anrpS_7_153 hc)
theorem anrpS_7_156 {z : zrpS_7} (hc : crpS_7_1 z) : arpS_7_1 z 11 127 (qrpS_7_1 z 127 []) (HrpS_7_1 z []) := by
  refine any_next [7, 15] (by kernel_rfl) (by decide) fun i hi => ?_
  rcases two2 hi with rfl | rfl
  · exact any_one _ (v := vrpS_7_1 z 7) tabok_rpS horpS_7_7 (trivial) (by kernel_rfl) (by kernel_rfl) (by kernel_rfl) (anrpS_7_154 hc)
  · exact any_one _ (v := vrpS_7_1 z 15) tabok_rpS horpS_7_15 (trivial) (by kernel_rfl) (by kernel_rfl) (by kernel_rfl) (anrpS_7_155 hc)
theorem anrpS_7_157 {z : zrpS_7} (hc : crpS_7_1 z) : arpS_7_1 z 11 32831 (qrpS_7_1 z 32831 []) (HrpS_7_1 z [0]) := by
  refine any_next [6] (by kernel_rfl) (by decide) fun i hi => ?_
  obtain rfl := two1 hi
  · exact any_one _ (v := vrpS_7_1 z 6) tabok_rpS horpS_7_6 (trivial) (by kernel_rfl) (by kernel_rfl) (by kernel_rfl) (anrpS_7_155 hc)
theorem anrpS_7_158 {z : zrpS_7} (hc : crpS_7_1 z) : arpS_7_1 z 12 63 (qrpS_7_1 z 63 []) (HrpS_7_1 z []) := by
  refine any_next [6, 15] (by kernel_rfl) (by decide) fun i hi => ?_
  rcases two2 hi with rfl | rfl
  · exact any_one _ (v := vrpS_7_1 z 6) tabok_rpS horpS_7_6 (trivial) (by kernel_rfl) (by kernel_rfl) (by kernel_rfl) (anrpS_7_156 hc)
  · exact any_one _ (v := vrpS_7_1 z 15) tabok_rpS horpS_7_15 (trivial) (by kernel_rfl) (by kernel_rfl) (by kernel_rfl) (anrpS_7_157 hc)
theorem anrpS_7_159 {z : zrpS_7} (hc : crpS_7_1 z) : arpS_7_1 z 8 33759 (qrpS_7_1 z 33759 []) (HrpS_7_1 z [0]) := by
  refine any_next [5] (by kernel_rfl) (by decide) fun i hi => ?_
  obtain rfl := two1 hi
  · exact any_one _ (v := vrpS_7_1 z 5) tabok_rpS horpS_7_5 (trivial) (by
      refine Eq.trans (b := (match (yrpS_73 z)[0 + (IntKind.i64.wrap ((yrpS_71 z) - 1)).toNat * 1]? with | some e89 => some ((.fl .f32 e89), [.at (yrpS_72 z) (.fl .f32 (yrpS_73 z)), .at (yrpS_74 z) (.fl .f32 (yrpS_75 z)), .at true (.as 1 [.sl 0 0 (yrpS_76 z), .sl 1 0 (yrpS_77 z)]), .at true (.as 1 [.nil, .nil]), .at true (.as 1 [.sl 5 0 (yrpS_78 z), .sl 6 0 (yrpS_79 z)]), .at true (.fl .f32 (yrpS_710 z)), .at true (.fl .f32 (yrpS_711 z)), .at true (.as 1 [.nil, .nil])]) | none => none)) (by kernel_rfl) ?_
      rw [someD (hc.2.1)]
      try rfl) (by kernel_rfl) (by kernel_rfl) (anrpS_7_149 hc)
theorem anrpS_7_160 {z : zrpS_7} (hc : crpS_7_1 z) : arpS_7_1 z 9 991 (qrpS_7_1 z 991 []) (HrpS_7_1 z []) := by
  refine any_next [5, 15] (by kernel_rfl) (by decide) fun i hi => ?_
  rcases two2 hi with rfl | rfl
  · exact any_one _ (v := vrpS_7_1 z 5) tabok_rpS horpS_7_5 (trivial) (by
      refine Eq.trans (b := (match (yrpS_73 z)[0 + (IntKind.i64.wrap ((yrpS_71 z) - 1)).toNat * 1]? with | some e87 => some ((.fl .f32 e87), [.at (yrpS_72 z) (.fl .f32 (yrpS_73 z)), .at (yrpS_74 z) (.fl .f32 (yrpS_75 z)), .at true (.as 1 [.sl 0 0 (yrpS_76 z), .sl 1 0 (yrpS_77 z)]), .at true (.as 1 [.nil, .nil]), .at true (.as 1 [.sl 5 0 (yrpS_78 z), .sl 6 0 (yrpS_79 z)]), .at true (.fl .f32 (yrpS_710 z)), .at true (.fl .f32 (yrpS_711 z))]) | none => none)) (by kernel_rfl) ?_
      rw [someD (hc.2.1)]
      try rfl) (by kernel_rfl) (by kernel_rfl) (anrpS_7_150 hc)
  · exact any_one _ (v := vrpS_7_1 z 15) tabok_rpS horpS_7_15 (trivial) (by kernel_rfl) (by kernel_rfl) (by kernel_rfl) (anrpS_7_159 hc)
theorem anrpS_7_161 {z : zrpS_7} (hc : crpS_7_1 z) : arpS_7_1 z 9 33247 (qrpS_7_1 z 33247 []) (HrpS_7_1 z [0]) := by
  refine any_next [5, 9] (by kernel_rfl) (by decide) fun i hi => ?_
  rcases two2 hi with rfl | rfl
  · exact any_one _ (v := vrpS_7_1 z 5) tabok_rpS horpS_7_5 (trivial) (by
      refine Eq.trans (b := (match (yrpS_73 z)[0 + (IntKind.i64.wrap ((yrpS_71 z) - 1)).toNat * 1]? with | some e92 => some ((.fl .f32 e92), [.at (yrpS_72 z) (.fl .f32 (yrpS_73 z)), .at (yrpS_74 z) (.fl .f32 (yrpS_75 z)), .at true (.as 1 [.sl 0 0 (yrpS_76 z), .sl 1 0 (yrpS_77 z)]), .at true (.as 1 [.nil, .nil]), .at true (.as 1 [.sl 5 0 (yrpS_78 z), .sl 6 0 (yrpS_79 z)]), .at true (.fl .f32 (yrpS_710 z)), .at true (.fl .f32 (yrpS_711 z)), .at true (.as 1 [.nil, .nil])]) | none => none)) (by kernel_rfl) ?_
      rw [someD (hc.2.1)]
      try rfl) (by kernel_rfl) (by kernel_rfl) (anrpS_7_151 hc)
  · exact any_one _ (v := vrpS_7_1 z 9) tabok_rpS horpS_7_9 (trivial) (by
      refine Eq.trans (b := (match (yrpS_73 z)[0]? with | some e94 => some ((.fl .f32 e94), [.at (yrpS_72 z) (.fl .f32 (yrpS_73 z)), .at (yrpS_74 z) (.fl .f32 (yrpS_75 z)), .at true (.as 1 [.sl 0 0 (yrpS_76 z), .sl 1 0 (yrpS_77 z)]), .at true (.as 1 [.nil, .nil]), .at true (.as 1 [.sl 5 0 (yrpS_78 z), .sl 6 0 (yrpS_79 z)]), .at true (.fl .f32 (yrpS_710 z)), .at true (.fl .f32 (yrpS_711 z)), .at true (.as 1 [.nil, .nil])]) | none => none)) (by kernel_rfl) ?_
      rw [someD (hc.2.2.2.1)]
      try rfl) (by kernel_rfl) (by kernel_rfl) (anrpS_7_159 hc)
theorem anrpS_7_162 {z : zrpS_7} (hc : crpS_7_1 z) : arpS_7_1 z 10 479 (qrpS_7_1 z 479 []) (HrpS_7_1 z []) := by
  refine any_next [5, 9, 15] (by kernel_rfl) (by decide) fun i hi => ?_
  rcases two3 hi with rfl | rfl | rfl
  · exact any_one _ (v := vrpS_7_1 z 5) tabok_rpS horpS_7_5 (trivial) (by
      refine Eq.trans (b := (match (yrpS_73 z)[0 + (IntKind.i64.wrap ((yrpS_71 z) - 1)).toNat * 1]? with | some e84 => some ((.fl .f32 e84), [.at (yrpS_72 z) (.fl .f32 (yrpS_73 z)), .at (yrpS_74 z) (.fl .f32 (yrpS_75 z)), .at true (.as 1 [.sl 0 0 (yrpS_76 z), .sl 1 0 (yrpS_77 z)]), .at true (.as 1 [.nil, .nil]), .at true (.as 1 [.sl 5 0 (yrpS_78 z), .sl 6 0 (yrpS_79 z)]), .at true (.fl .f32 (yrpS_710 z)), .at true (.fl .f32 (yrpS_711 z))]) | none => none)) (by kernel_rfl) ?_
      rw [someD (hc.2.1)]
      try rfl) (by kernel_rfl) (by kernel_rfl) (anrpS_7_152 hc)
  · exact any_one _ (v := vrpS_7_1 z 9) tabok_rpS horpS_7_9 (trivial) (by
      refine Eq.trans (b := (match (yrpS_73 z)[0]? with | some e90 => some ((.fl .f32 e90), [.at (yrpS_72 z) (.fl .f32 (yrpS_73 z)), .at (yrpS_74 z) (.fl .f32 (yrpS_75 z)), .at true (.as 1 [.sl 0 0 (yrpS_76 z), .sl 1 0 (yrpS_77 z)]), .at true (.as 1 [.nil, .nil]), .at true (.as 1 [.sl 5 0 (yrpS_78 z), .sl 6 0 (yrpS_79 z)]), .at true (.fl .f32 (yrpS_710 z)), .at true (.fl .f32 (yrpS_711 z))]) | none => none)) (by kernel_rfl) ?_
      rw [someD (hc.2.2.2.1)]
      try rfl) (by kernel_rfl) (by kernel_rfl) (anrpS_7_160 hc)
  · exact any_one _ (v := vrpS_7_1 z 15) tabok_rpS horpS_7_15 (trivial) (by kernel_rfl) (by kernel_rfl) (by kernel_rfl) (anrpS_7_161 hc)
theorem anrpS_7_163 {z : zrpS_7} (hc : crpS_7_1 z) : arpS_7_1 z 10 32991 (qrpS_7_1 z 32991 []) (HrpS_7_1 z [0]) := by
  refine any_next [5, 8] (by kernel_rfl) (by decide) fun i hi => ?_
  rcases two2 hi with rfl | rfl
  · exact any_one _ (v := vrpS_7_1 z 5) tabok_rpS horpS_7_5 (trivial) (by
      refine Eq.trans (b := (match (yrpS_73 z)[0 + (IntKind.i64.wrap ((yrpS_71 z) - 1)).toNat * 1]? with | some e96 => some ((.fl .f32 e96), [.at (yrpS_72 z) (.fl .f32 (yrpS_73 z)), .at (yrpS_74 z) (.fl .f32 (yrpS_75 z)), .at true (.as 1 [.sl 0 0 (yrpS_76 z), .sl 1 0 (yrpS_77 z)]), .at true (.as 1 [.nil, .nil]), .at true (.as 1 [.sl 5 0 (yrpS_78 z), .sl 6 0 (yrpS_79 z)]), .at true (.fl .f32 (yrpS_710 z)), .at true (.fl .f32 (yrpS_711 z)), .at true (.as 1 [.nil, .nil])]) | none => none)) (by kernel_rfl) ?_
      rw [someD (hc.2.1)]
      try rfl) (by kernel_rfl) (by kernel_rfl) (anrpS_7_153 hc)
  · exact any_one _ (v := vrpS_7_1 z 8) tabok_rpS horpS_7_8 (trivial) (by
      refine Eq.trans (b := (match decide (0 ≤ (0 : Int) ∧ (0 : Int) < (((yrpS_76 z) : Nat) : Int)) with | true => some ((.ptr 0 0), [.at (yrpS_72 z) (.fl .f32 (yrpS_73 z)), .at (yrpS_74 z) (.fl .f32 (yrpS_75 z)), .at true (.as 1 [.sl 0 0 (yrpS_76 z), .sl 1 0 (yrpS_77 z)]), .at true (.as 1 [.nil, .nil]), .at true (.as 1 [.sl 5 0 (yrpS_78 z), .sl 6 0 (yrpS_79 z)]), .at true (.fl .f32 (yrpS_710 z)), .at true (.fl .f32 (yrpS_711 z)), .at true (.as 1 [.nil, .nil])]) | false => none)) (by kernel_rfl) ?_
      rw [hc.2.2.1]
      try rfl) (by kernel_rfl) (by kernel_rfl) (anrpS_7_161 hc)
theorem anrpS_7_164 {z : zrpS_7} (hc : crpS_7_1 z) : arpS_7_1 z 11 223 (qrpS_7_1 z 223 []) (HrpS_7_1 z []) := by
  refine any_next [5, 8, 15] (by kernel_rfl) (by decide) fun i hi => ?_
  rcases two3 hi with rfl | rfl | rfl
  · exact any_one _ (v := vrpS_7_1 z 5) tabok_rpS horpS_7_5 (trivial) (by
      refine Eq.trans (b := (match (yrpS_73 z)[0 + (IntKind.i64.wrap ((yrpS_71 z) - 1)).toNat * 1]? with | some e82 => some ((.fl .f32 e82), [.at (yrpS_72 z) (.fl .f32 (yrpS_73 z)), .at (yrpS_74 z) (.fl .f32 (yrpS_75 z)), .at true (.as 1 [.sl 0 0 (yrpS_76 z), .sl 1 0 (yrpS_77 z)]), .at true (.as 1 [.nil, .nil]), .at true (.as 1 [.sl 5 0 (yrpS_78 z), .sl 6 0 (yrpS_79 z)]), .at true (.fl .f32 (yrpS_710 z)), .at true (.fl .f32 (yrpS_711 z))]) | none => none)) (by kernel_rfl) ?_
      rw [someD (hc.2.1)]
      try rfl) (by kernel_rfl) (by kernel_rfl) (anrpS_7_154 hc)
  · exact any_one _ (v := vrpS_7_1 z 8) tabok_rpS horpS_7_8 (trivial) (by
      refine Eq.trans (b := (match decide (0 ≤ (0 : Int) ∧ (0 : Int) < (((yrpS_76 z) : Nat) : Int)) with | true => some ((.ptr 0 0), [.at (yrpS_72 z) (.fl .f32 (yrpS_73 z)), .at (yrpS_74 z) (.fl .f32 (yrpS_75 z)), .at true (.as 1 [.sl 0 0 (yrpS_76 z), .sl 1 0 (yrpS_77 z)]), .at true (.as 1 [.nil, .nil]), .at true (.as 1 [.sl 5 0 (yrpS_78 z), .sl 6 0 (yrpS_79 z)]), .at true (.fl .f32 (yrpS_710 z)), .at true (.fl .f32 (yrpS_711 z))]) | false => none)) (by kernel_rfl) ?_
      rw [hc.2.2.1]
      try rfl) (by kernel_rfl) (by kernel_rfl) (anrpS_7_162 hc)
  · exact any_one _ (v := vrpS_7_1 z 15) tabok_rpS horpS_7_15 (trivial) (by kernel_rfl) (by kernel_rfl) (by kernel_rfl) (anrpS_7_163 hc)
theorem anrpS_7_165 {z : zrpS_7} (hc : crpS_7_1 z) : arpS_7_1 z 11 32863 (qrpS_7_1 z 32863 []) (HrpS_7_1 z [0]) := by
  refine any_next [5, 7] (by kernel_rfl) (by decide) fun i hi => ?_
  rcases two2 hi with rfl | rfl
  · exact any_one _ (v := vrpS_7_1 z 5) tabok_rpS horpS_7_5 (trivial) (by
      refine Eq.trans (b := (match (yrpS_73 z)[0 + (IntKind.i64.wrap ((yrpS_71 z) - 1)).toNat * 1]? with | some e98 => some ((.fl .f32 e98), [.at (yrpS_72 z) (.fl .f32 (yrpS_73 z)), .at (yrpS_74 z) (.fl .f32 (yrpS_75 z)), .at true (.as 1 [.sl 0 0 (yrpS_76 z), .sl 1 0 (yrpS_77 z)]), .at true (.as 1 [.nil, .nil]), .at true (.as 1 [.sl 5 0 (yrpS_78 z), .sl 6 0 (yrpS_79 z)]), .at true (.fl .f32 (yrpS_710 z)), .at true (.fl .f32 (yrpS_711 z)), .at true (.as 1 [.nil, .nil])]) | none => none)) (by kernel_rfl) ?_
      rw [someD (hc.2.1)]
      try rfl) (by kernel_rfl) (by kernel_rfl) (anrpS_7_155 hc)
  · exact any_one _ (v := vrpS_7_1 z 7) tabok_rpS horpS_7_7 (trivial) (by kernel_rfl) (by kernel_rfl) (by kernel_rfl) (anrpS_7_163 hc)
theorem anrpS_7_166 {z : zrpS_7} (hc : crpS_7_1 z) : arpS_7_1 z 12 95 (qrpS_7_1 z 95 []) (HrpS_7_1 z []) := by
  refine any_next [5, 7, 15] (by kernel_rfl) (by decide) fun i hi => ?_
  rcases two3 hi with rfl | rfl | rfl
  · exact any_one _ (v := vrpS_7_1 z 5) tabok_rpS horpS_7_5 (trivial) (by
      refine Eq.trans (b := (match (yrpS_73 z)[0 + (IntKind.i64.wrap ((yrpS_71 z) - 1)).toNat * 1]? with | some e80 => some ((.fl .f32 e80), [.at (yrpS_72 z) (.fl .f32 (yrpS_73 z)), .at (yrpS_74 z) (.fl .f32 (yrpS_75 z)), .at true (.as 1 [.sl 0 0 (yrpS_76 z), .sl 1 0 (yrpS_77 z)]), .at true (.as 1 [.nil, .nil]), .at true (.as 1 [.sl 5 0 (yrpS_78 z), .sl 6 0 (yrpS_79 z)]), .at true (.fl .f32 (yrpS_710 z)), .at true (.fl .f32 (yrpS_711 z))]) | none => none)) (by kernel_rfl) ?_
      rw [someD (hc.2.1)]
      try rfl) (by kernel_rfl) (by kernel_rfl) (anrpS_7_156 hc)
  · exact any_one _ (v := vrpS_7_1 z 7) tabok_rpS horpS_7_7 (trivial) (by kernel_rfl) (by kernel_rfl) (by kernel_rfl) (anrpS_7_164 hc)
  · exact any_one _ (v := vrpS_7_1 z 15) tabok_rpS horpS_7_15 (trivial) (by kernel_rfl) (by kernel_rfl) (by kernel_rfl) (anrpS_7_165 hc)
theorem anrpS_7_167 {z : zrpS_7} (hc : crpS_7_1 z) : arpS_7_1 z 12 32799 (qrpS_7_1 z 32799 []) (HrpS_7_1 z [0]) := by
  refine any_next [5, 6] (by kernel_rfl) (by decide) fun i hi => ?_
  rcases two2 hi with rfl | rfl
  · exact any_one _ (v := vrpS_7_1 z 5) tabok_rpS horpS_7_5 (trivial) (by
      refine Eq.trans (b := (match (yrpS_73 z)[0 + (IntKind.i64.wrap ((yrpS_71 z) - 1)).toNat * 1]? with | some e100 => some ((.fl .f32 e100), [.at (yrpS_72 z) (.fl .f32 (yrpS_73 z)), .at (yrpS_74 z) (.fl .f32 (yrpS_75 z)), .at true (.as 1 [.sl 0 0 (yrpS_76 z), .sl 1 0 (yrpS_77 z)]), .at true (.as 1 [.nil, .nil]), .at true (.as 1 [.sl 5 0 (yrpS_78 z), .sl 6 0 (yrpS_79 z)]), .at true (.fl .f32 (yrpS_710 z)), .at true (.fl .f32 (yrpS_711 z)), .at true (.as 1 [.nil, .nil])]) | none => none)) (by kernel_rfl) ?_
      rw [someD (hc.2.1)]
      try rfl) (by kernel_rfl) (by kernel_rfl) (anrpS_7_157 hc)
  · exact any_one _ (v := vrpS_7_1 z 6) tabok_rpS horpS_7_6 (trivial) (by kernel_rfl) (by kernel_rfl) (by kernel_rfl) (anrpS_7_165 hc)
theorem anrpS_7_168 {z : zrpS_7} (hc : crpS_7_1 z) : arpS_7_1 z 13 31 (qrpS_7_1 z 31 []) (HrpS_7_1 z []) := by
  refine any_next [5, 6, 15] (by kernel_rfl) (by decide) fun i hi => ?_
  rcases two3 hi with rfl | rfl | rfl
  · exact any_one _ (v := vrpS_7_1 z 5) tabok_rpS horpS_7_5 (trivial) (by
      refine Eq.trans (b := (match (yrpS_73 z)[0 + (IntKind.i64.wrap ((yrpS_71 z) - 1)).toNat * 1]? with | some e78 => some ((.fl .f32 e78), [.at (yrpS_72 z) (.fl .f32 (yrpS_73 z)), .at (yrpS_74 z) (.fl .f32 (yrpS_75 z)), .at true (.as 1 [.sl 0 0 (yrpS_76 z), .sl 1 0 (yrpS_77 z)]), .at true (.as 1 [.nil, .nil]), .at true (.as 1 [.sl 5 0 (yrpS_78 z), .sl 6 0 (yrpS_79 z)]), .at true (.fl .f32 (yrpS_710 z)), .at true (.fl .f32 (yrpS_711 z))]) | none => none)) (by kernel_rfl) ?_
      rw [someD (hc.2.1)]
      try rfl) (by kernel_rfl) (by kernel_rfl) (anrpS_7_158 hc)
  · exact any_one _ (v := vrpS_7_1 z 6) tabok_rpS horpS_7_6 (trivial) (by kernel_rfl) (by kernel_rfl) (by kernel_rfl) (anrpS_7_166 hc)
  · exact any_one _ (v := vrpS_7_1 z 15) tabok_rpS horpS_7_15 (trivial) (by kernel_rfl) (by kernel_rfl) (by kernel_rfl) (anrpS_7_167 hc)
theorem anrpS_7_169 {z : zrpS_7} (hc : crpS_7_1 z) : arpS_7_1 z 9 33743 (qrpS_7_1 z 33743 []) (HrpS_7_1 z [0]) := by
  refine any_next [4] (by kernel_rfl) (by decide) fun i hi => ?_
  obtain rfl := two1 hi
  · exact any_one _ (v := vrpS_7_1 z 4) tabok_rpS horpS_7_4 (trivial) (by
      refine Eq.trans (b := (match decide (0 ≤ (IntKind.i64.wrap ((yrpS_71 z) - 1) : Int) ∧ (IntKind.i64.wrap ((yrpS_71 z) - 1) : Int) < (((yrpS_76 z) : Nat) : Int)) with | true => some ((.ptr 0 (0 + (IntKind.i64.wrap ((yrpS_71 z) - 1)).toNat * 1)), [.at (yrpS_72 z) (.fl .f32 (yrpS_73 z)), .at (yrpS_74 z) (.fl .f32 (yrpS_75 z)), .at true (.as 1 [.sl 0 0 (yrpS_76 z), .sl 1 0 (yrpS_77 z)]), .at true (.as 1 [.nil, .nil]), .at true (.as 1 [.sl 5 0 (yrpS_78 z), .sl 6 0 (yrpS_79 z)]), .at true (.fl .f32 (yrpS_710 z)), .at true (.fl .f32 (yrpS_711 z)), .at true (.as 1 [.nil, .nil])]) | false => none)) (by kernel_rfl) ?_
      rw [hc.1]
      try rfl) (by kernel_rfl) (by kernel_rfl) (anrpS_7_159 hc)
theorem anrpS_7_170 {z : zrpS_7} (hc : crpS_7_1 z) : arpS_7_1 z 10 975 (qrpS_7_1 z 975 []) (HrpS_7_1 z []) := by
  refine any_next [4, 15] (by kernel_rfl) (by decide) fun i hi => ?_
  rcases two2 hi with rfl | rfl
  · exact any_one _ (v := vrpS_7_1 z 4) tabok_rpS horpS_7_4 (trivial) (by
      refine Eq.trans (b := (match decide (0 ≤ (IntKind.i64.wrap ((yrpS_71 z) - 1) : Int) ∧ (IntKind.i64.wrap ((yrpS_71 z) - 1) : Int) < (((yrpS_76 z) : Nat) : Int)) with | true => some ((.ptr 0 (0 + (IntKind.i64.wrap ((yrpS_71 z) - 1)).toNat * 1)), [.at (yrpS_72 z) (.fl .f32 (yrpS_73 z)), .at (yrpS_74 z) (.fl .f32 (yrpS_75 z)), .at true (.as 1 [.sl 0 0 (yrpS_76 z), .sl 1 0 (yrpS_77 z)]), .at true (.as 1 [.nil, .nil]), .at true (.as 1 [.sl 5 0 (yrpS_78 z), .sl 6 0 (yrpS_79 z)]), .at true (.fl .f32 (yrpS_710 z)), .at true (.fl .f32 (yrpS_711 z))]) | false => none)) (by kernel_rfl) ?_
      rw [hc.1]
      try rfl) (by kernel_rfl) (by kernel_rfl) (anrpS_7_160 hc)
  · exact any_one _ (v := vrpS_7_1 z 15) tabok_rpS horpS_7_15 (trivial) (by kernel_rfl) (by kernel_rfl) (by kernel_rfl) (anrpS_7_169 hc)
theorem anrpS_7_171 {z : zrpS_7} (hc : crpS_7_1 z) : arpS_7_1 z 10 33231 (qrpS_7_1 z 33231 []) (HrpS_7_1 z [0]) := by
  refine any_next [4, 9] (by kernel_rfl) (by decide) fun i hi => ?_
  rcases two2 hi with rfl | rfl
  · exact any_one _ (v := vrpS_7_1 z 4) tabok_rpS horpS_7_4 (trivial) (by
      refine Eq.trans (b := (match decide (0 ≤ (IntKind.i64.wrap ((yrpS_71 z) - 1) : Int) ∧ (IntKind.i64.wrap ((yrpS_71 z) - 1) : Int) < (((yrpS_76 z) : Nat) : Int)) with | true => some ((.ptr 0 (0 + (IntKind.i64.wrap ((yrpS_71 z) - 1)).toNat * 1)), [.at (yrpS_72 z) (.fl .f32 (yrpS_73 z)), .at (yrpS_74 z) (.fl .f32 (yrpS_75 z)), .at true (.as 1 [.sl 0 0 (yrpS_76 z), .sl 1 0 (yrpS_77 z)]), .at true (.as 1 [.nil, .nil]), .at true (.as 1 [.sl 5 0 (yrpS_78 z), .sl 6 0 (yrpS_79 z)]), .at true (.fl .f32 (yrpS_710 z)), .at true (.fl .f32 (yrpS_711 z)), .at true (.as 1 [.nil, .nil])]) | false => none)) (by kernel_rfl) ?_
      rw [hc.1]
      try rfl) (by kernel_rfl) (by kernel_rfl) (anrpS_7_161 hc)
  · exact any_one _ (v := vrpS_7_1 z 9) tabok_rpS horpS_7_9 (trivial) (by
      refine Eq.trans (b := (match (yrpS_73 z)[0]? with | some e104 => some ((.fl .f32 e104), [.at (yrpS_72 z) (.fl .f32 (yrpS_73 z)), .at (yrpS_74 z) (.fl .f32 (yrpS_75 z)), .at true (.as 1 [.sl 0 0 (yrpS_76 z), .sl 1 0 (yrpS_77 z)]), .at true (.as 1 [.nil, .nil]), .at true (.as 1 [.sl 5 0 (yrpS_78 z), .sl 6 0 (yrpS_79 z)]), .at true (.fl .f32 (yrpS_710 z)), .at true (.fl .f32 (yrpS_711 z)), .at true (.as 1 [.nil, .nil])]) | none => none)) (by kernel_rfl) ?_
      rw [someD (hc.2.2.2.1)]
      try rfl) (by kernel_rfl) (by kernel_rfl) (anrpS_7_169 hc)
theorem anrpS_7_172 {z : zrpS_7} (hc : crpS_7_1 z) : arpS_7_1 z 11 463 (qrpS_7_1 z 463 []) (HrpS_7_1 z []) := by
  refine any_next [4, 9, 15] (by kernel_rfl) (by decide) fun i hi => ?_
  rcases two3 hi with rfl | rfl | rfl
  · exact any_one _ (v := vrpS_7_1 z 4) tabok_rpS horpS_7_4 (trivial) (by
      refine Eq.trans (b := (match decide (0 ≤ (IntKind.i64.wrap ((yrpS_71 z) - 1) : Int) ∧ (IntKind.i64.wrap ((yrpS_71 z) - 1) : Int) < (((yrpS_76 z) : Nat) : Int)) with | true => some ((.ptr 0 (0 + (IntKind.i64.wrap ((yrpS_71 z) - 1)).toNat * 1)), [.at (yrpS_72 z) (.fl .f32 (yrpS_73 z)), .at (yrpS_74 z) (.fl .f32 (yrpS_75 z)), .at true (.as 1 [.sl 0 0 (yrpS_76 z), .sl 1 0 (yrpS_77 z)]), .at true (.as 1 [.nil, .nil]), .at true (.as 1 [.sl 5 0 (yrpS_78 z), .sl 6 0 (yrpS_79 z)]), .at true (.fl .f32 (yrpS_710 z)), .at true (.fl .f32 (yrpS_711 z))]) | false => none)) (by kernel_rfl) ?_
      rw [hc.1]
      try rfl) (by kernel_rfl) (by kernel_rfl) (anrpS_7_162 hc)
  · exact any_one _ (v := vrpS_7_1 z 9) tabok_rpS horpS_7_9 (trivial) (by
      refine Eq.trans (b := (match (yrpS_73 z)[0]? with | some e102 => some ((.fl .f32 e102), [.at (yrpS_72 z) (.fl .f32 (yrpS_73 z)), .at (yrpS_74 z) (.fl .f32 (yrpS_75 z)), .at true (.as 1 [.sl 0 0 (yrpS_76 z), .sl 1 0 (yrpS_77 z)]), .at true (.as 1 [.nil, .nil]), .at true (.as 1 [.sl 5 0 (yrpS_78 z), .sl 6 0 (yrpS_79 z)]), .at true (.fl .f32 (yrpS_710 z)), .at true (.fl .f32 (yrpS_711 z))]) | none => none)) (by kernel_rfl) ?_
      rw [someD (hc.2.2.2.1)]
      try rfl) (by kernel_rfl) (by kernel_rfl) (anrpS_7_170 hc)
  · exact any_one _ (v := vrpS_7_1 z 15) tabok_rpS horpS_7_15 (trivial) (by kernel_rfl) (by kernel_rfl) (by kernel_rfl) (anrpS_7_171 hc)
theorem anrpS_7_173 {z : zrpS_7} (hc : crpS_7_1 z) : arpS_7_1 z 11 32975 (qrpS_7_1 z 32975 []) (HrpS_7_1 z [0]) := by
  refine any_next [4, 8] (by kernel_rfl) (by decide) fun i hi => ?_
  rcases two2 hi with rfl | rfl
  · exact any_one _ (v := vrpS_7_1 z 4) tabok_rpS horpS_7_4 (trivial) (by
      refine Eq.trans (b := (match decide (0 ≤ (IntKind.i64.wrap ((yrpS_71 z) - 1) : Int) ∧ (IntKind.i64.wrap ((yrpS_71 z) - 1) : Int) < (((yrpS_76 z) : Nat) : Int)) with | true => some ((.ptr 0 (0 + (IntKind.i64.wrap ((yrpS_71 z) - 1)).toNat * 1)), [.at (yrpS_72 z) (.fl .f32 (yrpS_73 z)), .at (yrpS_74 z) (.fl .f32 (yrpS_75 z)), .at true (.as 1 [.sl 0 0 (yrpS_76 z), .sl 1 0 (yrpS_77 z)]), .at true (.as 1 [.nil, .nil]), .at true (.as 1 [.sl 5 0 (yrpS_78 z), .sl 6 0 (yrpS_79 z)]), .at true (.fl .f32 (yrpS_710 z)), .at true (.fl .f32 (yrpS_711 z)), .at true (.as 1 [.nil, .nil])]) | false => none)) (by kernel_rfl) ?_
      rw [hc.1]
      try rfl) (by kernel_rfl) (by kernel_rfl) (anrpS_7_163 hc)
  · exact any_one _ (v := vrpS_7_1 z 8) tabok_rpS horpS_7_8 (trivial) (by
      refine Eq.trans (b := (match decide (0 ≤ (0 : Int) ∧ (0 : Int) < (((yrpS_76 z) : Nat) : Int)) with | true => some ((.ptr 0 0), [.at (yrpS_72 z) (.fl .f32 (yrpS_73 z)), .at (yrpS_74 z) (.fl .f32 (yrpS_75 z)), .at true (.as 1 [.sl 0 0 (yrpS_76 z), .sl 1 0 (yrpS_77 z)]), .at true (.as 1 [.nil, .nil]), .at true (.as 1 [.sl 5 0 (yrpS_78 z), .sl 6 0 (yrpS_79 z)]), .at true (.fl .f32 (yrpS_710 z)), .at true (.fl .f32 (yrpS_711 z)), .at true (.as 1 [.nil, .nil])]) | false => none)) (by kernel_rfl) ?_
      rw [hc.2.2.1]
      try rfl) (by kernel_rfl) (by kernel_rfl) (anrpS_7_171 hc)
theorem anrpS_7_174 {z : zrpS_7} (hc : crpS_7_1 z) : arpS_7_1 z 12 207 (qrpS_7_1 z 207 []) (HrpS_7_1 z []) := by
  refine any_next [4, 8, 15] (by kernel_rfl) (by decide) fun i hi => ?_
  rcases two3 hi with rfl | rfl | rfl
  · exact any_one _ (v := vrpS_7_1 z 4) tabok_rpS horpS_7_4 (trivial) (by
      refine Eq.trans (b := (match decide (0 ≤ (IntKind.i64.wrap ((yrpS_71 z) - 1) : Int) ∧ (IntKind.i64.wrap ((yrpS_71 z) - 1) : Int) < (((yrpS_76 z) : Nat) : Int)) with | true => some ((.ptr 0 (0 + (IntKind.i64.wrap ((yrpS_71 z) - 1)).toNat * 1)), [.at (yrpS_72 z) (.fl .f32 (yrpS_73 z)), .at (yrpS_74 z) (.fl .f32 (yrpS_75 z)), .at true (.as 1 [.sl 0 0 (yrpS_76 z), .sl 1 0 (yrpS_77 z)]), .at true (.as 1 [.nil, .nil]), .at true (.as 1 [.sl 5 0 (yrpS_78 z), .sl 6 0 (yrpS_79 z)]), .at true (.fl .f32 (yrpS_710 z)), .at true (.fl .f32 (yrpS_711 z))]) | false => none)) (by kernel_rfl) ?_
      rw [hc.1]
      try rfl) (by kernel_rfl) (by kernel_rfl) (anrpS_7_164 hc)
  · exact any_one _ (v := vrpS_7_1 z 8) tabok_rpS horpS_7_8 (trivial) (by
      refine Eq.trans (b := (match decide (0 ≤ (0 : Int) ∧ (0 : Int) < (((yrpS_76 z) : Nat) : Int)) with | true => some ((.ptr 0 0), [.at (yrpS_72 z) (.fl .f32 (yrpS_73 z)), .at (yrpS_74 z) (.fl .f32 (yrpS_75 z)), .at true (.as 1 [.sl 0 0 (yrpS_76 z), .sl 1 0 (yrpS_77 z)]), .at true (.as 1 [.nil, .nil]), .at true (.as 1 [.sl 5 0 (yrpS_78 z), .sl 6 0 (yrpS_79 z)]), .at true (.fl .f32 (yrpS_710 z)), .at true (.fl .f32 (yrpS_711 z))]) | false => none)) (by kernel_rfl) ?_
      rw [hc.2.2.1]
      try rfl) (by kernel_rfl) (by kernel_rfl) (anrpS_7_172 hc)
  · exact any_one _ (v := vrpS_7_1 z 15) tabok_rpS horpS_7_15 (trivial) (by kernel_rfl) (by kernel_rfl) (by kernel_rfl) (anrpS_7_173 hc)
theorem anrpS_7_175 {z : zrpS_7} (hc : crpS_7_1 z) : arpS_7_1 z 12 32847 (qrpS_7_1 z 32847 []) (HrpS_7_1 z [0]) := by
  refine any_next [4, 7] (by kernel_rfl) (by decide) fun i hi => ?_
  rcases two2 hi with rfl | rfl
  · exact any_one _ (v := vrpS_7_1 z 4) tabok_rpS horpS_7_4 (trivial) (by
      refine Eq.trans (b := (match decide (0 ≤ (IntKind.i64.wrap ((yrpS_71 z) - 1) : Int) ∧ (IntKind.i64.wrap ((yrpS_71 z) - 1) : Int) < (((yrpS_76 z) : Nat) : Int)) with | true => some ((.ptr 0 (0 + (IntKind.i64.wrap ((yrpS_71 z) - 1)).toNat * 1)), [.at (yrpS_72 z) (.fl .f32 (yrpS_73 z)), .at (yrpS_74 z) (.fl .f32 (yrpS_75 z)), .at true (.as 1 [.sl 0 0 (yrpS_76 z), .sl 1 0 (yrpS_77 z)]), .at true (.as 1 [.nil, .nil]), .at true (.as 1 [.sl 5 0 (yrpS_78 z), .sl 6 0 (yrpS_79 z)]), .at true (.fl .f32 (yrpS_710 z)), .at true (.fl .f32 (yrpS_711 z)), .at true (.as 1 [.nil, .nil])]) | false => none)) (by kernel_rfl) ?_
      rw [hc.1]
      try rfl) (by kernel_rfl) (by kernel_rfl) (anrpS_7_165 hc)
  · exact any_one _ (v := vrpS_7_1 z 7) tabok_rpS horpS_7_7 (trivial) (by kernel_rfl) (by kernel_rfl) (by kernel_rfl) (anrpS_7_173 hc)
theorem anrpS_7_176 {z : zrpS_7} (hc : crpS_7_1 z) : arpS_7_1 z 13 79 (qrpS_7_1 z 79 []) (HrpS_7_1 z []) := by
  refine any_next [4, 7, 15] (by kernel_rfl) (by decide) fun i hi => ?_
  rcases two3 hi with rfl | rfl | rfl
  · exact any_one _ (v := vrpS_7_1 z 4) tabok_rpS horpS_7_4 (trivial) (by
      refine Eq.trans (b := (match decide (0 ≤ (IntKind.i64.wrap ((yrpS_71 z) - 1) : Int) ∧ (IntKind.i64.wrap ((yrpS_71 z) - 1) : Int) < (((yrpS_76 z) : Nat) : Int)) with | true => some ((.ptr 0 (0 + (IntKind.i64.wrap ((yrpS_71 z) - 1)).toNat * 1)), [.at (yrpS_72 z) (.fl .f32 (yrpS_73 z)), .at (yrpS_74 z) (.fl .f32 (yrpS_75 z)), .at true (.as 1 [.sl 0 0 (yrpS_76 z), .sl 1 0 (yrpS_77 z)]), .at true (.as 1 [.nil, .nil]), .at true (.as 1 [.sl 5 0 (yrpS_78 z), .sl 6 0 (yrpS_79 z)]), .at true (.fl .f32 (yrpS_710 z)), .at true (.fl .f32 (yrpS_711 z))]) | false => none)) (by kernel_rfl) ?_
      rw [hc.1]
      try rfl) (by kernel_rfl) (by kernel_rfl) (anrpS_7_166 hc)
  · exact any_one _ (v := vrpS_7_1 z 7) tabok_rpS horpS_7_7 (trivial) (by kernel_rfl) (by kernel_rfl) (by kernel_rfl) (anrpS_7_174 hc)
  · exact any_one _ (v := vrpS_7_1 z 15) tabok_rpS horpS_7_15 (trivial) (by kernel_rfl) (by kernel_rfl) (by kernel_rfl) (anrpS_7_175 hc)
theorem anrpS_7_177 {z : zrpS_7} (hc : crpS_7_1 z) : arpS_7_1 z 13 32783 (qrpS_7_1 z 32783 []) (HrpS_7_1 z [0]) := by
  refine any_next [4, 6] (by kernel_rfl) (by decide) fun i hi => ?_
  rcases two2 hi with rfl | rfl
  · exact any_one _ (v := vrpS_7_1 z 4) tabok_rpS horpS_7_4 (trivial) (by
      refine Eq.trans (b := (match decide (0 ≤ (IntKind.i64.wrap ((yrpS_71 z) - 1) : Int) ∧ (IntKind.i64.wrap ((yrpS_71 z) - 1) : Int) < (((yrpS_76 z) : Nat) : Int)) with | true => some ((.ptr 0 (0 + (IntKind.i64.wrap ((yrpS_71 z) - 1)).toNat * 1)), [.at (yrpS_72 z) (.fl .f32 (yrpS_73 z)), .at (yrpS_74 z) (.fl .f32 (yrpS_75 z)), .at true (.as 1 [.sl 0 0 (yrpS_76 z), .sl 1 0 (yrpS_77 z)]), .at true (.as 1 [.nil, .nil]), .at true (.as 1 [.sl 5 0 (yrpS_78 z), .sl 6 0 (yrpS_79 z)]), .at true (.fl .f32 (yrpS_710 z)), .at true (.fl .f32 (yrpS_711 z)), .at true (.as 1 [.nil, .nil])]) | false => none)) (by kernel_rfl) ?_
      rw [hc.1]
      try rfl) (by kernel_rfl) (by kernel_rfl) (anrpS_7_167 hc)
  · exact any_one _ (v := vrpS_7_1 z 6) tabok_rpS horpS_7_6 (trivial) (by kernel_rfl) (by kernel_rfl) (by kernel_rfl) (anrpS_7_175 hc)
theorem anrpS_7_178 {z : zrpS_7} (hc : crpS_7_1 z) : arpS_7_1 z 14 15 (qrpS_7_1 z 15 []) (HrpS_7_1 z []) := by
  refine any_next [4, 6, 15] (by kernel_rfl) (by decide) fun i hi => ?_
  rcases two3 hi with rfl | rfl | rfl
  · exact any_one _ (v := vrpS_7_1 z 4) tabok_rpS horpS_7_4 (trivial) (by
      refine Eq.trans (b := (match decide (0 ≤ (IntKind.i64.wrap ((yrpS_71 z) - 1) : Int) ∧ (IntKind.i64.wrap ((yrpS_71 z) - 1) : Int) < (((yrpS_76 z) : Nat) : Int)) with | true => some ((.ptr 0 (0 + (IntKind.i64.wrap ((yrpS_71 z) - 1)).toNat * 1)), [.at (yrpS_72 z) (.fl .f32 (yrpS_73 z)), .at (yrpS_74 z) (.fl .f32 (yrpS_75 z)), .at true (.as 1 [.sl 0 0 (yrpS_76 z), .sl 1 0 (yrpS_77 z)]), .at true (.as 1 [.nil, .nil]), .at true (.as 1 [.sl 5 0 (yrpS_78 z), .sl 6 0 (yrpS_79 z)]), .at true (.fl .f32 (yrpS_710 z)), .at true (.fl .f32 (yrpS_711 z))]) | false => none)) (by kernel_rfl) ?_
      rw [hc.1]
      try rfl) (by kernel_rfl) (by kernel_rfl) (anrpS_7_168 hc)
  · exact any_one _ (v := vrpS_7_1 z 6) tabok_rpS horpS_7_6 (trivial) (by kernel_rfl) (by kernel_rfl) (by kernel_rfl) (anrpS_7_176 hc)
  · exact any_one _ (v := vrpS_7_1 z 15) tabok_rpS horpS_7_15 (trivial) (by kernel_rfl) (by kernel_rfl) (by kernel_rfl) (anrpS_7_177 hc)
theorem anrpS_7_179 {z : zrpS_7} (hc : crpS_7_1 z) : arpS_7_1 z 10 33735 (qrpS_7_1 z 33735 []) (HrpS_7_1 z [0]) := by
  refine any_next [3] (by kernel_rfl) (by decide) fun i hi => ?_
  obtain rfl := two1 hi
  · exact any_one _ (v := vrpS_7_1 z 3) tabok_rpS horpS_7_3 (trivial) (by kernel_rfl) (by kernel_rfl) (by kernel_rfl) (anrpS_7_169 hc)
theorem anrpS_7_180 {z : zrpS_7} (hc : crpS_7_1 z) : arpS_7_1 z 11 967 (qrpS_7_1 z 967 []) (HrpS_7_1 z []) := by
  refine any_next [3, 15] (by kernel_rfl) (by decide) fun i hi => ?_
  rcases two2 hi with rfl | rfl
  · exact any_one _ (v := vrpS_7_1 z 3) tabok_rpS horpS_7_3 (trivial) (by kernel_rfl) (by kernel_rfl) (by kernel_rfl) (anrpS_7_170 hc)
  · exact any_one _ (v := vrpS_7_1 z 15) tabok_rpS horpS_7_15 (trivial) (by kernel_rfl) (by kernel_rfl) (by kernel_rfl) (anrpS_7_179 hc)
theorem anrpS_7_181 {z : zrpS_7} (hc : crpS_7_1 z) : arpS_7_1 z 11 33223 (qrpS_7_1 z 33223 []) (HrpS_7_1 z [0]) := by
  refine any_next [3, 9] (by kernel_rfl) (by decide) fun i hi => ?_
  rcases two2 hi with rfl | rfl
  · exact any_one _ (v := vrpS_7_1 z 3) tabok_rpS horpS_7_3 (trivial) (by kernel_rfl) (by kernel_rfl) (by kernel_rfl) (anrpS_7_171 hc)
  · exact any_one _ (v := vrpS_7_1 z 9) tabok_rpS horpS_7_9 (trivial) (by
      refine Eq.trans (b := (match (yrpS_73 z)[0]? with | some e108 => some ((.fl .f32 e108), [.at (yrpS_72 z) (.fl .f32 (yrpS_73 z)), .at (yrpS_74 z) (.fl .f32 (yrpS_75 z)), .at true (.as 1 [.sl 0 0 (yrpS_76 z), .sl 1 0 (yrpS_77 z)]), .at true (.as 1 [.nil, .nil]), .at true (.as 1 [.sl 5 0 (yrpS_78 z), .sl 6 0 (yrpS_79 z)]), .at true (.fl .f32 (yrpS_710 z)), .at true (.fl .f32 (yrpS_711 z)), .at true (.as 1 [.nil, .nil])]) | none => none)) (by kernel_rfl) ?_
      rw [someD (hc.2.2.2.1)]
      try rfl) (by kernel_rfl) (by kernel_rfl) (anrpS_7_179 hc)
theorem anrpS_7_182 {z : zrpS_7} (hc : crpS_7_1 z) : arpS_7_1 z 12 455 (qrpS_7_1 z 455 []) (HrpS_7_1 z []) := by
  refine any_next [3, 9, 15] (by kernel_rfl) (by decide) fun i hi => ?_
  rcases two3 hi with rfl | rfl | rfl
  · exact any_one _ (v := vrpS_7_1 z 3) tabok_rpS horpS_7_3 (trivial) (by kernel_rfl) (by kernel_rfl) (by kernel_rfl) (anrpS_7_172 hc)
  · exact any_one _ (v := vrpS_7_1 z 9) tabok_rpS horpS_7_9 (trivial) (by
      refine Eq.trans (b := (match (yrpS_73 z)[0]? with | some e106 => some ((.fl .f32 e106), [.at (yrpS_72 z) (.fl .f32 (yrpS_73 z)), .at (yrpS_74 z) (.fl .f32 (yrpS_75 z)), .at true (.as 1 [.sl 0 0 (yrpS_76 z), .sl 1 0 (yrpS_77 z)]), .at true (.as 1 [.nil, .nil]), .at true (.as 1 [.sl 5 0 (yrpS_78 z), .sl 6 0 (yrpS_79 z)]), .at true (.fl .f32 (yrpS_710 z)), .at true (.fl .f32 (yrpS_711 z))]) | none => none)) (by kernel_rfl) ?_
      rw [someD (hc.2.2.2.1)]
      try rfl) (by kernel_rfl) (by kernel_rfl) (anrpS_7_180 hc)
  · exact any_one _ (v := vrpS_7_1 z 15) tabok_rpS horpS_7_15 (trivial) (by kernel_rfl) (by kernel_rfl) (by kernel_rfl) (anrpS_7_181 hc)
theorem anrpS_7_183 {z : zrpS_7} (hc : crpS_7_1 z) : arpS_7_1 z 12 32967 (qrpS_7_1 z 32967 []) (HrpS_7_1 z [0]) := by
  refine any_next [3, 8] (by kernel_rfl) (by decide) fun i hi => ?_
  rcases two2 hi with rfl | rfl
  · exact any_one _ (v := vrpS_7_1 z 3) tabok_rpS horpS_7_3 (trivial) (by kernel_rfl) (by kernel_rfl) (by kernel_rfl) (anrpS_7_173 hc)
  · exact any_one _ (v := vrpS_7_1 z 8) tabok_rpS horpS_7_8 (trivial) (by
      refine Eq.trans (b := (match decide (0 ≤ (0 : Int) ∧ (0 : Int) < (((yrpS_76 z) : Nat) : Int)) with | true => some ((.ptr 0 0), [.at (yrpS_72 z) (.fl .f32 (yrpS_73 z)), .at (yrpS_74 z) (.fl .f32 (yrpS_75 z)), .at true (.as 1 [.sl 0 0 (yrpS_76 z), .sl 1 0 (yrpS_77 z)]), .at true (.as 1 [.nil, .nil]), .at true (.as 1 [.sl 5 0 (yrpS_78 z), .sl 6 0 (yrpS_79 z)]), .at true (.fl .f32 (yrpS_710 z)), .at true (.fl .f32 (yrpS_711 z)), .at true (.as 1 [.nil, .nil])]) | false => none)) (by kernel_rfl) ?_
      rw [hc.2.2.1]
      try rfl) (by kernel_rfl) (by kernel_rfl) (anrpS_7_181 hc)
theorem anrpS_7_184 {z : zrpS_7} (hc : crpS_7_1 z) : arpS_7_1 z 13 199 (qrpS_7_1 z 199 []) (HrpS_7_1 z []) := by
  refine any_next [3, 8, 15] (by kernel_rfl) (by decide) fun i hi => ?_
  rcases two3 hi with rfl | rfl | rfl
  · exact any_one _ (v := vrpS_7_1 z 3) tabok_rpS horpS_7_3 (trivial) (by kernel_rfl) (by kernel_rfl) (by kernel_rfl) (anrpS_7_174 hc)
  · exact any_one _ (v := vrpS_7_1 z 8) tabok_rpS horpS_7_8 (trivial) (by
      refine Eq.trans (b := (match decide (0 ≤ (0 : Int) ∧ (0 : Int) < (((yrpS_76 z) : Nat) : Int)) with | true => some ((.ptr 0 0), [.at (yrpS_72 z) (.fl .f32 (yrpS_73 z)), .at (yrpS_74 z) (.fl .f32 (yrpS_75 z)), .at true (.as 1 [.sl 0 0 (yrpS_76 z), .sl 1 0 (yrpS_77 z)]), .at true (.as 1 [.nil, .nil]), .at true (.as 1 [.sl 5 0 (yrpS_78 z), .sl 6 0 (yrpS_79 z)]), .at true (.fl .f32 (yrpS_710 z)), .at true (.fl .f32 (yrpS_711 z))]) | false => none)) (by kernel_rfl) ?_
      rw [hc.2.2.1]
      try rfl) (by kernel_rfl) (by kernel_rfl) (anrpS_7_182 hc)
  · exact any_one _ (v := vrpS_7_1 z 15) tabok_rpS horpS_7_15 (trivial) (by kernel_rfl) (by kernel_rfl) (by kernel_rfl) (anrpS_7_183 hc)
theorem anrpS_7_185 {z : zrpS_7} (hc : crpS_7_1 z) : arpS_7_1 z 13 32839 (qrpS_7_1 z 32839 []) (HrpS_7_1 z [0]) := by
  refine any_next [3, 7] (by kernel_rfl) (by decide) fun i hi => ?_
  rcases two2 hi with rfl | rfl
  · exact any_one _ (v := vrpS_7_1 z 3) tabok_rpS horpS_7_3 (trivial) (by kernel_rfl) (by kernel_rfl) (by kernel_rfl) (anrpS_7_175 hc)
  · exact any_one _ (v := vrpS_7_1 z 7) tabok_rpS horpS_7_7 (trivial) (by kernel_rfl) (by kernel_rfl) (by kernel_rfl) (anrpS_7_183 hc)
theorem anrpS_7_186 {z : zrpS_7} (hc : crpS_7_1 z) : arpS_7_1 z 14 71 (qrpS_7_1 z 71 []) (HrpS_7_1 z []) := by
  refine any_next [3, 7, 15] (by kernel_rfl) (by decide) fun i hi => ?_
  rcases two3 hi with rfl | rfl | rfl
  · exact any_one _ (v := vrpS_7_1 z 3) tabok_rpS horpS_7_3 (trivial) (by kernel_rfl) (by kernel_rfl) (by kernel_rfl) (anrpS_7_176 hc)
  · exact any_one _ (v := vrpS_7_1 z 7) tabok_rpS horpS_7_7 (trivial) (by kernel_rfl) (by kernel_rfl) (by kernel_rfl) (anrpS_7_184 hc)
  · exact any_one _ (v := vrpS_7_1 z 15) tabok_rpS horpS_7_15 (trivial) (by kernel_rfl) (by kernel_rfl) (by kernel_rfl) (anrpS_7_185 hc)
theorem anrpS_7_187 {z : zrpS_7} (hc : crpS_7_1 z) : arpS_7_1 z 14 32775 (qrpS_7_1 z 32775 []) (HrpS_7_1 z [0]) := by
  refine any_next [3, 6] (by kernel_rfl) (by decide) fun i hi => ?_
  rcases two2 hi with rfl | rfl
  · exact any_one _ (v := vrpS_7_1 z 3) tabok_rpS horpS_7_3 (trivial) (by kernel_rfl) (by kernel_rfl) (by kernel_rfl) (anrpS_7_177 hc)
  · exact any_one _ (v := vrpS_7_1 z 6) tabok_rpS horpS_7_6 (trivial) (by kernel_rfl) (by kernel_rfl) (by kernel_rfl) (anrpS_7_185 hc)
theorem anrpS_7_188 {z : zrpS_7} (hc : crpS_7_1 z) : arpS_7_1 z 15 7 (qrpS_7_1 z 7 []) (HrpS_7_1 z []) := by
  refine any_next [3, 6, 15] (by kernel_rfl) (by decide) fun i hi => ?_
  rcases two3 hi with rfl | rfl | rfl
  · exact any_one _ (v := vrpS_7_1 z 3) tabok_rpS horpS_7_3 (trivial) (by kernel_rfl) (by kernel_rfl) (by kernel_rfl) (anrpS_7_178 hc)
  · exact any_one _ (v := vrpS_7_1 z 6) tabok_rpS horpS_7_6 (trivial) (by kernel_rfl) (by kernel_rfl) (by kernel_rfl) (anrpS_7_186 hc)
  · exact any_one _ (v := vrpS_7_1 z 15) tabok_rpS horpS_7_15 (trivial) (by kernel_rfl) (by kernel_rfl) (by kernel_rfl) (anrpS_7_187 hc)
theorem anrpS_7_189 {z : zrpS_7} (hc : crpS_7_1 z) : arpS_7_1 z 11 33731 (qrpS_7_1 z 33731 []) (HrpS_7_1 z [0]) := by
  refine any_next [2] (by kernel_rfl) (by decide) fun i hi => ?_
  obtain rfl := two1 hi
  · exact any_one _ (v := vrpS_7_1 z 2) tabok_rpS horpS_7_2 (trivial) (by kernel_rfl) (by kernel_rfl) (by kernel_rfl) (anrpS_7_179 hc)
theorem anrpS_7_190 {z : zrpS_7} (hc : crpS_7_1 z) : arpS_7_1 z 12 963 (qrpS_7_1 z 963 []) (HrpS_7_1 z []) := by
  refine any_next [2, 15] (by kernel_rfl) (by decide) fun i hi => ?_
  rcases two2 hi with rfl | rfl
  · exact any_one _ (v := vrpS_7_1 z 2) tabok_rpS horpS_7_2 (trivial) (by kernel_rfl) (by kernel_rfl) (by kernel_rfl) (anrpS_7_180 hc)
  · exact any_one _ (v := vrpS_7_1 z 15) tabok_rpS horpS_7_15 (trivial) (by kernel_rfl) (by kernel_rfl) (by kernel_rfl) (anrpS_7_189 hc)
theorem anrpS_7_191 {z : zrpS_7} (hc : crpS_7_1 z) : arpS_7_1 z 12 33219 (qrpS_7_1 z 33219 []) (HrpS_7_1 z [0]) := by
  refine any_next [2, 9] (by kernel_rfl) (by decide) fun i hi => ?_
  rcases two2 hi with rfl | rfl
  · exact any_one _ (v := vrpS_7_1 z 2) tabok_rpS horpS_7_2 (trivial) (by kernel_rfl) (by kernel_rfl) (by kernel_rfl) (anrpS_7_181 hc)
  · exact any_one _ (v := vrpS_7_1 z 9) tabok_rpS horpS_7_9 (trivial) (by
      refine Eq.trans (b := (match (yrpS_73 z)[0]? with | some e112 => some ((.fl .f32 e112), [.at (yrpS_72 z) (.fl .f32 (yrpS_73 z)), .at (yrpS_74 z) (.fl .f32 (yrpS_75 z)), .at true (.as 1 [.sl 0 0 (yrpS_76 z), .sl 1 0 (yrpS_77 z)]), .at true (.as 1 [.nil, .nil]), .at true (.as 1 [.sl 5 0 (yrpS_78 z), .sl 6 0 (yrpS_79 z)]), .at true (.fl .f32 (yrpS_710 z)), .at true (.fl .f32 (yrpS_711 z)), .at true (.as 1 [.nil, .nil])]) | none => none)) (by kernel_rfl) ?_
      rw [someD (hc.2.2.2.1)]
      try rfl) (by kernel_rfl) (by kernel_rfl) (anrpS_7_189 hc)
theorem anrpS_7_192 {z : zrpS_7} (hc : crpS_7_1 z) : arpS_7_1 z 13 451 (qrpS_7_1 z 451 []) (HrpS_7_1 z []) := by
  refine any_next [2, 9, 15] (by kernel_rfl) (by decide) fun i hi => ?_
  rcases two3 hi with rfl | rfl | rfl
  · exact any_one _ (v := vrpS_7_1 z 2) tabok_rpS horpS_7_2 (trivial) (by kernel_rfl) (by kernel_rfl) (by kernel_rfl) (anrpS_7_182 hc)
  · exact any_one _ (v := vrpS_7_1 z 9) tabok_rpS horpS_7_9 (trivial) (by
      refine Eq.trans (b := (match (yrpS_73 z)[0]? with | some e110 => some ((.fl .f32 e110), [.at (yrpS_72 z) (.fl .f32 (yrpS_73 z)), .at (yrpS_74 z) (.fl .f32 (yrpS_75 z)), .at true (.as 1 [.sl 0 0 (yrpS_76 z), .sl 1 0 (yrpS_77 z)]), .at true (.as 1 [.nil, .nil]), .at true (.as 1 [.sl 5 0 (yrpS_78 z), .sl 6 0 (yrpS_79 z)]), .at true (.fl .f32 (yrpS_710 z)), .at true (.fl .f32 (yrpS_711 z))]) | none => none)) (by kernel_rfl) ?_
      rw [someD (hc.2.2.2.1)]
      try rfl) (by kernel_rfl) (by kernel_rfl) (anrpS_7_190 hc)
  · exact any_one _ (v := vrpS_7_1 z 15) tabok_rpS horpS_7_15 (trivial) (by kernel_rfl) (by kernel_rfl) (by kernel_rfl) (anrpS_7_191 hc)
theorem anrpS_7_193 {z : zrpS_7} (hc : crpS_7_1 z) : arpS_7_1 z 13 32963 (qrpS_7_1 z 32963 []) (HrpS_7_1 z [0]) := by
  refine any_next [2, 8] (by kernel_rfl) (by decide) fun i hi => ?_
  rcases two2 hi with rfl | rfl
  · exact any_one _ (v := vrpS_7_1 z 2) tabok_rpS horpS_7_2 (trivial) (by kernel_rfl) (by kernel_rfl) (by kernel_rfl) (anrpS_7_183 hc)
  · exact any_one _ (v := vrpS_7_1 z 8) tabok_rpS horpS_7_8 (trivial) (by
      refine Eq.trans (b := (match decide (0 ≤ (0 : Int) ∧ (0 : Int) < (((yrpS_76 z) : Nat) : Int)) with | true => some ((.ptr 0 0), [.at (yrpS_72 z) (.fl .f32 (yrpS_73 z)), .at (yrpS_74 z) (.fl .f32 (yrpS_75 z)), .at true (.as 1 [.sl 0 0 (yrpS_76 z), .sl 1 0 (yrpS_77 z)]), .at true (.as 1 [.nil, .nil]), .at true (.as 1 [.sl 5 0 (yrpS_78 z), .sl 6 0 (yrpS_79 z)]), .at true (.fl .f32 (yrpS_710 z)), .at true (.fl .f32 (yrpS_711 z)), .at true (.as 1 [.nil, .nil])]) | false => none)) (by kernel_rfl) ?_
      rw [hc.2.2.1]
      try rfl) (by kernel_rfl) (by kernel_rfl) (anrpS_7_191 hc)
theorem anrpS_7_194 {z : zrpS_7} (hc : crpS_7_1 z) : arpS_7_1 z 14 195 (qrpS_7_1 z 195 []) (HrpS_7_1 z []) := by
  refine any_next [2, 8, 15] (by kernel_rfl) (by decide) fun i hi => ?_
  rcases two3 hi with rfl | rfl | rfl
  · exact any_one _ (v := vrpS_7_1 z 2) tabok_rpS horpS_7_2 (trivial) (by kernel_rfl) (by kernel_rfl) (by kernel_rfl) (anrpS_7_184 hc)
  · exact any_one _ (v := vrpS_7_1 z 8) tabok_rpS horpS_7_8 (trivial) (by
      refine Eq.trans (b := (match decide (0 ≤ (0 : Int) ∧ (0 : Int) < (((yrpS_76 z) : Nat) : Int)) with | true => some ((.ptr 0 0), [.at (yrpS_72 z) (.fl .f32 (yrpS_73 z)), .at (yrpS_74 z) (.fl .f32 (yrpS_75 z)), .at true (.as 1 [.sl 0 0 (yrpS_76 z), .sl 1 0 (yrpS_77 z)]), .at true (.as 1 [.nil, .nil]), .at true (.as 1 [.sl 5 0 (yrpS_78 z), .sl 6 0 (yrpS_79 z)]), .at true (.fl .f32 (yrpS_710 z)), .at true (.fl .f32 (yrpS_711 z))]) | false => none)) (by kernel_rfl) ?_
      rw [hc.2.2.1]
      try rfl) (by kernel_rfl) (by kernel_rfl) (anrpS_7_192 hc)
  · exact any_one _ (v := vrpS_7_1 z 15) tabok_rpS horpS_7_15 (trivial) (by kernel_rfl) (by kernel_rfl) (by kernel_rfl) (anrpS_7_193 hc)
theorem anrpS_7_195 {z : zrpS_7} (hc : crpS_7_1 z) : arpS_7_1 z 14 32835 (qrpS_7_1 z 32835 []) (HrpS_7_1 z [0]) := by
  refine any_next [2, 7] (by kernel_rfl) (by decide) fun i hi => ?_
  rcases two2 hi with rfl | rfl
  · exact any_one _ (v := vrpS_7_1 z 2) tabok_rpS horpS_7_2 (trivial) (by kernel_rfl) (by kernel_rfl) (by kernel_rfl) (anrpS_7_185 hc)
  · exact any_one _ (v := vrpS_7_1 z 7) tabok_rpS horpS_7_7 (trivial) (by kernel_rfl) (by kernel_rfl) (by kernel_rfl) (anrpS_7_193 hc)
theorem anrpS_7_196 {z : zrpS_7} (hc : crpS_7_1 z) : arpS_7_1 z 15 67 (qrpS_7_1 z 67 []) (HrpS_7_1 z []) := by
  refine any_next [2, 7, 15] (by kernel_rfl) (by decide) fun i hi => ?_
  rcases two3 hi with rfl | rfl | rfl
  · exact any_one _ (v := vrpS_7_1 z 2) tabok_rpS horpS_7_2 (trivial) (by kernel_rfl) (by kernel_rfl) (by kernel_rfl) (anrpS_7_186 hc)
  · exact any_one _ (v := vrpS_7_1 z 7) tabok_rpS horpS_7_7 (trivial) (by kernel_rfl) (by kernel_rfl) (by kernel_rfl) (anrpS_7_194 hc)
  · exact any_one _ (v := vrpS_7_1 z 15) tabok_rpS horpS_7_15 (trivial) (by kernel_rfl) (by kernel_rfl) (by kernel_rfl) (anrpS_7_195 hc)
theorem anrpS_7_197 {z : zrpS_7} (hc : crpS_7_1 z) : arpS_7_1 z 15 32771 (qrpS_7_1 z 32771 []) (HrpS_7_1 z [0]) := by
  refine any_next [2, 6] (by kernel_rfl) (by decide) fun i hi => ?_
  rcases two2 hi with rfl | rfl
  · exact any_one _ (v := vrpS_7_1 z 2) tabok_rpS horpS_7_2 (trivial) (by kernel_rfl) (by kernel_rfl) (by kernel_rfl) (anrpS_7_187 hc)
  · exact any_one _ (v := vrpS_7_1 z 6) tabok_rpS horpS_7_6 (trivial) (by kernel_rfl) (by kernel_rfl) (by kernel_rfl) (anrpS_7_195 hc)
theorem anrpS_7_198 {z : zrpS_7} (hc : crpS_7_1 z) : arpS_7_1 z 16 3 (qrpS_7_1 z 3 []) (HrpS_7_1 z []) := by
  refine any_next [2, 6, 15] (by kernel_rfl) (by decide) fun i hi => ?_
  rcases two3 hi with rfl | rfl | rfl
  · exact any_one _ (v := vrpS_7_1 z 2) tabok_rpS horpS_7_2 (trivial) (by kernel_rfl) (by kernel_rfl) (by kernel_rfl) (anrpS_7_188 hc)
  · exact any_one _ (v := vrpS_7_1 z 6) tabok_rpS horpS_7_6 (trivial) (by kernel_rfl) (by kernel_rfl) (by kernel_rfl) (anrpS_7_196 hc)
  · exact any_one _ (v := vrpS_7_1 z 15) tabok_rpS horpS_7_15 (trivial) (by kernel_rfl) (by kernel_rfl) (by kernel_rfl) (anrpS_7_197 hc)
theorem anrpS_7_199 {z : zrpS_7} (hc : crpS_7_1 z) : arpS_7_1 z 10 33741 (qrpS_7_1 z 33741 []) (HrpS_7_1 z [0]) := by
  refine any_next [1] (by kernel_rfl) (by decide) fun i hi => ?_
  obtain rfl := two1 hi
  · exact any_one _ (v := vrpS_7_1 z 1) tabok_rpS horpS_7_1 (trivial) (by kernel_rfl) (by kernel_rfl) (by kernel_rfl) (anrpS_7_169 hc)
theorem anrpS_7_200 {z : zrpS_7} (hc : crpS_7_1 z) : arpS_7_1 z 11 973 (qrpS_7_1 z 973 []) (HrpS_7_1 z []) := by
  refine any_next [1, 15] (by kernel_rfl) (by decide) fun i hi => ?_
  rcases two2 hi with rfl | rfl
  · exact any_one _ (v := vrpS_7_1 z 1) tabok_rpS horpS_7_1 (trivial) (by kernel_rfl) (by kernel_rfl) (by kernel_rfl) (anrpS_7_170 hc)
  · exact any_one _ (v := vrpS_7_1 z 15) tabok_rpS horpS_7_15 (trivial) (by kernel_rfl) (by kernel_rfl) (by kernel_rfl) (anrpS_7_199 hc)
theorem anrpS_7_201 {z : zrpS_7} (hc : crpS_7_1 z) : arpS_7_1 z 11 33229 (qrpS_7_1 z 33229 []) (HrpS_7_1 z [0]) := by
  refine any_next [1, 9] (by kernel_rfl) (by decide) fun i hi => ?_
  rcases two2 hi with rfl | rfl
  · exact any_one _ (v := vrpS_7_1 z 1) tabok_rpS horpS_7_1 (trivial) (by kernel_rfl) (by kernel_rfl) (by kernel_rfl) (anrpS_7_171 hc)
  · exact any_one _ (v := vrpS_7_1 z 9) tabok_rpS horpS_7_9 (trivial) (by
      refine Eq.trans (b := (match (yrpS_73 z)[0]? with | some e116 => some ((.fl .f32 e116), [.at (yrpS_72 z) (.fl .f32 (yrpS_73 z)), .at (yrpS_74 z) (.fl .f32 (yrpS_75 z)), .at true (.as 1 [.sl 0 0 (yrpS_76 z), .sl 1 0 (yrpS_77 z)]), .at true (.as 1 [.nil, .nil]), .at true (.as 1 [.sl 5 0 (yrpS_78 z), .sl 6 0 (yrpS_79 z)]), .at true (.fl .f32 (yrpS_710 z)), .at true (.fl .f32 (yrpS_711 z)), .at true (.as 1 [.nil, .nil])]) | none => none)) (by kernel_rfl) ?_
      rw [someD (hc.2.2.2.1)]
      try rfl) (by kernel_rfl) (by kernel_rfl) (anrpS_7_199 hc)
theorem anrpS_7_202 {z : zrpS_7} (hc : crpS_7_1 z) : arpS_7_1 z 12 461 (qrpS_7_1 z 461 []) (HrpS_7_1 z []) := by
  refine any_next [1, 9, 15] (by kernel_rfl) (by decide) fun i hi => ?_
  rcases two3 hi with rfl | rfl | rfl
  · exact any_one _ (v := vrpS_7_1 z 1) tabok_rpS horpS_7_1 (trivial) (by kernel_rfl) (by kernel_rfl) (by kernel_rfl) (anrpS_7_172 hc)
  · exact any_one _ (v := vrpS_7_1 z 9) tabok_rpS horpS_7_9 (trivial) (by
      refine Eq.trans (b := (match (yrpS_73 z)[0]? with | some e114 => some ((.fl .f32 e114), [.at (yrpS_72 z) (.fl .f32 (yrpS_73 z)), .at (yrpS_74 z) (.fl .f32 (yrpS_75 z)), .at true (.as 1 [.sl 0 0 (yrpS_76 z), .sl 1 0 (yrpS_77 z)]), .at true (.as 1 [.nil, .nil]), .at true (.as 1 [.sl 5 0 (yrpS_78 z), .sl 6 0 (yrpS_79 z)]), .at true (.fl .f32 (yrpS_710 z)), .at true (.fl .f32 (yrpS_711 z))]) | none => none)) (by kernel_rfl) ?_
      rw [someD (hc.2.2.2.1)]
      try rfl) (by kernel_rfl) (by kernel_rfl) (anrpS_7_200 hc)
  · exact any_one _ (v := vrpS_7_1 z 15) tabok_rpS horpS_7_15 (trivial) (by kernel_rfl) (by kernel_rfl) (by kernel_rfl) (anrpS_7_201 hc)
theorem anrpS_7_203 {z : zrpS_7} (hc : crpS_7_1 z) : arpS_7_1 z 12 32973 (qrpS_7_1 z 32973 []) (HrpS_7_1 z [0]) := by
  refine any_next [1, 8] (by kernel_rfl) (by decide) fun i hi => ?_
  rcases two2 hi with rfl | rfl
  · exact any_one _ (v := vrpS_7_1 z 1) tabok_rpS horpS_7_1 (trivial) (by kernel_rfl) (by kernel_rfl) (by kernel_rfl) (anrpS_7_173 hc)
  · exact any_one _ (v := vrpS_7_1 z 8) tabok_rpS horpS_7_8 (trivial) (by
      refine Eq.trans (b := (match decide (0 ≤ (0 : Int) ∧ (0 : Int) < (((yrpS_76 z) : Nat) : Int)) with | true => some ((.ptr 0 0), [.at (yrpS_72 z) (.fl .f32 (yrpS_73 z)), .at (yrpS_74 z) (.fl .f32 (yrpS_75 z)), .at true (.as 1 [.sl 0 0 (yrpS_76 z), .sl 1 0 (yrpS_77 z)]), .at true (.as 1 [.nil, .nil]), .at true (.as 1 [.sl 5 0 (yrpS_78 z), .sl 6 0 (yrpS_79 z)]), .at true (.fl .f32 (yrpS_710 z)), .at true (.fl .f32 (yrpS_711 z)), .at true (.as 1 [.nil, .nil])]) | false => none)) (by kernel_rfl) ?_
      rw [hc.2.2.1]
      try rfl) (by kernel_rfl) (by kernel_rfl) (anrpS_7_201 hc)
theorem anrpS_7_204 {z : zrpS_7} (hc : crpS_7_1 z) : arpS_7_1 z 13 205 (qrpS_7_1 z 205 []) (HrpS_7_1 z []) := by
  refine any_next [1, 8, 15] (by kernel_rfl) (by decide) fun i hi => ?_
  rcases two3 hi with rfl | rfl | rfl
  · exact any_one _ (v := vrpS_7_1 z 1) tabok_rpS horpS_7_1 (trivial) (by kernel_rfl) (by kernel_rfl) (by kernel_rfl) (anrpS_7_174 hc)
  · exact any_one _ (v := vrpS_7_1 z 8) tabok_rpS horpS_7_8 (trivial) (by
      refine Eq.trans (b := (match decide (0 ≤ (0 : Int) ∧ (0 : Int) < (((yrpS_76 z) : Nat) : Int)) with | true => some ((.ptr 0 0), [.at (yrpS_72 z) (.fl .f32 (yrpS_73 z)), .at (yrpS_74 z) (.fl .f32 (yrpS_75 z)), .at true (.as 1 [.sl 0 0 (yrpS_76 z), .sl 1 0 (yrpS_77 z)]), .at true (.as 1 [.nil, .nil]), .at true (.as 1 [.sl 5 0 (yrpS_78 z), .sl 6 0 (yrpS_79 z)]), .at true (.fl .f32 (yrpS_710 z)), .at true (.fl .f32 (yrpS_711 z))]) | false => none)) (by kernel_rfl) ?_
      rw [hc.2.2.1]
      try rfl) (by kernel_rfl) (by kernel_rfl) (anrpS_7_202 hc)
  · exact any_one _ (v := vrpS_7_1 z 15) tabok_rpS horpS_7_15 (trivial) (by kernel_rfl) (by kernel_rfl) (by kernel_rfl) (anrpS_7_203 hc)
theorem anrpS_7_205 {z : zrpS_7} (hc : crpS_7_1 z) : arpS_7_1 z 13 32845 (qrpS_7_1 z 32845 []) (HrpS_7_1 z [0]) := by
  refine any_next [1, 7] (by kernel_rfl) (by decide) fun i hi => ?_
  rcases two2 hi with rfl | rfl
  · exact any_one _ (v := vrpS_7_1 z 1) tabok_rpS horpS_7_1 (trivial) (by kernel_rfl) (by kernel_rfl) (by kernel_rfl) (anrpS_7_175 hc)
  · exact any_one _ (v := vrpS_7_1 z 7) tabok_rpS horpS_7_7 (trivial) (by kernel_rfl) (by kernel_rfl) (by kernel_rfl) (anrpS_7_203 hc)
theorem anrpS_7_206 {z : zrpS_7} (hc : crpS_7_1 z) : arpS_7_1 z 14 77 (qrpS_7_1 z 77 []) (HrpS_7_1 z []) := by
  refine any_next [1, 7, 15] (by kernel_rfl) (by decide) fun i hi => ?_
  rcases two3 hi with rfl | rfl | rfl
  · exact any_one _ (v := vrpS_7_1 z 1) tabok_rpS horpS_7_1 (trivial) (by kernel_rfl) (by kernel_rfl) (by kernel_rfl) (anrpS_7_176 hc)
  · exact any_one _ (v := vrpS_7_1 z 7) tabok_rpS horpS_7_7 (trivial) (by kernel_rfl) (by kernel_rfl) (by kernel_rfl) (anrpS_7_204 hc)
  · exact any_one _ (v := vrpS_7_1 z 15) tabok_rpS horpS_7_15 (trivial) (by kernel_rfl) (by kernel_rfl) (by kernel_rfl) (anrpS_7_205 hc)
theorem anrpS_7_207 {z : zrpS_7} (hc : crpS_7_1 z) : arpS_7_1 z 14 32781 (qrpS_7_1 z 32781 []) (HrpS_7_1 z [0]) := by
  refine any_next [1, 6] (by kernel_rfl) (by decide) fun i hi => ?_
  rcases two2 hi with rfl | rfl
  · exact any_one _ (v := vrpS_7_1 z 1) tabok_rpS horpS_7_1 (trivial) (by kernel_rfl) (by kernel_rfl) (by kernel_rfl) (anrpS_7_177 hc)
  · exact any_one _ (v := vrpS_7_1 z 6) tabok_rpS horpS_7_6 (trivial) (by kernel_rfl) (by kernel_rfl) (by kernel_rfl) (anrpS_7_205 hc)
theorem anrpS_7_208 {z : zrpS_7} (hc : crpS_7_1 z) : arpS_7_1 z 15 13 (qrpS_7_1 z 13 []) (HrpS_7_1 z []) := by
  refine any_next [1, 6, 15] (by kernel_rfl) (by decide) fun i hi => ?_
  rcases two3 hi with rfl | rfl | rfl
  · exact any_one _ (v := vrpS_7_1 z 1) tabok_rpS horpS_7_1 (trivial) (by kernel_rfl) (by kernel_rfl) (by kernel_rfl) (anrpS_7_178 hc)
  · exact any_one _ (v := vrpS_7_1 z 6) tabok_rpS horpS_7_6 (trivial) (by kernel_rfl) (by kernel_rfl) (by kernel_rfl) (anrpS_7_206 hc)
  · exact any_one _ (v := vrpS_7_1 z 15) tabok_rpS horpS_7_15 (trivial) (by kernel_rfl) (by kernel_rfl) (by kernel_rfl) (anrpS_7_207 hc)
theorem anrpS_7_209 {z : zrpS_7} (hc : crpS_7_1 z) : arpS_7_1 z 11 33733 (qrpS_7_1 z 33733 []) (HrpS_7_1 z [0]) := by
  refine any_next [1, 3] (by kernel_rfl) (by decide) fun i hi => ?_
  rcases two2 hi with rfl | rfl
  · exact any_one _ (v := vrpS_7_1 z 1) tabok_rpS horpS_7_1 (trivial) (by kernel_rfl) (by kernel_rfl) (by kernel_rfl) (anrpS_7_179 hc)
  · exact any_one _ (v := vrpS_7_1 z 3) tabok_rpS horpS_7_3 (trivial) (by kernel_rfl) (by kernel_rfl) (by kernel_rfl) (anrpS_7_199 hc)
theorem anrpS_7_210 {z : zrpS_7} (hc : crpS_7_1 z) : arpS_7_1 z 12 965 (qrpS_7_1 z 965 []) (HrpS_7_1 z []) := by
  refine any_next [1, 3, 15] (by kernel_rfl) (by decide) fun i hi => ?_
  rcases two3 hi with rfl | rfl | rfl
  · exact any_one _ (v := vrpS_7_1 z 1) tabok_rpS horpS_7_1 (trivial) (by kernel_rfl) (by kernel_rfl) (by kernel_rfl) (anrpS_7_180 hc)
  · exact any_one _ (v := vrpS_7_1 z 3) tabok_rpS horpS_7_3 (trivial) (by kernel_rfl) (by kernel_rfl) (by kernel_rfl) (anrpS_7_200 hc)
  · exact any_one _ (v := vrpS_7_1 z 15) tabok_rpS horpS_7_15 (trivial) (by kernel_rfl) (by kernel_rfl) (by kernel_rfl) (anrpS_7_209 hc)
theorem anrpS_7_211 {z : zrpS_7} (hc : crpS_7_1 z) : arpS_7_1 z 12 33221 (qrpS_7_1 z 33221 []) (HrpS_7_1 z [0]) := by
  refine any_next [1, 3, 9] (by kernel_rfl) (by decide) fun i hi => ?_
  rcases two3 hi with rfl | rfl | rfl
  · exact any_one _ (v := vrpS_7_1 z 1) tabok_rpS horpS_7_1 (trivial) (by kernel_rfl) (by kernel_rfl) (by kernel_rfl) (anrpS_7_181 hc)
  · exact any_one _ (v := vrpS_7_1 z 3) tabok_rpS horpS_7_3 (trivial) (by kernel_rfl) (by kernel_rfl) (by kernel_rfl) (anrpS_7_201 hc)
  · exact any_one _ (v := vrpS_7_1 z 9) tabok_rpS horpS_7_9 (trivial) (by
      refine Eq.trans (b := (match (yrpS_73 z)[0]? with | some e120 => some ((.fl .f32 e120), [.at (yrpS_72 z) (.fl .f32 (yrpS_73 z)), .at (yrpS_74 z) (.fl .f32 (yrpS_75 z)), .at true (.as 1 [.sl 0 0 (yrpS_76 z), .sl 1 0 (yrpS_77 z)]), .at true (.as 1 [.nil, .nil]), .at true (.as 1 [.sl 5 0 (yrpS_78 z), .sl 6 0 (yrpS_79 z)]), .at true (.fl .f32 (yrpS_710 z)), .at true (.fl .f32 (yrpS_711 z)), .at true (.as 1 [.nil, .nil])]) | none => none)) (by kernel_rfl) ?_
      rw [someD (hc.2.2.2.1)]
      try rfl) (by kernel_rfl) (by kernel_rfl) (anrpS_7_209 hc)
theorem anrpS_7_212 {z : zrpS_7} (hc : crpS_7_1 z) : arpS_7_1 z 13 453 (qrpS_7_1 z 453 []) (HrpS_7_1 z []) := by
  refine any_next [1, 3, 9, 15] (by kernel_rfl) (by decide) fun i hi => ?_
  rcases two4 hi with rfl | rfl | rfl | rfl
  · exact any_one _ (v := vrpS_7_1 z 1) tabok_rpS horpS_7_1 (trivial) (by kernel_rfl) (by kernel_rfl) (by kernel_rfl) (anrpS_7_182 hc)
  · exact any_one _ (v := vrpS_7_1 z 3) tabok_rpS horpS_7_3 (trivial) (by kernel_rfl) (by kernel_rfl) (by kernel_rfl) (anrpS_7_202 hc)
  · exact any_one _ (v := vrpS_7_1 z 9) tabok_rpS horpS_7_9 (trivial) (by
      refine Eq.trans (b := (match (yrpS_73 z)[0]? with | some e118 => some ((.fl .f32 e118), [.at (yrpS_72 z) (.fl .f32 (yrpS_73 z)), .at (yrpS_74 z) (.fl .f32 (yrpS_75 z)), .at true (.as 1 [.sl 0 0 (yrpS_76 z), .sl 1 0 (yrpS_77 z)]), .at true (.as 1 [.nil, .nil]), .at true (.as 1 [.sl 5 0 (yrpS_78 z), .sl 6 0 (yrpS_79 z)]), .at true (.fl .f32 (yrpS_710 z)), .at true (.fl .f32 (yrpS_711 z))]) | none => none)) (by kernel_rfl) ?_
      rw [someD (hc.2.2.2.1)]
      try rfl) (by kernel_rfl) (by kernel_rfl) (anrpS_7_210 hc)
  · exact any_one _ (v := vrpS_7_1 z 15) tabok_rpS horpS_7_15 (trivial) (by kernel_rfl) (by kernel_rfl) (by kernel_rfl) (anrpS_7_211 hc)
theorem anrpS_7_213 {z : zrpS_7} (hc : crpS_7_1 z) : arpS_7_1 z 13 32965 (qrpS_7_1 z 32965 []) (HrpS_7_1 z [0]) := by
  refine any_next [1, 3, 8] (by kernel_rfl) (by decide) fun i hi => ?_
  rcases two3 hi with rfl | rfl | rfl
  · exact any_one _ (v := vrpS_7_1 z 1) tabok_rpS horpS_7_1 (trivial) (by kernel_rfl) (by kernel_rfl) (by kernel_rfl) (anrpS_7_183 hc)
  · exact any_one _ (v := vrpS_7_1 z 3) tabok_rpS horpS_7_3 (trivial) (by kernel_rfl) (by kernel_rfl) (by kernel_rfl) (anrpS_7_203 hc)
  · exact any_one _ (v := vrpS_7_1 z 8) tabok_rpS horpS_7_8 (trivial) (by
      refine Eq.trans (b := (match decide (0 ≤ (0 : Int) ∧ (0 : Int) < (((yrpS_76 z) : Nat) : Int)) with | true => some ((.ptr 0 0), [.at (yrpS_72 z) (.fl .f32 (yrpS_73 z)), .at (yrpS_74 z) (.fl .f32 (yrpS_75 z)), .at true (.as 1 [.sl 0 0 (yrpS_76 z), .sl 1 0 (yrpS_77 z)]), .at true (.as 1 [.nil, .nil]), .at true (.as 1 [.sl 5 0 (yrpS_78 z), .sl 6 0 (yrpS_79 z)]), .at true (.fl .f32 (yrpS_710 z)), .at true (.fl .f32 (yrpS_711 z)), .at true (.as 1 [.nil, .nil])]) | false => none)) (by kernel_rfl) ?_
      rw [hc.2.2.1]
      try rfl) (by kernel_rfl) (by kernel_rfl) (anrpS_7_211 hc)
theorem anrpS_7_214 {z : zrpS_7} (hc : crpS_7_1 z) : arpS_7_1 z 14 197 (qrpS_7_1 z 197 []) (HrpS_7_1 z []) := by
  refine any_next [1, 3, 8, 15] (by kernel_rfl) (by decide) fun i hi => ?_
  rcases two4 hi with rfl | rfl | rfl | rfl
  · exact any_one _ (v := vrpS_7_1 z 1) tabok_rpS horpS_7_1 (trivial) (by kernel_rfl) (by kernel_rfl) (by kernel_rfl) (anrpS_7_184 hc)
  · exact any_one _ (v := vrpS_7_1 z 3) tabok_rpS horpS_7_3 (trivial) (by kernel_rfl) (by kernel_rfl) (by kernel_rfl) (anrpS_7_204 hc)
  · exact any_one _ (v := vrpS_7_1 z 8) tabok_rpS horpS_7_8 (trivial) (by
      refine Eq.trans (b := (match decide (0 ≤ (0 : Int) ∧ (0 : Int) < (((yrpS_76 z) : Nat) : Int)) with | true => some ((.ptr 0 0), [.at (yrpS_72 z) (.fl .f32 (yrpS_73 z)), .at (yrpS_74 z) (.fl .f32 (yrpS_75 z)), .at true (.as 1 [.sl 0 0 (yrpS_76 z), .sl 1 0 (yrpS_77 z)]), .at true (.as 1 [.nil, .nil]), .at true (.as 1 [.sl 5 0 (yrpS_78 z), .sl 6 0 (yrpS_79 z)]), .at true (.fl .f32 (yrpS_710 z)), .at true (.fl .f32 (yrpS_711 z))]) | false => none)) (by kernel_rfl) ?_
      rw [hc.2.2.1]
      try rfl) (by kernel_rfl) (by kernel_rfl) (anrpS_7_212 hc)
  · exact any_one _ (v := vrpS_7_1 z 15) tabok_rpS horpS_7_15 (trivial) (by kernel_rfl) (by kernel_rfl) (by kernel_rfl) (anrpS_7_213 hc)
theorem anrpS_7_215 {z : zrpS_7} (hc : crpS_7_1 z) : arpS_7_1 z 14 32837 (qrpS_7_1 z 32837 []) (HrpS_7_1 z [0]) := by
  refine any_next [1, 3, 7] (by kernel_rfl) (by decide) fun i hi => ?_
  rcases two3 hi with rfl | rfl | rfl
  · exact any_one _ (v := vrpS_7_1 z 1) tabok_rpS horpS_7_1 (trivial) (by kernel_rfl) (by kernel_rfl) (by kernel_rfl) (anrpS_7_185 hc)
  · exact any_one _ (v := vrpS_7_1 z 3) tabok_rpS horpS_7_3 (trivial) (by kernel_rfl) (by kernel_rfl) (by kernel_rfl) (anrpS_7_205 hc)
  · exact any_one _ (v := vrpS_7_1 z 7) tabok_rpS horpS_7_7 (trivial) (by kernel_rfl) (by kernel_rfl) (by kernel_rfl) (anrpS_7_213 hc)
theorem anrpS_7_216 {z : zrpS_7} (hc : crpS_7_1 z) : arpS_7_1 z 15 69 (qrpS_7_1 z 69 []) (HrpS_7_1 z []) := by
  refine any_next [1, 3, 7, 15] (by kernel_rfl) (by decide) fun i hi => ?_
  rcases two4 hi with rfl | rfl | rfl | rfl
  · exact any_one _ (v := vrpS_7_1 z 1) tabok_rpS horpS_7_1 (trivial) (by kernel_rfl) (by kernel_rfl) (by kernel_rfl) (anrpS_7_186 hc)
  · exact any_one _ (v := vrpS_7_1 z 3) tabok_rpS horpS_7_3 (trivial) (by kernel_rfl) (by kernel_rfl) (by kernel_rfl) (anrpS_7_206 hc)
  · exact any_one _ (v := vrpS_7_1 z 7) tabok_rpS horpS_7_7 (trivial) (by kernel_rfl) (by kernel_rfl) (by kernel_rfl) (anrpS_7_214 hc)
  · exact any_one _ (v := vrpS_7_1 z 15) tabok_rpS horpS_7_15 (trivial) (by kernel_rfl) (by kernel_rfl) (by kernel_rfl) (anrpS_7_215 hc)
theorem anrpS_7_217 {z : zrpS_7} (hc : crpS_7_1 z) : arpS_7_1 z 15 32773 (qrpS_7_1 z 32773 []) (HrpS_7_1 z [0]) := by
  refine any_next [1, 3, 6] (by kernel_rfl) (by decide) fun i hi => ?_
  rcases two3 hi with rfl | rfl | rfl
  · exact any_one _ (v := vrpS_7_1 z 1) tabok_rpS horpS_7_1 (trivial) (by kernel_rfl) (by kernel_rfl) (by kernel_rfl) (anrpS_7_187 hc)
  · exact any_one _ (v := vrpS_7_1 z 3) tabok_rpS horpS_7_3 (trivial) (by kernel_rfl) (by kernel_rfl) (by kernel_rfl) (anrpS_7_207 hc)
  · exact any_one _ (v := vrpS_7_1 z 6) tabok_rpS horpS_7_6 (trivial) (by kernel_rfl) (by kernel_rfl) (by kernel_rfl) (anrpS_7_215 hc)
theorem anrpS_7_218 {z : zrpS_7} (hc : crpS_7_1 z) : arpS_7_1 z 16 5 (qrpS_7_1 z 5 []) (HrpS_7_1 z []) := by
  refine any_next [1, 3, 6, 15] (by kernel_rfl) (by decide) fun i hi => ?_
  rcases two4 hi with rfl | rfl | rfl | rfl
  · exact any_one _ (v := vrpS_7_1 z 1) tabok_rpS horpS_7_1 (trivial) (by kernel_rfl) (by kernel_rfl) (by kernel_rfl) (anrpS_7_188 hc)
  · exact any_one _ (v := vrpS_7_1 z 3) tabok_rpS horpS_7_3 (trivial) (by kernel_rfl) (by kernel_rfl) (by kernel_rfl) (anrpS_7_208 hc)
  · exact any_one _ (v := vrpS_7_1 z 6) tabok_rpS horpS_7_6 (trivial) (by kernel_rfl) (by kernel_rfl) (by kernel_rfl) (anrpS_7_216 hc)
  · exact any_one _ (v := vrpS_7_1 z 15) tabok_rpS horpS_7_15 (trivial) (by kernel_rfl) (by kernel_rfl) (by kernel_rfl) (anrpS_7_217 hc)
theorem anrpS_7_219 {z : zrpS_7} (hc : crpS_7_1 z) : arpS_7_1 z 12 33729 (qrpS_7_1 z 33729 []) (HrpS_7_1 z [0]) := by
  refine any_next [1, 2] (by kernel_rfl) (by decide) fun i hi => ?_
  rcases two2 hi with rfl | rfl
  · exact any_one _ (v := vrpS_7_1 z 1) tabok_rpS horpS_7_1 (trivial) (by kernel_rfl) (by kernel_rfl) (by kernel_rfl) (anrpS_7_189 hc)
  · exact any_one _ (v := vrpS_7_1 z 2) tabok_rpS horpS_7_2 (trivial) (by kernel_rfl) (by kernel_rfl) (by kernel_rfl) (anrpS_7_209 hc)
theorem anrpS_7_220 {z : zrpS_7} (hc : crpS_7_1 z) : arpS_7_1 z 13 961 (qrpS_7_1 z 961 []) (HrpS_7_1 z []) := by
  refine any_next [1, 2, 15] (by kernel_rfl) (by decide) fun i hi => ?_
  rcases two3 hi with rfl | rfl | rfl
  · exact any_one _ (v := vrpS_7_1 z 1) tabok_rpS horpS_7_1 (trivial) (by kernel_rfl) (by kernel_rfl) (by kernel_rfl) (anrpS_7_190 hc)
  · exact any_one _ (v := vrpS_7_1 z 2) tabok_rpS horpS_7_2 (trivial) (by kernel_rfl) (by kernel_rfl) (by kernel_rfl) (anrpS_7_210 hc)
  · exact any_one _ (v := vrpS_7_1 z 15) tabok_rpS horpS_7_15 (trivial) (by kernel_rfl) (by kernel_rfl) (by kernel_rfl) (anrpS_7_219 hc)
theorem anrpS_7_221 {z : zrpS_7} (hc : crpS_7_1 z) : arpS_7_1 z 13 33217 (qrpS_7_1 z 33217 []) (HrpS_7_1 z [0]) := by
  refine any_next [1, 2, 9] (by kernel_rfl) (by decide) fun i hi => ?_
  rcases two3 hi with rfl | rfl | rfl
  · exact any_one _ (v := vrpS_7_1 z 1) tabok_rpS horpS_7_1 (trivial) (by kernel_rfl) (by kernel_rfl) (by kernel_rfl) (anrpS_7_191 hc)
  · exact any_one _ (v := vrpS_7_1 z 2) tabok_rpS horpS_7_2 (trivial) (by kernel_rfl) (by kernel_rfl) (by kernel_rfl) (anrpS_7_211 hc)
  · exact any_one _ (v := vrpS_7_1 z 9) tabok_rpS horpS_7_9 (trivial) (by
      refine Eq.trans (b := (match (yrpS_73 z)[0]? with | some e124 => some ((.fl .f32 e124), [.at (yrpS_72 z) (.fl .f32 (yrpS_73 z)), .at (yrpS_74 z) (.fl .f32 (yrpS_75 z)), .at true (.as 1 [.sl 0 0 (yrpS_76 z), .sl 1 0 (yrpS_77 z)]), .at true (.as 1 [.nil, .nil]), .at true (.as 1 [.sl 5 0 (yrpS_78 z), .sl 6 0 (yrpS_79 z)]), .at true (.fl .f32 (yrpS_710 z)), .at true (.fl .f32 (yrpS_711 z)), .at true (.as 1 [.nil, .nil])]) | none => none)) (by kernel_rfl) ?_
      rw [someD (hc.2.2.2.1)]
      try rfl) (by kernel_rfl) (by kernel_rfl) (anrpS_7_219 hc)
theorem anrpS_7_222 {z : zrpS_7} (hc : crpS_7_1 z) : arpS_7_1 z 14 449 (qrpS_7_1 z 449 []) (HrpS_7_1 z []) := by
  refine any_next [1, 2, 9, 15] (by kernel_rfl) (by decide) fun i hi => ?_
  rcases two4 hi with rfl | rfl | rfl | rfl
  · exact any_one _ (v := vrpS_7_1 z 1) tabok_rpS horpS_7_1 (trivial) (by kernel_rfl) (by kernel_rfl) (by kernel_rfl) (anrpS_7_192 hc)
  · exact any_one _ (v := vrpS_7_1 z 2) tabok_rpS horpS_7_2 (trivial) (by kernel_rfl) (by kernel_rfl) (by kernel_rfl) (anrpS_7_212 hc)
  · exact any_one _ (v := vrpS_7_1 z 9) tabok_rpS horpS_7_9 (trivial) (by
      refine Eq.trans (b := (match (yrpS_73 z)[0]? with | some e122 => some ((.fl .f32 e122), [.at (yrpS_72 z) (.fl .f32 (yrpS_73 z)), .at (yrpS_74 z) (.fl .f32 (yrpS_75 z)), .at true (.as 1 [.sl 0 0 (yrpS_76 z), .sl 1 0 (yrpS_77 z)]), .at true (.as 1 [.nil, .nil]), .at true (.as 1 [.sl 5 0 (yrpS_78 z), .sl 6 0 (yrpS_79 z)]), .at true (.fl .f32 (yrpS_710 z)), .at true (.fl .f32 (yrpS_711 z))]) | none => none)) (by kernel_rfl) ?_
      rw [someD (hc.2.2.2.1)]
      try rfl) (by kernel_rfl) (by kernel_rfl) (anrpS_7_220 hc)
  · exact any_one _ (v := vrpS_7_1 z 15) tabok_rpS horpS_7_15 (trivial) (by kernel_rfl) (by kernel_rfl) (by kernel_rfl) (anrpS_7_221 hc)
theorem anrpS_7_223 {z : zrpS_7} (hc : crpS_7_1 z) : arpS_7_1 z 14 32961 (qrpS_7_1 z 32961 []) (HrpS_7_1 z [0]) := by
  refine any_next [1, 2, 8] (by kernel_rfl) (by decide) fun i hi => ?_
  rcases two3 hi with rfl | rfl | rfl
  · exact any_one _ (v := vrpS_7_1 z 1) tabok_rpS horpS_7_1 (trivial) (by kernel_rfl) (by kernel_rfl) (by kernel_rfl) (anrpS_7_193 hc)
  · exact any_one _ (v := vrpS_7_1 z 2) tabok_rpS horpS_7_2 (trivial) (by kernel_rfl) (by kernel_rfl) (by kernel_rfl) (anrpS_7_213 hc)
  · exact any_one _ (v := vrpS_7_1 z 8) tabok_rpS horpS_7_8 (trivial) (by
      refine Eq.trans (b := (match decide (0 ≤ (0 : Int) ∧ (0 : Int) < (((yrpS_76 z) : Nat) : Int)) with | true => some ((.ptr 0 0), [.at (yrpS_72 z) (.fl .f32 (yrpS_73 z)), .at (yrpS_74 z) (.fl .f32 (yrpS_75 z)), .at true (.as 1 [.sl 0 0 (yrpS_76 z), .sl 1 0 (yrpS_77 z)]), .at true (.as 1 [.nil, .nil]), .at true (.as 1 [.sl 5 0 (yrpS_78 z), .sl 6 0 (yrpS_79 z)]), .at true (.fl .f32 (yrpS_710 z)), .at true (.fl .f32 (yrpS_711 z)), .at true (.as 1 [.nil, .nil])]) | false => none)) (by kernel_rfl) ?_
      rw [hc.2.2.1]
      try rfl) (by kernel_rfl) (by kernel_rfl) (anrpS_7_221 hc)
theorem anrpS_7_224 {z : zrpS_7} (hc : crpS_7_1 z) : arpS_7_1 z 15 193 (qrpS_7_1 z 193 []) (HrpS_7_1 z []) := by
  refine any_next [1, 2, 8, 15] (by kernel_rfl) (by decide) fun i hi => ?_
  rcases two4 hi with rfl | rfl | rfl | rfl
  · exact any_one _ (v := vrpS_7_1 z 1) tabok_rpS horpS_7_1 (trivial) (by kernel_rfl) (by kernel_rfl) (by kernel_rfl) (anrpS_7_194 hc)
  · exact any_one _ (v := vrpS_7_1 z 2) tabok_rpS horpS_7_2 (trivial) (by kernel_rfl) (by kernel_rfl) (by kernel_rfl) (anrpS_7_214 hc)
  · exact any_one _ (v := vrpS_7_1 z 8) tabok_rpS horpS_7_8 (trivial) (by
      refine Eq.trans (b := (match decide (0 ≤ (0 : Int) ∧ (0 : Int) < (((yrpS_76 z) : Nat) : Int)) with | true => some ((.ptr 0 0), [.at (yrpS_72 z) (.fl .f32 (yrpS_73 z)), .at (yrpS_74 z) (.fl .f32 (yrpS_75 z)), .at true (.as 1 [.sl 0 0 (yrpS_76 z), .sl 1 0 (yrpS_77 z)]), .at true (.as 1 [.nil, .nil]), .at true (.as 1 [.sl 5 0 (yrpS_78 z), .sl 6 0 (yrpS_79 z)]), .at true (.fl .f32 (yrpS_710 z)), .at true (.fl .f32 (yrpS_711 z))]) | false => none)) (by kernel_rfl) ?_
      rw [hc.2.2.1]
      try rfl) (by kernel_rfl) (by kernel_rfl) (anrpS_7_222 hc)
  · exact any_one _ (v := vrpS_7_1 z 15) tabok_rpS horpS_7_15 (trivial) (by kernel_rfl) (by kernel_rfl) (by kernel_rfl) (anrpS_7_223 hc)
theorem anrpS_7_225 {z : zrpS_7} (hc : crpS_7_1 z) : arpS_7_1 z 15 32833 (qrpS_7_1 z 32833 []) (HrpS_7_1 z [0]) := by
  refine any_next [1, 2, 7] (by kernel_rfl) (by decide) fun i hi => ?_
  rcases two3 hi with rfl | rfl | rfl
  · exact any_one _ (v := vrpS_7_1 z 1) tabok_rpS horpS_7_1 (trivial) (by kernel_rfl) (by kernel_rfl) (by kernel_rfl) (anrpS_7_195 hc)
  · exact any_one _ (v := vrpS_7_1 z 2) tabok_rpS horpS_7_2 (trivial) (by kernel_rfl) (by kernel_rfl) (by kernel_rfl) (anrpS_7_215 hc)
  · exact any_one _ (v := vrpS_7_1 z 7) tabok_rpS horpS_7_7 (trivial) (by kernel_rfl) (by kernel_rfl) (by kernel_rfl) (anrpS_7_223 hc)
theorem anrpS_7_226 {z : zrpS_7} (hc : crpS_7_1 z) : arpS_7_1 z 16 65 (qrpS_7_1 z 65 []) (HrpS_7_1 z []) := by
  refine any_next [1, 2, 7, 15] (by kernel_rfl) (by decide) fun i hi => ?_
  rcases two4 hi with rfl | rfl | rfl | rfl
  · exact any_one _ (v := vrpS_7_1 z 1) tabok_rpS horpS_7_1 (trivial) (by kernel_rfl) (by kernel_rfl) (by kernel_rfl) (anrpS_7_196 hc)
  · exact any_one _ (v := vrpS_7_1 z 2) tabok_rpS horpS_7_2 (trivial) (by kernel_rfl) (by kernel_rfl) (by kernel_rfl) (anrpS_7_216 hc)
  · exact any_one _ (v := vrpS_7_1 z 7) tabok_rpS horpS_7_7 (trivial) (by kernel_rfl) (by kernel_rfl) (by kernel_rfl) (anrpS_7_224 hc)
  · exact any_one _ (v := vrpS_7_1 z 15) tabok_rpS horpS_7_15 (trivial) (by kernel_rfl) (by kernel_rfl) (by kernel_rfl) (anrpS_7_225 hc)
theorem anrpS_7_227 {z : zrpS_7} (hc : crpS_7_1 z) : arpS_7_1 z 16 32769 (qrpS_7_1 z 32769 []) (HrpS_7_1 z [0]) := by
  refine any_next [1, 2, 6] (by kernel_rfl) (by decide) fun i hi => ?_
  rcases two3 hi with rfl | rfl | rfl
  · exact any_one _ (v := vrpS_7_1 z 1) tabok_rpS horpS_7_1 (trivial) (by kernel_rfl) (by kernel_rfl) (by kernel_rfl) (anrpS_7_197 hc)
  · exact any_one _ (v := vrpS_7_1 z 2) tabok_rpS horpS_7_2 (trivial) (by kernel_rfl) (by kernel_rfl) (by kernel_rfl) (anrpS_7_217 hc)
  · exact any_one _ (v := vrpS_7_1 z 6) tabok_rpS horpS_7_6 (trivial) (by kernel_rfl) (by kernel_rfl) (by kernel_rfl) (anrpS_7_225 hc)
theorem anrpS_7_228 {z : zrpS_7} (hc : crpS_7_1 z) : arpS_7_1 z 17 1 (qrpS_7_1 z 1 []) (HrpS_7_1 z []) := by
  refine any_next [1, 2, 6, 15] (by kernel_rfl) (by decide) fun i hi => ?_
  rcases two4 hi with rfl | rfl | rfl | rfl
  · exact any_one _ (v := vrpS_7_1 z 1) tabok_rpS horpS_7_1 (trivial) (by kernel_rfl) (by kernel_rfl) (by kernel_rfl) (anrpS_7_198 hc)
  · exact any_one _ (v := vrpS_7_1 z 2) tabok_rpS horpS_7_2 (trivial) (by kernel_rfl) (by kernel_rfl) (by kernel_rfl) (anrpS_7_218 hc)
  · exact any_one _ (v := vrpS_7_1 z 6) tabok_rpS horpS_7_6 (trivial) (by kernel_rfl) (by kernel_rfl) (by kernel_rfl) (anrpS_7_226 hc)
  · exact any_one _ (v := vrpS_7_1 z 15) tabok_rpS horpS_7_15 (trivial) (by kernel_rfl) (by kernel_rfl) (by kernel_rfl) (anrpS_7_227 hc)
theorem anrpS_7_229 {z : zrpS_7} (hc : crpS_7_1 z) : arpS_7_1 z 11 33740 (qrpS_7_1 z 33740 []) (HrpS_7_1 z [0]) := by
  refine any_next [0] (by kernel_rfl) (by decide) fun i hi => ?_
  obtain rfl := two1 hi
  · exact any_one _ (v := vrpS_7_1 z 0) tabok_rpS horpS_7_0 (trivial) (by kernel_rfl) (by kernel_rfl) (by kernel_rfl) (anrpS_7_199 hc)
theorem anrpS_7_230 {z : zrpS_7} (hc : crpS_7_1 z) : arpS_7_1 z 12 972 (qrpS_7_1 z 972 []) (HrpS_7_1 z []) := by
  refine any_next [0, 15] (by kernel_rfl) (by decide) fun i hi => ?_
  rcases two2 hi with rfl | rfl
  · exact any_one _ (v := vrpS_7_1 z 0) tabok_rpS horpS_7_0 (trivial) (by kernel_rfl) (by kernel_rfl) (by kernel_rfl) (anrpS_7_200 hc)
  · exact any_one _ (v := vrpS_7_1 z 15) tabok_rpS horpS_7_15 (trivial) (by kernel_rfl) (by kernel_rfl) (by kernel_rfl) (anrpS_7_229 hc)
theorem anrpS_7_231 {z : zrpS_7} (hc : crpS_7_1 z) : arpS_7_1 z 12 33228 (qrpS_7_1 z 33228 []) (HrpS_7_1 z [0]) := by
  refine any_next [0, 9] (by kernel_rfl) (by decide) fun i hi => ?_
  rcases two2 hi with rfl | rfl
  · exact any_one _ (v := vrpS_7_1 z 0) tabok_rpS horpS_7_0 (trivial) (by kernel_rfl) (by kernel_rfl) (by kernel_rfl) (anrpS_7_201 hc)
  · exact any_one _ (v := vrpS_7_1 z 9) tabok_rpS horpS_7_9 (trivial) (by
      refine Eq.trans (b := (match (yrpS_73 z)[0]? with | some e128 => some ((.fl .f32 e128), [.at (yrpS_72 z) (.fl .f32 (yrpS_73 z)), .at (yrpS_74 z) (.fl .f32 (yrpS_75 z)), .at true (.as 1 [.sl 0 0 (yrpS_76 z), .sl 1 0 (yrpS_77 z)]), .at true (.as 1 [.nil, .nil]), .at true (.as 1 [.sl 5 0 (yrpS_78 z), .sl 6 0 (yrpS_79 z)]), .at true (.fl .f32 (yrpS_710 z)), .at true (.fl .f32 (yrpS_711 z)), .at true (.as 1 [.nil, .nil])]) | none => none)) (by kernel_rfl) ?_
      rw [someD (hc.2.2.2.1)]
      try rfl) (by kernel_rfl) (by kernel_rfl) (anrpS_7_229 hc)
theorem anrpS_7_232 {z : zrpS_7} (hc : crpS_7_1 z) : arpS_7_1 z 13 460 (qrpS_7_1 z 460 []) (HrpS_7_1 z []) := by
  refine any_next [0, 9, 15] (by kernel_rfl) (by decide) fun i hi => ?_
  rcases two3 hi with rfl | rfl | rfl
  · exact any_one _ (v := vrpS_7_1 z 0) tabok_rpS horpS_7_0 (trivial) (by kernel_rfl) (by kernel_rfl) (by kernel_rfl) (anrpS_7_202 hc)
  · exact any_one _ (v := vrpS_7_1 z 9) tabok_rpS horpS_7_9 (trivial) (by
      refine Eq.trans (b := (match (yrpS_73 z)[0]? with | some e126 => some ((.fl .f32 e126), [.at (yrpS_72 z) (.fl .f32 (yrpS_73 z)), .at (yrpS_74 z) (.fl .f32 (yrpS_75 z)), .at true (.as 1 [.sl 0 0 (yrpS_76 z), .sl 1 0 (yrpS_77 z)]), .at true (.as 1 [.nil, .nil]), .at true (.as 1 [.sl 5 0 (yrpS_78 z), .sl 6 0 (yrpS_79 z)]), .at true (.fl .f32 (yrpS_710 z)), .at true (.fl .f32 (yrpS_711 z))]) | none => none)) (by kernel_rfl) ?_
      rw [someD (hc.2.2.2.1)]
      try rfl) (by kernel_rfl) (by kernel_rfl) (anrpS_7_230 hc)
  · exact any_one _ (v := vrpS_7_1 z 15) tabok_rpS horpS_7_15 (trivial) (by kernel_rfl) (by kernel_rfl) (by kernel_rfl) (anrpS_7_231 hc)
theorem anrpS_7_233 {z : zrpS_7} (hc : crpS_7_1 z) : arpS_7_1 z 13 32972 (qrpS_7_1 z 32972 []) (HrpS_7_1 z [0]) := by
  refine any_next [0, 8] (by kernel_rfl) (by decide) fun i hi => ?_
  rcases two2 hi with rfl | rfl
  · exact any_one _ (v := vrpS_7_1 z 0) tabok_rpS horpS_7_0 (trivial) (by kernel_rfl) (by kernel_rfl) (by kernel_rfl) (anrpS_7_203 hc)
  · exact any_one _ (v := vrpS_7_1 z 8) tabok_rpS horpS_7_8 (trivial) (by
      refine Eq.trans (b := (match decide (0 ≤ (0 : Int) ∧ (0 : Int) < (((yrpS_76 z) : Nat) : Int)) with | true => some ((.ptr 0 0), [.at (yrpS_72 z) (.fl .f32 (yrpS_73 z)), .at (yrpS_74 z) (.fl .f32 (yrpS_75 z)), .at true (.as 1 [.sl 0 0 (yrpS_76 z), .sl 1 0 (yrpS_77 z)]), .at true (.as 1 [.nil, .nil]), .at true (.as 1 [.sl 5 0 (yrpS_78 z), .sl 6 0 (yrpS_79 z)]), .at true (.fl .f32 (yrpS_710 z)), .at true (.fl .f32 (yrpS_711 z)), .at true (.as 1 [.nil, .nil])]) | false => none)) (by kernel_rfl) ?_
      rw [hc.2.2.1]
      try rfl) (by kernel_rfl) (by kernel_rfl) (anrpS_7_231 hc)
theorem anrpS_7_234 {z : zrpS_7} (hc : crpS_7_1 z) : arpS_7_1 z 14 204 (qrpS_7_1 z 204 []) (HrpS_7_1 z []) := by
  refine any_next [0, 8, 15] (by kernel_rfl) (by decide) fun i hi => ?_
  rcases two3 hi with rfl | rfl | rfl
  · exact any_one _ (v := vrpS_7_1 z 0) tabok_rpS horpS_7_0 (trivial) (by kernel_rfl) (by kernel_rfl) (by kernel_rfl) (anrpS_7_204 hc)
  · exact any_one _ (v := vrpS_7_1 z 8) tabok_rpS horpS_7_8 (trivial) (by
      refine Eq.trans (b := (match decide (0 ≤ (0 : Int) ∧ (0 : Int) < (((yrpS_76 z) : Nat) : Int)) with | true => some ((.ptr 0 0), [.at (yrpS_72 z) (.fl .f32 (yrpS_73 z)), .at (yrpS_74 z) (.fl .f32 (yrpS_75 z)), .at true (.as 1 [.sl 0 0 (yrpS_76 z), .sl 1 0 (yrpS_77 z)]), .at true (.as 1 [.nil, .nil]), .at true (.as 1 [.sl 5 0 (yrpS_78 z), .sl 6 0 (yrpS_79 z)]), .at true (.fl .f32 (yrpS_710 z)), .at true (.fl .f32 (yrpS_711 z))]) | false => none)) (by kernel_rfl) ?_
      rw [hc.2.2.1]
      try rfl) (by kernel_rfl) (by kernel_rfl) (anrpS_7_232 hc)
  · exact any_one _ (v := vrpS_7_1 z 15) tabok_rpS horpS_7_15 (trivial) (by kernel_rfl) (by kernel_rfl) (by kernel_rfl) (anrpS_7_233 hc)
theorem anrpS_7_235 {z : zrpS_7} (hc : crpS_7_1 z) : arpS_7_1 z 14 32844 (qrpS_7_1 z 32844 []) (HrpS_7_1 z [0]) := by
  refine any_next [0, 7] (by kernel_rfl) (by decide) fun i hi => ?_
  rcases two2 hi with rfl | rfl
  · exact any_one _ (v := vrpS_7_1 z 0) tabok_rpS horpS_7_0 (trivial) (by kernel_rfl) (by kernel_rfl) (by kernel_rfl) (anrpS_7_205 hc)
  · exact any_one _ (v := vrpS_7_1 z 7) tabok_rpS horpS_7_7 (trivial) (by kernel_rfl) (by kernel_rfl) (by kernel_rfl) (anrpS_7_233 hc)
theorem anrpS_7_236 {z : zrpS_7} (hc : crpS_7_1 z) : arpS_7_1 z 15 76 (qrpS_7_1 z 76 []) (HrpS_7_1 z []) := by
  refine any_next [0, 7, 15] (by kernel_rfl) (by decide) fun i hi => ?_
  rcases two3 hi with rfl | rfl | rfl
  · exact any_one _ (v := vrpS_7_1 z 0) tabok_rpS horpS_7_0 (trivial) (by kernel_rfl) (by kernel_rfl) (by kernel_rfl) (anrpS_7_206 hc)
  · exact any_one _ (v := vrpS_7_1 z 7) tabok_rpS horpS_7_7 (trivial) (by kernel_rfl) (by kernel_rfl) (by kernel_rfl) (anrpS_7_234 hc)
  · exact any_one _ (v := vrpS_7_1 z 15) tabok_rpS horpS_7_15 (trivial) (by kernel_rfl) (by kernel_rfl) (by kernel_rfl) (anrpS_7_235 hc)
theorem anrpS_7_237 {z : zrpS_7} (hc : crpS_7_1 z) : arpS_7_1 z 15 32780 (qrpS_7_1 z 32780 []) (HrpS_7_1 z [0]) := by
  refine any_next [0, 6] (by kernel_rfl) (by decide) fun i hi => ?_
  rcases two2 hi with rfl | rfl
  · exact any_one _ (v := vrpS_7_1 z 0) tabok_rpS horpS_7_0 (trivial) (by kernel_rfl) (by kernel_rfl) (by kernel_rfl) (anrpS_7_207 hc)
  · exact any_one _ (v := vrpS_7_1 z 6) tabok_rpS horpS_7_6 (trivial) (by kernel_rfl) (by kernel_rfl) (by kernel_rfl) (anrpS_7_235 hc)
theorem anrpS_7_238 {z : zrpS_7} (hc : crpS_7_1 z) : arpS_7_1 z 16 12 (qrpS_7_1 z 12 []) (HrpS_7_1 z []) := by
  refine any_next [0, 6, 15] (by kernel_rfl) (by decide) fun i hi => ?_
  rcases two3 hi with rfl | rfl | rfl
  · exact any_one _ (v := vrpS_7_1 z 0) tabok_rpS horpS_7_0 (trivial) (by kernel_rfl) (by kernel_rfl) (by kernel_rfl) (anrpS_7_208 hc)
  · exact any_one _ (v := vrpS_7_1 z 6) tabok_rpS horpS_7_6 (trivial) (by kernel_rfl) (by kernel_rfl) (by kernel_rfl) (anrpS_7_236 hc)
  · exact any_one _ (v := vrpS_7_1 z 15) tabok_rpS horpS_7_15 (trivial) (by kernel_rfl) (by kernel_rfl) (by kernel_rfl) (anrpS_7_237 hc)
theorem anrpS_7_239 {z : zrpS_7} (hc : crpS_7_1 z) : arpS_7_1 z 12 33732 (qrpS_7_1 z 33732 []) (HrpS_7_1 z [0]) := by
  refine any_next [0, 3] (by kernel_rfl) (by decide) fun i hi => ?_
  rcases two2 hi with rfl | rfl
  · exact any_one _ (v := vrpS_7_1 z 0) tabok_rpS horpS_7_0 (trivial) (by kernel_rfl) (by kernel_rfl) (by kernel_rfl) (anrpS_7_209 hc)
  · exact any_one _ (v := vrpS_7_1 z 3) tabok_rpS horpS_7_3 (trivial) (by kernel_rfl) (by kernel_rfl) (by kernel_rfl) (anrpS_7_229 hc)
theorem anrpS_7_240 {z : zrpS_7} (hc : crpS_7_1 z) : arpS_7_1 z 13 964 (qrpS_7_1 z 964 []) (HrpS_7_1 z []) := by
  refine any_next [0, 3, 15] (by kernel_rfl) (by decide) fun i hi => ?_
  rcases two3 hi with rfl | rfl | rfl
  · exact any_one _ (v := vrpS_7_1 z 0) tabok_rpS horpS_7_0 (trivial) (by kernel_rfl) (by kernel_rfl) (by kernel_rfl) (anrpS_7_210 hc)
  · exact any_one _ (v := vrpS_7_1 z 3) tabok_rpS horpS_7_3 (trivial) (by kernel_rfl) (by kernel_rfl) (by kernel_rfl) (anrpS_7_230 hc)
  · exact any_one _ (v := vrpS_7_1 z 15) tabok_rpS horpS_7_15 (trivial) (by kernel_rfl) (by kernel_rfl) (by kernel_rfl) (anrpS_7_239 hc)
theorem anrpS_7_241 {z : zrpS_7} (hc : crpS_7_1 z) : arpS_7_1 z 13 33220 (qrpS_7_1 z 33220 []) (HrpS_7_1 z [0]) := by
  refine any_next [0, 3, 9] (by kernel_rfl) (by decide) fun i hi => ?_
  rcases two3 hi with rfl | rfl | rfl
  · exact any_one _ (v := vrpS_7_1 z 0) tabok_rpS horpS_7_0 (trivial) (by kernel_rfl) (by kernel_rfl) (by kernel_rfl) (anrpS_7_211 hc)
  · exact any_one _ (v := vrpS_7_1 z 3) tabok_rpS horpS_7_3 (trivial) (by kernel_rfl) (by kernel_rfl) (by kernel_rfl) (anrpS_7_231 hc)
  · exact any_one _ (v := vrpS_7_1 z 9) tabok_rpS horpS_7_9 (trivial) (by
      refine Eq.trans (b := (match (yrpS_73 z)[0]? with | some e132 => some ((.fl .f32 e132), [.at (yrpS_72 z) (.fl .f32 (yrpS_73 z)), .at (yrpS_74 z) (.fl .f32 (yrpS_75 z)), .at true (.as 1 [.sl 0 0 (yrpS_76 z), .sl 1 0 (yrpS_77 z)]), .at true (.as 1 [.nil, .nil]), .at true (.as 1 [.sl 5 0 (yrpS_78 z), .sl 6 0 (yrpS_79 z)]), .at true (.fl .f32 (yrpS_710 z)), .at true (.fl .f32 (yrpS_711 z)), .at true (.as 1 [.nil, .nil])]) | none => none)) (by kernel_rfl) ?_
      rw [someD (hc.2.2.2.1)]
      try rfl) (by kernel_rfl) (by kernel_rfl) (anrpS_7_239 hc)
theorem anrpS_7_242 {z : zrpS_7} (hc : crpS_7_1 z) : arpS_7_1 z 14 452 (qrpS_7_1 z 452 []) (HrpS_7_1 z []) := by
  refine any_next [0, 3, 9, 15] (by kernel_rfl) (by decide) fun i hi => ?_
  rcases two4 hi with rfl | rfl | rfl | rfl
  · exact any_one _ (v := vrpS_7_1 z 0) tabok_rpS horpS_7_0 (trivial) (by kernel_rfl) (by kernel_rfl) (by kernel_rfl) (anrpS_7_212 hc)
  · exact any_one _ (v := vrpS_7_1 z 3) tabok_rpS horpS_7_3 (trivial) (by kernel_rfl) (by kernel_rfl) (by kernel_rfl) (anrpS_7_232 hc)
  · exact any_one _ (v := vrpS_7_1 z 9) tabok_rpS horpS_7_9 (trivial) (by
      refine Eq.trans (b := (match (yrpS_73 z)[0]? with | some e130 => some ((.fl .f32 e130), [.at (yrpS_72 z) (.fl .f32 (yrpS_73 z)), .at (yrpS_74 z) (.fl .f32 (yrpS_75 z)), .at true (.as 1 [.sl 0 0 (yrpS_76 z), .sl 1 0 (yrpS_77 z)]), .at true (.as 1 [.nil, .nil]), .at true (.as 1 [.sl 5 0 (yrpS_78 z), .sl 6 0 (yrpS_79 z)]), .at true (.fl .f32 (yrpS_710 z)), .at true (.fl .f32 (yrpS_711 z))]) | none => none)) (by kernel_rfl) ?_
      rw [someD (hc.2.2.2.1)]
      try rfl) (by kernel_rfl) (by kernel_rfl) (anrpS_7_240 hc)
  · exact any_one _ (v := vrpS_7_1 z 15) tabok_rpS horpS_7_15 (trivial) (by kernel_rfl) (by kernel_rfl) (by kernel_rfl) (anrpS_7_241 hc)
theorem anrpS_7_243 {z : zrpS_7} (hc : crpS_7_1 z) : arpS_7_1 z 14 32964 (qrpS_7_1 z 32964 []) (HrpS_7_1 z [0]) := by
  refine any_next [0, 3, 8] (by kernel_rfl) (by decide) fun i hi => ?_
  rcases two3 hi with rfl | rfl | rfl
  · exact any_one _ (v := vrpS_7_1 z 0) tabok_rpS horpS_7_0 (trivial) (by kernel_rfl) (by kernel_rfl) (by kernel_rfl) (anrpS_7_213 hc)
  · exact any_one _ (v := vrpS_7_1 z 3) tabok_rpS horpS_7_3 (trivial) (by kernel_rfl) (by kernel_rfl) (by kernel_rfl) (anrpS_7_233 hc)
  · exact any_one _ (v := vrpS_7_1 z 8) tabok_rpS horpS_7_8 (trivial) (by
      refine Eq.trans (b := (match decide (0 ≤ (0 : Int) ∧ (0 : Int) < (((yrpS_76 z) : Nat) : Int)) with | true => some ((.ptr 0 0), [.at (yrpS_72 z) (.fl .f32 (yrpS_73 z)), .at (yrpS_74 z) (.fl .f32 (yrpS_75 z)), .at true (.as 1 [.sl 0 0 (yrpS_76 z), .sl 1 0 (yrpS_77 z)]), .at true (.as 1 [.nil, .nil]), .at true (.as 1 [.sl 5 0 (yrpS_78 z), .sl 6 0 (yrpS_79 z)]), .at true (.fl .f32 (yrpS_710 z)), .at true (.fl .f32 (yrpS_711 z)), .at true (.as 1 [.nil, .nil])]) | false => none)) (by kernel_rfl) ?_
      rw [hc.2.2.1]
      try rfl) (by kernel_rfl) (by kernel_rfl) (anrpS_7_241 hc)
theorem anrpS_7_244 {z : zrpS_7} (hc : crpS_7_1 z) : arpS_7_1 z 15 196 (qrpS_7_1 z 196 []) (HrpS_7_1 z []) := by
  refine any_next [0, 3, 8, 15] (by kernel_rfl) (by decide) fun i hi => ?_
  rcases two4 hi with rfl | rfl | rfl | rfl
  · exact any_one _ (v := vrpS_7_1 z 0) tabok_rpS horpS_7_0 (trivial) (by kernel_rfl) (by kernel_rfl) (by kernel_rfl) (anrpS_7_214 hc)
  · exact any_one _ (v := vrpS_7_1 z 3) tabok_rpS horpS_7_3 (trivial) (by kernel_rfl) (by kernel_rfl) (by kernel_rfl) (anrpS_7_234 hc)
  · exact any_one _ (v := vrpS_7_1 z 8) tabok_rpS horpS_7_8 (trivial) (by
      refine Eq.trans (b := (match decide (0 ≤ (0 : Int) ∧ (0 : Int) < (((yrpS_76 z) : Nat) : Int)) with | true => some ((.ptr 0 0), [.at (yrpS_72 z) (.fl .f32 (yrpS_73 z)), .at (yrpS_74 z) (.fl .f32 (yrpS_75 z)), .at true (.as 1 [.sl 0 0 (yrpS_76 z), .sl 1 0 (yrpS_77 z)]), .at true (.as 1 [.nil, .nil]), .at true (.as 1 [.sl 5 0 (yrpS_78 z), .sl 6 0 (yrpS_79 z)]), .at true (.fl .f32 (yrpS_710 z)), .at true (.fl .f32 (yrpS_711 z))]) | false => none)) (by kernel_rfl) ?_
      rw [hc.2.2.1]
      try rfl) (by kernel_rfl) (by kernel_rfl) (anrpS_7_242 hc)
  · exact any_one _ (v := vrpS_7_1 z 15) tabok_rpS horpS_7_15 (trivial) (by kernel_rfl) (by kernel_rfl) (by kernel_rfl) (anrpS_7_243 hc)
theorem anrpS_7_245 {z : zrpS_7} (hc : crpS_7_1 z) : arpS_7_1 z 15 32836 (qrpS_7_1 z 32836 []) (HrpS_7_1 z [0]) := by
  refine any_next [0, 3, 7] (by kernel_rfl) (by decide) fun i hi => ?_
  rcases two3 hi with rfl | rfl | rfl
  · exact any_one _ (v := vrpS_7_1 z 0) tabok_rpS horpS_7_0 (trivial) (by kernel_rfl) (by kernel_rfl) (by kernel_rfl) (anrpS_7_215 hc)
  · exact any_one _ (v := vrpS_7_1 z 3) tabok_rpS horpS_7_3 (trivial) (by kernel_rfl) (by kernel_rfl) (by kernel_rfl) (anrpS_7_235 hc)
  · exact any_one _ (v := vrpS_7_1 z 7) tabok_rpS horpS_7_7 (trivial) (by kernel_rfl) (by kernel_rfl) (by kernel_rfl) (anrpS_7_243 hc)
theorem anrpS_7_246 {z : zrpS_7} (hc : crpS_7_1 z) : arpS_7_1 z 16 68 (qrpS_7_1 z 68 []) (HrpS_7_1 z []) := by
  refine any_next [0, 3, 7, 15] (by kernel_rfl) (by decide) fun i hi => ?_
  rcases two4 hi with rfl | rfl | rfl | rfl
  · exact any_one _ (v := vrpS_7_1 z 0) tabok_rpS horpS_7_0 (trivial) (by kernel_rfl) (by kernel_rfl) (by kernel_rfl) (anrpS_7_216 hc)
  · exact any_one _ (v := vrpS_7_1 z 3) tabok_rpS horpS_7_3 (trivial) (by kernel_rfl) (by kernel_rfl) (by kernel_rfl) (anrpS_7_236 hc)
  · exact any_one _ (v := vrpS_7_1 z 7) tabok_rpS horpS_7_7 (trivial) (by kernel_rfl) (by kernel_rfl) (by kernel_rfl) (anrpS_7_244 hc)
  · exact any_one _ (v := vrpS_7_1 z 15) tabok_rpS horpS_7_15 (trivial) (by kernel_rfl) (by kernel_rfl) (by kernel_rfl) (anrpS_7_245 hc)
theorem anrpS_7_247 {z : zrpS_7} (hc : crpS_7_1 z) : arpS_7_1 z 16 32772 (qrpS_7_1 z 32772 []) (HrpS_7_1 z [0]) := by
  refine any_next [0, 3, 6] (by kernel_rfl) (by decide) fun i hi => ?_
  rcases two3 hi with rfl | rfl | rfl
  · exact any_one _ (v := vrpS_7_1 z 0) tabok_rpS horpS_7_0 (trivial) (by kernel_rfl) (by kernel_rfl) (by kernel_rfl) (anrpS_7_217 hc)
  · exact any_one _ (v := vrpS_7_1 z 3) tabok_rpS horpS_7_3 (trivial) (by kernel_rfl) (by kernel_rfl) (by kernel_rfl) (anrpS_7_237 hc)
  · exact any_one _ (v := vrpS_7_1 z 6) tabok_rpS horpS_7_6 (trivial) (by kernel_rfl) (by kernel_rfl) (by kernel_rfl) (anrpS_7_245 hc)
theorem anrpS_7_248 {z : zrpS_7} (hc : crpS_7_1 z) : arpS_7_1 z 17 4 (qrpS_7_1 z 4 []) (HrpS_7_1 z []) := by
  refine any_next [0, 3, 6, 15] (by kernel_rfl) (by decide) fun i hi => ?_
  rcases two4 hi with rfl | rfl | rfl | rfl
  · exact any_one _ (v := vrpS_7_1 z 0) tabok_rpS horpS_7_0 (trivial) (by kernel_rfl) (by kernel_rfl) (by kernel_rfl) (anrpS_7_218 hc)
  · exact any_one _ (v := vrpS_7_1 z 3) tabok_rpS horpS_7_3 (trivial) (by kernel_rfl) (by kernel_rfl) (by kernel_rfl) (anrpS_7_238 hc)
  · exact any_one _ (v := vrpS_7_1 z 6) tabok_rpS horpS_7_6 (trivial) (by kernel_rfl) (by kernel_rfl) (by kernel_rfl) (anrpS_7_246 hc)
  · exact any_one _ (v := vrpS_7_1 z 15) tabok_rpS horpS_7_15 (trivial) (by kernel_rfl) (by kernel_rfl) (by kernel_rfl) (anrpS_7_247 hc)
theorem anrpS_7_249 {z : zrpS_7} (hc : crpS_7_1 z) : arpS_7_1 z 13 33728 (qrpS_7_1 z 33728 []) (HrpS_7_1 z [0]) := by
  refine any_next [0, 2] (by kernel_rfl) (by decide) fun i hi => ?_
  rcases two2 hi with rfl | rfl
  · exact any_one _ (v := vrpS_7_1 z 0) tabok_rpS horpS_7_0 (trivial) (by kernel_rfl) (by kernel_rfl) (by kernel_rfl) (anrpS_7_219 hc)
  · exact any_one _ (v := vrpS_7_1 z 2) tabok_rpS horpS_7_2 (trivial) (by kernel_rfl) (by kernel_rfl) (by kernel_rfl) (anrpS_7_239 hc)
theorem anrpS_7_250 {z : zrpS_7} (hc : crpS_7_1 z) : arpS_7_1 z 14 960 (qrpS_7_1 z 960 []) (HrpS_7_1 z []) := by
  refine any_next [0, 2, 15] (by kernel_rfl) (by decide) fun i hi => ?_
  rcases two3 hi with rfl | rfl | rfl
  · exact any_one _ (v := vrpS_7_1 z 0) tabok_rpS horpS_7_0 (trivial) (by kernel_rfl) (by kernel_rfl) (by kernel_rfl) (anrpS_7_220 hc)
  · exact any_one _ (v := vrpS_7_1 z 2) tabok_rpS horpS_7_2 (trivial) (by kernel_rfl) (by kernel_rfl) (by kernel_rfl) (anrpS_7_240 hc)
  · exact any_one _ (v := vrpS_7_1 z 15) tabok_rpS horpS_7_15 (trivial) (by kernel_rfl) (by kernel_rfl) (by kernel_rfl) (anrpS_7_249 hc)
theorem anrpS_7_251 {z : zrpS_7} (hc : crpS_7_1 z) : arpS_7_1 z 14 33216 (qrpS_7_1 z 33216 []) (HrpS_7_1 z [0]) := by
  refine any_next [0, 2, 9] (by kernel_rfl) (by decide) fun i hi => ?_
  rcases two3 hi with rfl | rfl | rfl
  · exact any_one _ (v := vrpS_7_1 z 0) tabok_rpS horpS_7_0 (trivial) (by kernel_rfl) (by kernel_rfl) (by kernel_rfl) (anrpS_7_221 hc)
  · exact any_one _ (v := vrpS_7_1 z 2) tabok_rpS horpS_7_2 (trivial) (by kernel_rfl) (by kernel_rfl) (by kernel_rfl) (anrpS_7_241 hc)
  · exact any_one _ (v := vrpS_7_1 z 9) tabok_rpS horpS_7_9 (trivial) (by
      refine Eq.trans (b := (match (yrpS_73 z)[0]? with | some e136 => some ((.fl .f32 e136), [.at (yrpS_72 z) (.fl .f32 (yrpS_73 z)), .at (yrpS_74 z) (.fl .f32 (yrpS_75 z)), .at true (.as 1 [.sl 0 0 (yrpS_76 z), .sl 1 0 (yrpS_77 z)]), .at true (.as 1 [.nil, .nil]), .at true (.as 1 [.sl 5 0 (yrpS_78 z), .sl 6 0 (yrpS_79 z)]), .at true (.fl .f32 (yrpS_710 z)), .at true (.fl .f32 (yrpS_711 z)), .at true (.as 1 [.nil, .nil])]) | none => none)) (by kernel_rfl) ?_
      rw [someD (hc.2.2.2.1)]
      try rfl) (by kernel_rfl) (by kernel_rfl) (anrpS_7_249 hc)
theorem anrpS_7_252 {z : zrpS_7} (hc : crpS_7_1 z) : arpS_7_1 z 15 448 (qrpS_7_1 z 448 []) (HrpS_7_1 z []) := by
  refine any_next [0, 2, 9, 15] (by kernel_rfl) (by decide) fun i hi => ?_
  rcases two4 hi with rfl | rfl | rfl | rfl
  · exact any_one _ (v := vrpS_7_1 z 0) tabok_rpS horpS_7_0 (trivial) (by kernel_rfl) (by kernel_rfl) (by kernel_rfl) (anrpS_7_222 hc)
  · exact any_one _ (v := vrpS_7_1 z 2) tabok_rpS horpS_7_2 (trivial) (by kernel_rfl) (by kernel_rfl) (by kernel_rfl) (anrpS_7_242 hc)
  · exact any_one _ (v := vrpS_7_1 z 9) tabok_rpS horpS_7_9 (trivial) (by
      refine Eq.trans (b := (match (yrpS_73 z)[0]? with | some e134 => some ((.fl .f32 e134), [.at (yrpS_72 z) (.fl .f32 (yrpS_73 z)), .at (yrpS_74 z) (.fl .f32 (yrpS_75 z)), .at true (.as 1 [.sl 0 0 (yrpS_76 z), .sl 1 0 (yrpS_77 z)]), .at true (.as 1 [.nil, .nil]), .at true (.as 1 [.sl 5 0 (yrpS_78 z), .sl 6 0 (yrpS_79 z)]), .at true (.fl .f32 (yrpS_710 z)), .at true (.fl .f32 (yrpS_711 z))]) | none => none)) (by kernel_rfl) ?_
      rw [someD (hc.2.2.2.1)]
      try rfl) (by kernel_rfl) (by kernel_rfl) (anrpS_7_250 hc)
  · exact any_one _ (v := vrpS_7_1 z 15) tabok_rpS horpS_7_15 (trivial) (by kernel_rfl) (by kernel_rfl) (by kernel_rfl) (anrpS_7_251 hc)
theorem anrpS_7_253 {z : zrpS_7} (hc : crpS_7_1 z) : arpS_7_1 z 15 32960 (qrpS_7_1 z 32960 []) (HrpS_7_1 z [0]) := by
  refine any_next [0, 2, 8] (by kernel_rfl) (by decide) fun i hi => ?_
  rcases two3 hi with rfl | rfl | rfl
  · exact any_one _ (v := vrpS_7_1 z 0) tabok_rpS horpS_7_0 (trivial) (by kernel_rfl) (by kernel_rfl) (by kernel_rfl) (anrpS_7_223 hc)
  · exact any_one _ (v := vrpS_7_1 z 2) tabok_rpS horpS_7_2 (trivial) (by kernel_rfl) (by kernel_rfl) (by kernel_rfl) (anrpS_7_243 hc)
  · exact any_one _ (v := vrpS_7_1 z 8) tabok_rpS horpS_7_8 (trivial) (by
      refine Eq.trans (b := (match decide (0 ≤ (0 : Int) ∧ (0 : Int) < (((yrpS_76 z) : Nat) : Int)) with | true => some ((.ptr 0 0), [.at (yrpS_72 z) (.fl .f32 (yrpS_73 z)), .at (yrpS_74 z) (.fl .f32 (yrpS_75 z)), .at true (.as 1 [.sl 0 0 (yrpS_76 z), .sl 1 0 (yrpS_77 z)]), .at true (.as 1 [.nil, .nil]), .at true (.as 1 [.sl 5 0 (yrpS_78 z), .sl 6 0 (yrpS_79 z)]), .at true (.fl .f32 (yrpS_710 z)), .at true (.fl .f32 (yrpS_711 z)), .at true (.as 1 [.nil, .nil])]) | false => none)) (by kernel_rfl) ?_
      rw [hc.2.2.1]
      try rfl) (by kernel_rfl) (by kernel_rfl) (anrpS_7_251 hc)
theorem anrpS_7_254 {z : zrpS_7} (hc : crpS_7_1 z) : arpS_7_1 z 16 192 (qrpS_7_1 z 192 []) (HrpS_7_1 z []) := by
  refine any_next [0, 2, 8, 15] (by kernel_rfl) (by decide) fun i hi => ?_
  rcases two4 hi with rfl | rfl | rfl | rfl
  · exact any_one _ (v := vrpS_7_1 z 0) tabok_rpS horpS_7_0 (trivial) (by kernel_rfl) (by kernel_rfl) (by kernel_rfl) (anrpS_7_224 hc)
  · exact any_one _ (v := vrpS_7_1 z 2) tabok_rpS horpS_7_2 (trivial) (by kernel_rfl) (by kernel_rfl) (by kernel_rfl) (anrpS_7_244 hc)
  · exact any_one _ (v := vrpS_7_1 z 8) tabok_rpS horpS_7_8 (trivial) (by
      refine Eq.trans (b := (match decide (0 ≤ (0 : Int) ∧ (0 : Int) < (((yrpS_76 z) : Nat) : Int)) with | true => some ((.ptr 0 0), [.at (yrpS_72 z) (.fl .f32 (yrpS_73 z)), .at (yrpS_74 z) (.fl .f32 (yrpS_75 z)), .at true (.as 1 [.sl 0 0 (yrpS_76 z), .sl 1 0 (yrpS_77 z)]), .at true (.as 1 [.nil, .nil]), .at true (.as 1 [.sl 5 0 (yrpS_78 z), .sl 6 0 (yrpS_79 z)]), .at true (.fl .f32 (yrpS_710 z)), .at true (.fl .f32 (yrpS_711 z))]) | false => none)) (by kernel_rfl) ?_
      rw [hc.2.2.1]
      try rfl) (by kernel_rfl) (by kernel_rfl) (anrpS_7_252 hc)
  · exact any_one _ (v := vrpS_7_1 z 15) tabok_rpS horpS_7_15 (trivial) (by kernel_rfl) (by kernel_rfl) (by kernel_rfl) (anrpS_7_253 hc)
theorem anrpS_7_255 {z : zrpS_7} (hc : crpS_7_1 z) : arpS_7_1 z 16 32832 (qrpS_7_1 z 32832 []) (HrpS_7_1 z [0]) := by
  refine any_next [0, 2, 7] (by kernel_rfl) (by decide) fun i hi => ?_
  rcases two3 hi with rfl | rfl | rfl
  · exact any_one _ (v := vrpS_7_1 z 0) tabok_rpS horpS_7_0 (trivial) (by kernel_rfl) (by kernel_rfl) (by kernel_rfl) (anrpS_7_225 hc)
  · exact any_one _ (v := vrpS_7_1 z 2) tabok_rpS horpS_7_2 (trivial) (by kernel_rfl) (by kernel_rfl) (by kernel_rfl) (anrpS_7_245 hc)
  · exact any_one _ (v := vrpS_7_1 z 7) tabok_rpS horpS_7_7 (trivial) (by kernel_rfl) (by kernel_rfl) (by kernel_rfl) (anrpS_7_253 hc)
theorem anrpS_7_256 {z : zrpS_7} (hc : crpS_7_1 z) : arpS_7_1 z 17 64 (qrpS_7_1 z 64 []) (HrpS_7_1 z []) := by
  refine any_next [0, 2, 7, 15] (by kernel_rfl) (by decide) fun i hi => ?_
  rcases two4 hi with rfl | rfl | rfl | rfl
  · exact any_one _ (v := vrpS_7_1 z 0) tabok_rpS horpS_7_0 (trivial) (by kernel_rfl) (by kernel_rfl) (by kernel_rfl) (anrpS_7_226 hc)
  · exact any_one _ (v := vrpS_7_1 z 2) tabok_rpS horpS_7_2 (trivial) (by kernel_rfl) (by kernel_rfl) (by kernel_rfl) (anrpS_7_246 hc)
  · exact any_one _ (v := vrpS_7_1 z 7) tabok_rpS horpS_7_7 (trivial) (by kernel_rfl) (by kernel_rfl) (by kernel_rfl) (anrpS_7_254 hc)
  · exact any_one _ (v := vrpS_7_1 z 15) tabok_rpS horpS_7_15 (trivial) (by kernel_rfl) (by kernel_rfl) (by kernel_rfl) (anrpS_7_255 hc)
theorem anrpS_7_257 {z : zrpS_7} (hc : crpS_7_1 z) : arpS_7_1 z 17 32768 (qrpS_7_1 z 32768 []) (HrpS_7_1 z [0]) := by
  refine any_next [0, 2, 6] (by kernel_rfl) (by decide) fun i hi => ?_
  rcases two3 hi with rfl | rfl | rfl
  · exact any_one _ (v := vrpS_7_1 z 0) tabok_rpS horpS_7_0 (trivial) (by kernel_rfl) (by kernel_rfl) (by kernel_rfl) (anrpS_7_227 hc)
  · exact any_one _ (v := vrpS_7_1 z 2) tabok_rpS horpS_7_2 (trivial) (by kernel_rfl) (by kernel_rfl) (by kernel_rfl) (anrpS_7_247 hc)
  · exact any_one _ (v := vrpS_7_1 z 6) tabok_rpS horpS_7_6 (trivial) (by kernel_rfl) (by kernel_rfl) (by kernel_rfl) (anrpS_7_255 hc)
theorem anrpS_7_258 {z : zrpS_7} (hc : crpS_7_1 z) : arpS_7_1 z 18 0 (qrpS_7_1 z 0 []) (HrpS_7_1 z []) := by
  refine any_next [0, 2, 6, 15] (by kernel_rfl) (by decide) fun i hi => ?_
  rcases two4 hi with rfl | rfl | rfl | rfl
  · exact any_one _ (v := vrpS_7_1 z 0) tabok_rpS horpS_7_0 (trivial) (by kernel_rfl) (by kernel_rfl) (by kernel_rfl) (anrpS_7_228 hc)
  · exact any_one _ (v := vrpS_7_1 z 2) tabok_rpS horpS_7_2 (trivial) (by kernel_rfl) (by kernel_rfl) (by kernel_rfl) (anrpS_7_248 hc)
  · exact any_one _ (v := vrpS_7_1 z 6) tabok_rpS horpS_7_6 (trivial) (by kernel_rfl) (by kernel_rfl) (by kernel_rfl) (anrpS_7_256 hc)
  · exact any_one _ (v := vrpS_7_1 z 15) tabok_rpS horpS_7_15 (trivial) (by kernel_rfl) (by kernel_rfl) (by kernel_rfl) (anrpS_7_257 hc)
theorem tolrpS_7_1 (z0 : Int) (z3 : Int) (z5 : Bool) (z6 : List Nat) (z7 : Bool) (z8 : List Nat) (z10 : Nat) (z12 : Nat) (z14 : Nat) (z16 : Nat) (z17 : List Nat) (z18 : List Nat) (hc : crpS_7_1 (z0, z3, z5, z6, z7, z8, z10, z12, z14, z16, z17, z18)) {st : St} (hl : st.t.length = 61) (et : viewT [1, 2, 4, 6, 7] 61 st.t = (.any :: .int .i64 z0 :: .ptr 2 0 :: .any :: .ptr 3 0 :: .any :: .int .i64 z3 :: .ptr 4 0 :: (anys 53 []))) (eh : st.h = [.at z5 (.fl .f32 z6), .at z7 (.fl .f32 z8), .at true (.as 1 [.sl 0 0 z10, .sl 1 0 z12]), .at true (.as 1 [.nil, .nil]), .at true (.as 1 [.sl 5 0 z14, .sl 6 0 z16]), .at true (.fl .f32 z17), .at true (.fl .f32 z18)]) {μ0 : Mu} {h0 : H} {w0 : World} {Q : Exit → Act → World → Prop} (hQ : ∀ μ a w, Inv μ0 h0 w0 μ (⟨(.any :: .int .i64 z0 :: .ptr 2 0 :: .any :: .ptr 3 0 :: .any :: .int .i64 z3 :: .ptr 4 0 :: .ptr 7 0 :: .bool false :: (anys 51 [])), [.at z5 (.fl .f32 z6), .at z7 (.fl .f32 z8), .at true (.as 1 [.sl 0 0 z10, .sl 1 0 z12]), .at true (.as 1 [.nil, .nil]), .at true (.as 1 [.sl 5 0 z14, .sl 6 0 z16]), .at true (.fl .f32 z17), .at true (.fl .f32 z18), .at true (.as 1 [.nil, .nil])]⟩ : St) a w → Q .normal a w) {μ : Mu} {a : Act} {w : World} (hi : Inv μ0 h0 w0 μ st a w) : (Code.region 7 opsrpS_7 true).wp Try.prog Q a w :=
  told (L0 := bitsA 18 0) (T0 := qrpS_7_1 (z0, z3, z5, z6, z7, z8, z10, z12, z14, z16, z17, z18) 0 []) (H0 := HrpS_7_1 (z0, z3, z5, z6, z7, z8, z10, z12, z14, z16, z17, z18) []) [1, 2, 4, 6, 7, 8, 9] mixed (by kernel_rfl : opsrpS_7.size = 18) (by kernel_rfl) hl (et.trans (by kernel_rfl)) (eh.trans (by kernel_rfl)) rfl (anrpS_7_258 hc) hQ hi
set_option maxRecDepth 100000 in
theorem sndrpS_7 : GSound2 Try.prog 7 opsrpS_7 true grpS_7 := by
  intro μ0 h0 w0 st b c1 c2 s1 s2 hg
  unfold grpS_7 at hg
  split at hg
  case h_2 => cases hg
  rename_i hl_
  have hl_ := of_decide_eq_true hl_
  split at hg
  case h_2 => cases hg
  rename_i z0 e1_
  split at hg
  case h_2 => cases hg
  rename_i e2_
  split at hg
  case h_2 => cases hg
  rename_i e4_
  split at hg
  case h_2 => cases hg
  rename_i z3 e6_
  split at hg
  case h_2 => cases hg
  rename_i e7_
  split at hg
  case h_2 => cases hg
  rename_i z5 z6 z7 z8 z10 z12 z14 z16 z17 z18 eh_
  have hg := Option.some.inj hg
  simp only [Prod.mk.injEq] at hg
  obtain ⟨hb, ⟨h1, rfl⟩, h2, rfl⟩ := hg
  refine ⟨fun hT hc Q hQ μ a w hi => ?_, fun hT hc Q hQ μ a w hi => ?_⟩
  · have hc6 := hb.trans hT
    have hc := h1.trans hc
    obtain ⟨hc, hc5⟩ := Bool.and_eq_true_iff.mp hc
    obtain ⟨hc, hc4⟩ := Bool.and_eq_true_iff.mp hc
    obtain ⟨hc, hc3⟩ := Bool.and_eq_true_iff.mp hc
    obtain ⟨hc, hc2⟩ := Bool.and_eq_true_iff.mp hc
    obtain ⟨hc, hc1⟩ := Bool.and_eq_true_iff.mp hc
    have hc0 := hc
    exact tolrpS_7_0 z0 z3 z5 z6 z7 z8 z10 z12 z14 z16 z17 z18 ⟨hc0, hc1, hc2, hc3, hc4, hc5, hc6⟩ hl_ ((view_congr (T0 := (.any :: .int .i64 z0 :: .ptr 2 0 :: .any :: .ptr 3 0 :: .any :: .int .i64 z3 :: .ptr 4 0 :: (anys 53 []))) (fun i hi => by
    simp only [List.mem_cons, List.not_mem_nil, or_false] at hi
    rcases hi with rfl | rfl | rfl | rfl | rfl
    · exact e1_.trans rfl
    · exact e2_.trans rfl
    · exact e4_.trans rfl
    · exact e6_.trans rfl
    · exact e7_.trans rfl)).trans (by kernel_rfl)) eh_ hQ hi
  · have hc6 := hb.trans hT
    have hc := h2.trans hc
    obtain ⟨hc, hc5⟩ := Bool.and_eq_true_iff.mp hc
    obtain ⟨hc, hc4⟩ := Bool.and_eq_true_iff.mp hc
    obtain ⟨hc, hc3⟩ := Bool.and_eq_true_iff.mp hc
    obtain ⟨hc, hc2⟩ := Bool.and_eq_true_iff.mp hc
    obtain ⟨hc, hc1⟩ := Bool.and_eq_true_iff.mp hc
    have hc0 := hc
    exact tolrpS_7_1 z0 z3 z5 z6 z7 z8 z10 z12 z14 z16 z17 z18 ⟨hc0, hc1, hc2, hc3, hc4, hc5, hc6⟩ hl_ ((view_congr (T0 := (.any :: .int .i64 z0 :: .ptr 2 0 :: .any :: .ptr 3 0 :: .any :: .int .i64 z3 :: .ptr 4 0 :: (anys 53 []))) (fun i hi => by
    simp only [List.mem_cons, List.not_mem_nil, or_false] at hi
    rcases hi with rfl | rfl | rfl | rfl | rfl
    · exact e1_.trans rfl
    · exact e2_.trans rfl
    · exact e4_.trans rfl
    · exact e6_.trans rfl
    · exact e7_.trans rfl)).trans (by kernel_rfl)) eh_ hQ hi
noncomputable def gs_rpS : GsA := fun i => if i = 7 then some (tu2 grpS_7) else none
theorem regs_rpS : (regList (codeOf Try.f5)).filter (fun p => (gs_rpS p.1).isSome) = [(7, opsrpS_7, true)] := by kernel_rfl
theorem regOk_rpS : RegOkA Try.prog gs_rpS (codeOf Try.f5) := by
  refine regOk_list _ fun p hp g hg => ?_
  have h : p ∈ (regList (codeOf Try.f5)).filter (fun p => (gs_rpS p.1).isSome) := List.mem_filter.2 ⟨hp, by rw [hg]; rfl⟩
  rw [regs_rpS] at h
  simp only [List.mem_cons, List.not_mem_nil, or_false] at h
  rcases h with rfl
  · cases hg; exact tu2_snd sndrpS_7
def st_rpS5 (times1 : Int) (n6 : Int) (rw0 : Bool) (l0 : List Nat) (rw1 : Bool) (l1 : List Nat) (b2_0n : Nat) (b2_1n : Nat) (b4_0n : Nat) (b4_1n : Nat) (l5 : List Nat) (l6 : List Nat) : St := ⟨(.any :: .int .i64 times1 :: .ptr 2 0 :: .any :: .ptr 3 0 :: .any :: .int .i64 n6 :: .ptr 4 0 :: (anys 53 [])), [.at rw0 (.fl .f32 l0), .at rw1 (.fl .f32 l1), .at true (.as 1 [.sl 0 0 b2_0n, .sl 1 0 b2_1n]), .at true (.as 1 [.nil, .nil]), .at true (.as 1 [.sl 5 0 b4_0n, .sl 6 0 b4_1n]), .at true (.fl .f32 l5), .at true (.fl .f32 l6)]⟩
abbrev kp_rpS5 : Option (List Nat × List Nat) := some ([1, 2, 4, 6, 7], [4, 5, 7])
noncomputable def lp_rpS5 {R : Type} (N M : Nat) (s : St) (K : X → St → Option R) : Option R := loopH 2 kp_rpS5 (fun st K => execA ty tab_rpS an_rpS gs_rpS N 2 (atOf [true, true, true, true, false, false, false] Try.f5) st K) M s K
noncomputable def kt_rpS5 {R : Type} (N : Nat) (K : X → St → Option R) : X → St → Option R := kBlkR 0 (kSeqA tab_rpS an_rpS gs_rpS N 2 (atOf [true, true, true, true, true] Try.f5) (K))
def en_rpS5_0 (rw0 : Bool) (l0 : List Nat) (rw1 : Bool) (l1 : List Nat) (b3_0n : Nat) (b3_1n : Nat) (l4 : List Nat) (l5 : List Nat) : St := ⟨(.any :: .any :: .any :: .any :: .ptr 2 0 :: .bool false :: .any :: .ptr 3 0 :: (anys 53 [])), [.at rw0 (.fl .f32 l0), .at rw1 (.fl .f32 l1), .at true (.as 1 [.nil, .nil]), .at true (.as 1 [.sl 4 0 b3_0n, .sl 5 0 b3_1n]), .at true (.fl .f32 l4), .at true (.fl .f32 l5)]⟩
def en_rpS5_1 (rw0 : Bool) (l0 : List Nat) (rw1 : Bool) (l1 : List Nat) (b3_0n : Nat) (b3_1n : Nat) (l4 : List Nat) (l5 : List Nat) : St := ⟨(.any :: .any :: .any :: .any :: .ptr 2 0 :: .any :: .any :: .ptr 3 0 :: (anys 53 [])), [.at rw0 (.fl .f32 l0), .at rw1 (.fl .f32 l1), .at true (.as 1 [.nil, .nil]), .at true (.as 1 [.sl 4 0 b3_0n, .sl 5 0 b3_1n]), .at true (.fl .f32 l4), .at true (.fl .f32 l5)]⟩
theorem run_rpS (N : Nat) (n : Nat) (m : Nat) (t : Int) (r0 : Bool) (l0 : List Nat) (r1 : Bool) (l1 : List Nat) : runA ty tab_rpS an_rpS gs_rpS N Try.f5 [.g [.sl 0 0 n, .sl 1 0 m], .int .i64 t] [.at r0 (.fl .f32 l0), .at r1 (.fl .f32 l1)]
    = (match decide (l0.length = n ∧ n < 2147483648 ∧ l1.length = m ∧ m < 2147483648) with | true => (match !(vsB l0 l1) with | true => some (.tup [.g [.nil, .nil], .a (.bool false)], [.at r0 (.fl .f32 l0), .at r1 (.fl .f32 l1)]) | false => (match ((n : Nat) : Int) == 0 with | true => some (.tup [.g [.nil, .nil], .a (.bool false)], [.at r0 (.fl .f32 l0), .at r1 (.fl .f32 l1)]) | false => (match !(inB t 1 5) with | true => some (.tup [.g [.nil, .nil], .a (.bool false)], [.at r0 (.fl .f32 l0), .at r1 (.fl .f32 l1)]) | false => (match decide (0 ≤ (0 : Int) ∧ (0 : Int) ≤ 1 ∧ (1 : Int) ≤ ((m : Nat) : Int)) with | true => (match decide (0 ≤ (((n : Nat) : Int) : Int) ∧ (((n : Nat) : Int) : Int) ≤ ((m : Nat) : Int) ∧ (((m : Nat) : Int) : Int) ≤ ((m : Nat) : Int)) with | true => (match decide (((((m : Nat) : Int) - ((n : Nat) : Int)).toNat) = 1 ∧ (0 + (((n : Nat) : Int)).toNat * 1) < l1.length ∧ l1.getD 0 0 < 4294967296 ∧ l1.getD (0 + (((n : Nat) : Int)).toNat * 1) 0 < 4294967296) with | true => (match !(sN (l1.getD 0 0) (l1.getD (0 + (((n : Nat) : Int)).toNat * 1) 0)) with | true => some (.tup [.g [.nil, .nil], .a (.bool false)], [.at r0 (.fl .f32 l0), .at r1 (.fl .f32 l1)]) | false => (match decide (l0.length = n ∧ n < 2147483648 ∧ l1.length = m ∧ m < 2147483648) with | true => lp_rpS5 N N (st_rpS5 t ((n : Nat) : Int) r0 l0 r1 l1 n m n m l0 l1) (kt_rpS5 N (kEndA Try.f5 2)) | false => none)) | false => none) | false => none) | false => none)))) | false => none) := by
  kernel_rfl
theorem step_rpS5 {R : Type} (N M : Nat) (K : X → St → Option R) (times1 : Int) (n6 : Int) (rw0 : Bool) (l0 : List Nat) (rw1 : Bool) (l1 : List Nat) (b2_0n : Nat) (b2_1n : Nat) (b4_0n : Nat) (b4_1n : Nat) (l5 : List Nat) (l6 : List Nat) : lp_rpS5 N (M + 1) (st_rpS5 times1 n6 rw0 l0 rw1 l1 b2_0n b2_1n b4_0n b4_1n l5 l6) K
    = (match decide ((times1 : Int) > 1) with | true => (match jOk l5 l6 l0 l1 (fop .sub .f32 ((l0[0 + (IntKind.i64.wrap (n6 - 1)).toNat * 1]?).getD 0) ((l0[0]?).getD 0)) with | true => (match (decide (0 ≤ (IntKind.i64.wrap (n6 - 1) : Int) ∧ (IntKind.i64.wrap (n6 - 1) : Int) < ((b2_0n : Nat) : Int))) && ((l0[0 + (IntKind.i64.wrap (n6 - 1)).toNat * 1]?).isSome) && (decide (0 ≤ (0 : Int) ∧ (0 : Int) < ((b2_0n : Nat) : Int))) && ((l0[0]?).isSome) && (decide (l5.length = b4_0n ∧ l6.length = b4_1n ∧ l0.length = b2_0n ∧ l1.length = b2_1n)) && (jPre l5 l6 l0 l1) with | true => lp_rpS5 N M (st_rpS5 (IntKind.i64.wrap (times1 - 1)) n6 rw0 l0 rw1 l1 b2_0n b2_1n ((jE l5 l0 (fop .sub .f32 ((l0[0 + (IntKind.i64.wrap (n6 - 1)).toNat * 1]?).getD 0) ((l0[0]?).getD 0))).length) ((jM l6 l1).length) (jE l5 l0 (fop .sub .f32 ((l0[0 + (IntKind.i64.wrap (n6 - 1)).toNat * 1]?).getD 0) ((l0[0]?).getD 0))) (jM l6 l1)) K | false => none) | false => (match (decide (0 ≤ (IntKind.i64.wrap (n6 - 1) : Int) ∧ (IntKind.i64.wrap (n6 - 1) : Int) < ((b2_0n : Nat) : Int))) && ((l0[0 + (IntKind.i64.wrap (n6 - 1)).toNat * 1]?).isSome) && (decide (0 ≤ (0 : Int) ∧ (0 : Int) < ((b2_0n : Nat) : Int))) && ((l0[0]?).isSome) && (decide (l5.length = b4_0n ∧ l6.length = b4_1n ∧ l0.length = b2_0n ∧ l1.length = b2_1n)) && (jPre l5 l6 l0 l1) with | true => K .ret (en_rpS5_0 rw0 l0 rw1 l1 b4_0n b4_1n l5 l6) | false => none)) | false => K (.exit 0) (en_rpS5_1 rw0 l0 rw1 l1 b4_0n b4_1n l5 l6)) := by
  kernel_rfl
theorem end_rpS5_0 (N : Nat) (rw0 : Bool) (l0 : List Nat) (rw1 : Bool) (l1 : List Nat) (b3_0n : Nat) (b3_1n : Nat) (l4 : List Nat) (l5 : List Nat) : kt_rpS5 N (kEndA Try.f5 2) .ret (en_rpS5_0 rw0 l0 rw1 l1 b3_0n b3_1n l4 l5)
    = some (.tup [.g [.nil, .nil], .a (.bool false)], [.at rw0 (.fl .f32 l0), .at rw1 (.fl .f32 l1)]) := by
  kernel_rfl
theorem end_rpS5_1 (N : Nat) (rw0 : Bool) (l0 : List Nat) (rw1 : Bool) (l1 : List Nat) (b3_0n : Nat) (b3_1n : Nat) (l4 : List Nat) (l5 : List Nat) : kt_rpS5 N (kEndA Try.f5 2) (.exit 0) (en_rpS5_1 rw0 l0 rw1 l1 b3_0n b3_1n l4 l5)
    = some (.tup [.g [.sl 2 0 b3_0n, .sl 3 0 b3_1n], .a (.bool true)], [.at rw0 (.fl .f32 l0), .at rw1 (.fl .f32 l1), .at true (.fl .f32 l4), .at true (.fl .f32 l5)]) := by
  kernel_rfl
end Go.Proofs.Ythjncajdognojaa.Ab

namespace Go.Proofs.Ythjncajdognojaa.Ab
set_option linter.unusedVariables false
set_option linter.unusedSimpArgs false
open Go
theorem inB_of {n lo hi : Int} (h : inB n lo hi = true) : lo ≤ n ∧ n ≤ hi := by
  simp only [inB, Bool.and_eq_true, decide_eq_true_eq] at h
  omega
theorem rpS_all {l0 l1 : List Nat} (r0 r1 : Bool) (v1 : vsB l0 l1 = true) (hb' : 1 ≤ l0.length) (N : Nat) : ∀ (k M : Nat) (e m : List Nat), k < 5 → k < M → jPre e m l0 l1 = true →
    lp_rpS5 N M (st_rpS5 ((k : Int) + 1) ((l0.length : Nat) : Int) r0 l0 r1 l1 l0.length l1.length e.length m.length e m) (kt_rpS5 N (kEndA Try.f5 2)) =
      (match rpN l0 l1 (rpG l0) k e m with | some p => some (V.tup [.g [.sl 2 0 p.1.length, .sl 3 0 p.2.length], .a (.bool true)], ([.at r0 (.fl .f32 l0), .at r1 (.fl .f32 l1), .at true (.fl .f32 p.1), .at true (.fl .f32 p.2)] : H)) | none => some (V.tup [.g [.nil, .nil], .a (.bool false)], ([.at r0 (.fl .f32 l0), .at r1 (.fl .f32 l1)] : H))) := by
  have a1 := vs_len v1
  have hw0 : IntKind.i64.wrap (((l0.length : Nat) : Int) - 1) = ((l0.length - 1 : Nat) : Int) := by rw [wrap_z (by omega) (by omega)]; omega
  have hi0 : 0 + (IntKind.i64.wrap (((l0.length : Nat) : Int) - 1)).toNat * 1 = l0.length - 1 := by rw [hw0]; exact ix
  have hy : l0[0]? = some (l0.getD 0 0) := getD_some' (by omega)
  have hx : l0[l0.length - 1]? = some (l0.getD (l0.length - 1) 0) := getD_some' (by omega)
  have hg : (fop .sub .f32 ((l0[0 + (IntKind.i64.wrap (((l0.length : Nat) : Int) - 1)).toNat * 1]?).getD 0) ((l0[0]?).getD 0)) = rpG l0 := by rw [hi0, hx, hy]; rfl
  intro k
  induction k with
  | zero =>
    intro M e m _ hM _
    obtain ⟨M', rfl⟩ : ∃ M', M = M' + 1 := ⟨M - 1, by omega⟩
    rw [step_rpS5, show decide ((((0 : Nat) : Int) + 1 : Int) > 1) = false from by decide]
    exact end_rpS5_1 N r0 l0 r1 l1 e.length m.length e m
  | succ k ih =>
    intro M e m hk hM hj
    obtain ⟨M', rfl⟩ : ∃ M', M = M' + 1 := ⟨M - 1, by omega⟩
    have hc : ((decide (0 ≤ (IntKind.i64.wrap (((l0.length : Nat) : Int) - 1) : Int) ∧ (IntKind.i64.wrap (((l0.length : Nat) : Int) - 1) : Int) < ((l0.length : Nat) : Int))) && ((l0[0 + (IntKind.i64.wrap (((l0.length : Nat) : Int) - 1)).toNat * 1]?).isSome) && (decide (0 ≤ (0 : Int) ∧ (0 : Int) < ((l0.length : Nat) : Int))) && ((l0[0]?).isSome) && (decide (e.length = e.length ∧ m.length = m.length ∧ l0.length = l0.length ∧ l1.length = l1.length)) && (jPre e m l0 l1)) = true := by
      rw [hi0, hw0, hx, hy, hj, decide_eq_true (show 0 ≤ ((l0.length - 1 : Nat) : Int) ∧ ((l0.length - 1 : Nat) : Int) < ((l0.length : Nat) : Int) by omega), decide_eq_true (show 0 ≤ (0 : Int) ∧ (0 : Int) < ((l0.length : Nat) : Int) by omega), decide_eq_true (show e.length = e.length ∧ m.length = m.length ∧ l0.length = l0.length ∧ l1.length = l1.length from ⟨rfl, rfl, rfl, rfl⟩)]
      rfl
    rw [step_rpS5, show decide ((((k + 1 : Nat) : Int) + 1 : Int) > 1) = true from decide_eq_true (by omega), hg, hc]
    cases hj2 : jOk e m l0 l1 (rpG l0) with
    | false =>
      rw [show rpN l0 l1 (rpG l0) (k + 1) e m = none from by rw [rpN, hj2]]
      exact end_rpS5_0 N r0 l0 r1 l1 e.length m.length e m
    | true =>
      rw [show rpN l0 l1 (rpG l0) (k + 1) e m = rpN l0 l1 (rpG l0) k (jE e l0 (rpG l0)) (jM m l1) from by rw [rpN, hj2]]
      rw [show IntKind.i64.wrap (((k + 1 : Nat) : Int) + 1 - 1) = (k : Int) + 1 from by rw [wrap_z (by omega) (by omega)]; omega]
      exact ih M' (jE e l0 (rpG l0)) (jM m l1) (by omega) (by omega) (jPre_next hj hj2)
theorem rpS_run {l0 l1 : List Nat} (t : Int) (r0 r1 : Bool) (hl0 : l0.length < 2147483648) (hl1 : l1.length < 2147483648) (w1 : w32 l1 = true) : runA ty tab_rpS an_rpS gs_rpS 6 Try.f5 [.g [.sl 0 0 l0.length, .sl 1 0 l1.length], .int .i64 t] [.at r0 (.fl .f32 l0), .at r1 (.fl .f32 l1)] = (match rpOk l0 l1 t with | true => some (V.tup [.g [.sl 2 0 (rpE l0 l1 t).length, .sl 3 0 (rpM l0 l1 t).length], .a (.bool true)], ([.at r0 (.fl .f32 l0), .at r1 (.fl .f32 l1), .at true (.fl .f32 (rpE l0 l1 t)), .at true (.fl .f32 (rpM l0 l1 t))] : H)) | false => some (V.tup [.g [.nil, .nil], .a (.bool false)], ([.at r0 (.fl .f32 l0), .at r1 (.fl .f32 l1)] : H))) := by
  refine Eq.trans (run_rpS 6 l0.length l1.length t r0 l0 r1 l1) ?_
  have hd0 : decide (l0.length = l0.length ∧ l0.length < 2147483648 ∧ l1.length = l1.length ∧ l1.length < 2147483648) = true := decide_eq_true ⟨rfl, hl0, rfl, hl1⟩
  rw [hd0]
  cases v1 : vsB l0 l1 with
  | false => unfold rpOk; rw [v1]; rfl
  | true =>
  rw [show (!true) = false from rfl]
  cases hb : decide (1 ≤ l0.length) with
  | false =>
    have hb' := of_decide_eq_false hb
    rw [show (((l0.length : Nat) : Int) == 0) = true from beq_iff_eq.mpr (by omega)]
    unfold rpOk
    rw [v1, hb]
    rfl
  | true =>
  have hb' := of_decide_eq_true hb
  rw [show (((l0.length : Nat) : Int) == 0) = false from beq_eq_false_iff_ne.mpr (by omega)]
  have a1 := vs_len v1
  have jp0 := jPre_first v1 hb' w1
  have hw0 : IntKind.i64.wrap (((l0.length : Nat) : Int) - 1) = ((l0.length - 1 : Nat) : Int) := by rw [wrap_z (by omega) (by omega)]; omega
  have hw1 : IntKind.i64.wrap (((l1.length : Nat) : Int) - 1) = ((l1.length - 1 : Nat) : Int) := by rw [wrap_z (by omega) (by omega)]; omega
  have hi0 : 0 + (IntKind.i64.wrap (((l0.length : Nat) : Int) - 1)).toNat * 1 = l0.length - 1 := by rw [hw0]; exact ix
  have hi1 : 0 + (IntKind.i64.wrap (((l1.length : Nat) : Int) - 1)).toNat * 1 = l1.length - 1 := by rw [hw1]; exact ix
  cases hin : inB t 1 5 with
  | false => unfold rpOk; rw [v1, hb, hin]; rfl
  | true =>
  rw [show (!true) = false from rfl]
  have ht := inB_of hin
  have hj1 : 0 + (((l0.length : Nat) : Int)).toNat * 1 = l1.length - 1 := by omega
  rw [show (decide (0 ≤ (0 : Int) ∧ (0 : Int) ≤ 1 ∧ (1 : Int) ≤ ((l1.length : Nat) : Int))) = true from decide_eq_true (by omega)]
  rw [show (decide (0 ≤ (((l0.length : Nat) : Int) : Int) ∧ (((l0.length : Nat) : Int) : Int) ≤ ((l1.length : Nat) : Int) ∧ (((l1.length : Nat) : Int) : Int) ≤ ((l1.length : Nat) : Int))) = true from decide_eq_true (by omega)]
  rw [show (decide (((((l1.length : Nat) : Int) - ((l0.length : Nat) : Int)).toNat) = 1 ∧ (0 + (((l0.length : Nat) : Int)).toNat * 1) < l1.length ∧ l1.getD 0 0 < 4294967296 ∧ l1.getD (0 + (((l0.length : Nat) : Int)).toNat * 1) 0 < 4294967296)) = true from decide_eq_true ⟨by omega, by omega, w32_at w1 (by omega), by rw [hj1]; exact w32_at w1 (by omega)⟩]
  rw [hj1]
  cases hs : sN (l1.getD 0 0) (l1.getD (l1.length - 1) 0) with
  | false => unfold rpOk; rw [v1, hb, hin, hs]; rfl
  | true =>
  rw [show (!true) = false from rfl]
  try rw [hd0]
  obtain ⟨k, rfl⟩ : ∃ k : Nat, t = (k : Int) + 1 := ⟨(t - 1).toNat, by omega⟩
  refine Eq.trans (rpS_all r0 r1 v1 hb' 6 k 6 l0 l1 (by omega) (by omega) jp0) ?_
  have hr : rpR l0 l1 ((k : Int) + 1) = rpN l0 l1 (rpG l0) k l0 l1 := by unfold rpR; rw [show ((k : Int) + 1 - 1).toNat = k by omega]
  unfold rpOk rpE rpM
  rw [v1, hb, hin, hs, hr]
  all_goals (cases rpN l0 l1 (rpG l0) k l0 l1 <;> rfl)
theorem ok_rpS : FnT Try.prog 5 gRp := by
  refine fnA_ok tyOk tabok_rpS mixed Try.func5 rfl rfl an_rpS gs_rpS regOk_rpS fun vs h v h' e => ?_
  unfold gRp at e
  split at e
  case h_2 => exact (T.no_inv e).elim
  rename_i n m t r0 l0 r1 l1
  obtain ⟨hd, e1⟩ := T.pre_inv e
  obtain ⟨rfl, hl0, rfl, hl1, w1⟩ := of_decide_eq_true hd
  refine ⟨6, (rpS_run t r0 r1 hl0 hl1 w1).trans ?_⟩
  rw [← e1]
  all_goals (cases rpOk l0 l1 t <;> rfl)
end Go.Proofs.Ythjncajdognojaa.Ab

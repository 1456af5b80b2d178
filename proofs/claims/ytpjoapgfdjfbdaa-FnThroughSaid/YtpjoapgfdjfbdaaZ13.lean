/- What the proof names: lemmas and words, merged by a program from its parts. No condition. -/
import Derived.Test.YtpjoapgfdjfbdaaZ2
import Derived.Test.YtpjoapgfdjfbdaaZ4
namespace Go.Proofs.Ytpjoapgfdjfbdaa.Ab
set_option linter.unusedVariables false
set_option linter.unusedSimpArgs false
open Go
def NS : Ann := ⟨fun r => if r = 17 then some ([1, 5, 6, 7, 8, 18, 23], [1, 4, 5, 6, 7, 8]) else none, fun _ _ => .quiet⟩
noncomputable def AL : Fns := gX [(4, aa7), (5, gAt), (6, rs1), (7, (gOr zO gSs)), (8, (gOr KP gTs)), (9, (gOr zM gWn)), (10, (gOr BO gWa)), (11, (gOr uD gVs)), (12, (gOr KU ao7)), (13, gT gG8), (14, agO), (16, (gOr LG gSh)), (17, (gOr LC gBt)), (18, ao6), (15, gHa)]
theorem aT : ∀ f, FnT Try.prog f (AL f) := (aC (k := 4) MZ (aC (k := 5) aiB (aC (k := 6) aI6 (aC (k := 7) (FnT.or zG zL) (aC (k := 8) (FnT.or NC ZO) (aC (k := 9) (FnT.or zF zJ) (aC (k := 10) (FnT.or BP JS) (aC (k := 11) (FnT.or tY nY) (aC (k := 12) (FnT.or ND ZP) (aC (k := 13) ZU (aC (k := 14) JR (aC (k := 16) (FnT.or NF ZT) (aC (k := 17) (FnT.or NE ZR) (aC (k := 18) ZN (aC (k := 15) aHU bJ)))))))))))))))
noncomputable def jI : Array Oper := (yU (codeOf Try.f3) 28).getD #[]
def af7 (st : St) : Option (Bool × St) := (match decide (st.t.length = 363) with | true => (match nth st.t 1 with | .sl 1 0 z1 => (match nth st.t 5 with | .int .i64 z2 => (match nth st.t 6 with | .ptr 2 0 => (match nth st.t 7 with | .fl .f32 z4 => (match nth st.t 8 with | .fl .f32 z5 => (match st.h with | [.at z6 (.int .u8 z7), .at z8 (.int .u8 z9), .at true (.as 1 [.sl 3 0 z11, .sl 4 0 z13]), .at true (.fl .f32 z14), .at true (.fl .f32 z15)] => some ((atOk z1 z9 42) && (shD z11 z13 z14 z15 && agP z14 z15 z4 (fop .add .f32 z4 1073741824) (IntKind.i64.wrap (1 + (atF z9 42 8)))), ⟨(.any :: .sl 1 0 z1 :: .any :: .any :: .any :: .int .i64 z2 :: .ptr 2 0 :: .fl .f32 z4 :: .fl .f32 z5 :: (fE 20 (.sl 5 0 2 :: .bool true :: (fE 332 [])))), [.at z6 (.int .u8 z7), .at z8 (.int .u8 z9), .at true (.as 1 [.sl 3 0 z11, .sl 4 0 z13]), .at true (.fl .f32 z14), .at true (.fl .f32 z15), .at true (.fl .f32 [ssT z14 z15 z4, ssT z14 z15 (fop .add .f32 z4 1073741824)])]⟩) | _ => none) | _ => none) | _ => none) | _ => none) | _ => none) | _ => none) | false => none)
abbrev dU := Nat × Int × Nat × Nat × Bool × List Int × Bool × List Int × Nat × Nat × List Nat × List Nat
abbrev NT (z : dU) : Nat := z.1
abbrev aiR (z : dU) : Int := z.2.1
abbrev nI (z : dU) : Nat := z.2.2.1
abbrev aiS (z : dU) : Nat := z.2.2.2.1
abbrev aiT (z : dU) : Bool := z.2.2.2.2.1
abbrev aiU (z : dU) : List Int := z.2.2.2.2.2.1
abbrev aiV (z : dU) : Bool := z.2.2.2.2.2.2.1
abbrev xW (z : dU) : List Int := z.2.2.2.2.2.2.2.1
abbrev NV (z : dU) : Nat := z.2.2.2.2.2.2.2.2.1
abbrev NW (z : dU) : Nat := z.2.2.2.2.2.2.2.2.2.1
abbrev qO (z : dU) : List Nat := z.2.2.2.2.2.2.2.2.2.2.1
abbrev qP (z : dU) : List Nat := z.2.2.2.2.2.2.2.2.2.2.2
def aJI (z : dU) : List V := (.any :: .sl 1 0 (NT z) :: .any :: .any :: .any :: .int .i64 (aiR z) :: .ptr 2 0 :: .fl .f32 (nI z) :: .fl .f32 (aiS z) :: (fE 354 []))
def aJJ (z : dU) : H := [.at (aiT z) (.int .u8 (aiU z)), .at (aiV z) (.int .u8 (xW z)), .at true (.as 1 [.sl 3 0 (NV z), .sl 4 0 (NW z)]), .at true (.fl .f32 (qO z)), .at true (.fl .f32 (qP z))]
theorem fV : (jI[0]?).map iG = some (.load 27 (.tmp 6), some 256, none) := by kernel_rfl
theorem iE : (jI[1]?).map iG = some (.move (.tmp 7), some 257, none) := by kernel_rfl
theorem jZ : (jI[2]?).map iG = some (.move (.tmp 7), some 258, none) := by kernel_rfl
theorem kE : (jI[3]?).map iG = some (.binOp .add 29 (.tmp 258) (.const (.float .f32 1073741824)) 29, some 259, none) := by kernel_rfl
theorem o7 : (jI[4]?).map iG = some (.buildSlice 25 2 #[(0, .tmp 257), (1, .tmp 259)], some 260, none) := by kernel_rfl
theorem lL : (jI[5]?).map iG = some (.move (.tmp 1), some 261, none) := by kernel_rfl
theorem lM : (jI[6]?).map iG = some (.call ⟨.value (.func 5), #[.tmp 261, .const (.int .i64 42), .const (.int .i64 8)], #[22, 2, 2]⟩, some 262, none) := by kernel_rfl
theorem lN : (jI[7]?).map iG = some (.binOp .add 2 (.const (.int .i64 1)) (.tmp 262) 2, some 263, none) := by kernel_rfl
theorem aqU : (jI[8]?).map iG = some (.call ⟨.value (.func 16), #[.tmp 256, .tmp 260, .tmp 263], #[27, 25, 2]⟩, some 264, none) := by kernel_rfl
theorem aqV : (jI[9]?).map iG = some (.move (.tmp 264), some 255, none) := by kernel_rfl
theorem WT : (jI[10]?).map iG = some (.extract (.tmp 255) 0, some 265, none) := by kernel_rfl
theorem F8 : (jI[11]?).map iG = some (.extract (.tmp 255) 1, some 266, none) := by kernel_rfl
theorem WU : (jI[12]?).map iG = some (.assign (.tmp 265), some 29, none) := by kernel_rfl
theorem amC : (jI[13]?).map iG = some (.assign (.tmp 266), some 30, none) := by kernel_rfl
def aU (z : dU) : Nat → V
  | 0 => .g [.sl 3 0 (NV z), .sl 4 0 (NW z)]
  | 1 => .fl .f32 (nI z)
  | 2 => .fl .f32 (nI z)
  | 3 => .fl .f32 (fop .add .f32 (nI z) 1073741824)
  | 4 => .sl 5 0 2
  | 5 => .sl 1 0 (NT z)
  | 6 => .int .i64 (atF (xW z) 42 8)
  | 7 => .int .i64 (IntKind.i64.wrap (1 + (atF (xW z) 42 8)))
  | 8 => .tup [.a (.sl 6 0 2), .a (.bool true)]
  | 9 => .tup [.a (.sl 6 0 2), .a (.bool true)]
  | 10 => .sl 6 0 2
  | 11 => .bool true
  | 12 => .sl 6 0 2
  | 13 => .bool true
  | _ => .any
def dG (z : dU) (k : Nat) (l : List (Nat × V)) : List V := uJ l (uJ (an5 k [(0, 256), (1, 257), (2, 258), (3, 259), (4, 260), (5, 261), (6, 262), (7, 263), (8, 264), (9, 255), (10, 265), (11, 266), (12, 29), (13, 30)] (aU z)) (aJI z))
def dH (z : dU) : Prop := (atOk (NT z) (xW z) 42) = true ∧ (shD (NV z) (NW z) (qO z) (qP z) && agP (qO z) (qP z) (nI z) (fop .add .f32 (nI z) 1073741824) (IntKind.i64.wrap (1 + (atF (xW z) 42 8)))) = true
abbrev dR (z : dU) (m k : Nat) (t : List V) (h : H) : Prop := nO Try.prog jI (Q5 [1, 5, 6, 7, 8, 29, 30] 5 (⟨(.any :: .sl 1 0 (NT z) :: .any :: .any :: .any :: .int .i64 (aiR z) :: .ptr 2 0 :: .fl .f32 (nI z) :: .fl .f32 (aiS z) :: (fE 20 (.sl 5 0 2 :: .bool true :: (fE 332 [])))), [.at (aiT z) (.int .u8 (aiU z)), .at (aiV z) (.int .u8 (xW z)), .at true (.as 1 [.sl 3 0 (NV z), .sl 4 0 (NW z)]), .at true (.fl .f32 (qO z)), .at true (.fl .f32 (qP z)), .at true (.fl .f32 [ssT (qO z) (qP z) (nI z), ssT (qO z) (qP z) (fop .add .f32 (nI z) 1073741824)])]⟩ : St)) m (uZ 14 k) t h
def av8 (z : dU) : Nat → B
  | 0 => .at true (.fl .f32 [(nI z), fop .add .f32 (nI z) 1073741824])
  | 1 => .at true (.fl .f32 [ssT (qO z) (qP z) (nI z), ssT (qO z) (qP z) (fop .add .f32 (nI z) 1073741824)])
  | _ => .gone
def dI (z : dU) (l : List Nat) : H := aJJ z ++ l.map (av8 z)
theorem aqW {z : dU} (hc : dH z) : dR z 0 16383 (dG z 16383 []) (dI z [0, 1]) := ⟨by kernel_rfl, [0, 1, 2, 3, 4, 6], by decide, by decide, by kernel_rfl, by kernel_rfl⟩
theorem abN {z : dU} (hc : dH z) : dR z 1 8191 (dG z 8191 []) (dI z [0, 1]) := bM (aA (v := aU z 13) aT amC (aqW hc))
theorem abO {z : dU} (hc : dH z) : dR z 2 4095 (dG z 4095 []) (dI z [0, 1]) := bM (aA (v := aU z 12) aT WU (abN hc))
theorem aqX {z : dU} (hc : dH z) : dR z 2 6143 (dG z 6143 []) (dI z [0, 1]) := bM (aA (v := aU z 11) aT F8 (abN hc))
theorem aqY {z : dU} (hc : dH z) : dR z 3 2047 (dG z 2047 []) (dI z [0, 1]) := bF (aA (v := aU z 11) aT F8 (abO hc)) (aA (v := aU z 12) aT WU (aqX hc))
theorem aqZ {z : dU} (hc : dH z) : dR z 3 3071 (dG z 3071 []) (dI z [0, 1]) := bM (aA (v := aU z 10) aT WT (abO hc))
theorem aq0 {z : dU} (hc : dH z) : dR z 4 1023 (dG z 1023 []) (dI z [0, 1]) := bF (aA (v := aU z 10) aT WT (aqY hc)) (aA (v := aU z 11) aT F8 (aqZ hc))
theorem aq1 {z : dU} (hc : dH z) : dR z 5 511 (dG z 511 []) (dI z [0, 1]) := bM (aA (v := aU z 9) aT aqV (aq0 hc))
theorem LW {z : dU} (hc : dH z) : dR z 6 255 (dG z 255 []) (dI z [0]) := bM (bK (v := aU z 8) aT aqU hc.2 (aq1 hc))
theorem F9 {z : dU} (hc : dH z) : dR z 7 127 (dG z 127 []) (dI z [0]) := bM (aA (v := aU z 7) aT lN (LW hc))
theorem GG {z : dU} (hc : dH z) : dR z 8 63 (dG z 63 []) (dI z [0]) := bM (bK (v := aU z 6) aT lM hc.1 (F9 hc))
theorem WV {z : dU} (hc : dH z) : dR z 9 31 (dG z 31 []) (dI z [0]) := bM (aA (v := aU z 5) aT lL (GG hc))
theorem wO {z : dU} (hc : dH z) : dR z 7 239 (dG z 239 []) (dI z []) := bM (aA (v := aU z 4) aT o7 (LW hc))
theorem wP {z : dU} (hc : dH z) : dR z 8 111 (dG z 111 []) (dI z []) := bF (aA (v := aU z 4) aT o7 (F9 hc)) (aA (v := aU z 7) aT lN (wO hc))
theorem wQ {z : dU} (hc : dH z) : dR z 9 47 (dG z 47 []) (dI z []) := bF (aA (v := aU z 4) aT o7 (GG hc)) (bK (v := aU z 6) aT lM hc.1 (wP hc))
theorem GH {z : dU} (hc : dH z) : dR z 10 15 (dG z 15 []) (dI z []) := bF (aA (v := aU z 4) aT o7 (WV hc)) (aA (v := aU z 5) aT lL (wQ hc))
theorem wR {z : dU} (hc : dH z) : dR z 8 231 (dG z 231 []) (dI z []) := bM (aA (v := aU z 3) aT kE (wO hc))
theorem wS {z : dU} (hc : dH z) : dR z 9 103 (dG z 103 []) (dI z []) := bF (aA (v := aU z 3) aT kE (wP hc)) (aA (v := aU z 7) aT lN (wR hc))
theorem wV {z : dU} (hc : dH z) : dR z 10 39 (dG z 39 []) (dI z []) := bF (aA (v := aU z 3) aT kE (wQ hc)) (bK (v := aU z 6) aT lM hc.1 (wS hc))
theorem GI {z : dU} (hc : dH z) : dR z 11 7 (dG z 7 []) (dI z []) := bF (aA (v := aU z 3) aT kE (GH hc)) (aA (v := aU z 5) aT lL (wV hc))
theorem GK {z : dU} (hc : dH z) : dR z 9 227 (dG z 227 []) (dI z []) := bM (aA (v := aU z 2) aT jZ (wR hc))
theorem GL {z : dU} (hc : dH z) : dR z 10 99 (dG z 99 []) (dI z []) := bF (aA (v := aU z 2) aT jZ (wS hc)) (aA (v := aU z 7) aT lN (GK hc))
theorem GM {z : dU} (hc : dH z) : dR z 11 35 (dG z 35 []) (dI z []) := bF (aA (v := aU z 2) aT jZ (wV hc)) (bK (v := aU z 6) aT lM hc.1 (GL hc))
theorem WW {z : dU} (hc : dH z) : dR z 12 3 (dG z 3 []) (dI z []) := bF (aA (v := aU z 2) aT jZ (GI hc)) (aA (v := aU z 5) aT lL (GM hc))
theorem GN {z : dU} (hc : dH z) : dR z 8 237 (dG z 237 []) (dI z []) := bM (aA (v := aU z 1) aT iE (wO hc))
theorem GR {z : dU} (hc : dH z) : dR z 9 109 (dG z 109 []) (dI z []) := bF (aA (v := aU z 1) aT iE (wP hc)) (aA (v := aU z 7) aT lN (GN hc))
theorem GU {z : dU} (hc : dH z) : dR z 10 45 (dG z 45 []) (dI z []) := bF (aA (v := aU z 1) aT iE (wQ hc)) (bK (v := aU z 6) aT lM hc.1 (GR hc))
theorem WX {z : dU} (hc : dH z) : dR z 11 13 (dG z 13 []) (dI z []) := bF (aA (v := aU z 1) aT iE (GH hc)) (aA (v := aU z 5) aT lL (GU hc))
theorem GV {z : dU} (hc : dH z) : dR z 9 229 (dG z 229 []) (dI z []) := bF (aA (v := aU z 1) aT iE (wR hc)) (aA (v := aU z 3) aT kE (GN hc))
theorem GX {z : dU} (hc : dH z) : dR z 10 101 (dG z 101 []) (dI z []) := bH (aA (v := aU z 1) aT iE (wS hc)) (aA (v := aU z 3) aT kE (GR hc)) (aA (v := aU z 7) aT lN (GV hc))
theorem GY {z : dU} (hc : dH z) : dR z 11 37 (dG z 37 []) (dI z []) := bH (aA (v := aU z 1) aT iE (wV hc)) (aA (v := aU z 3) aT kE (GU hc)) (bK (v := aU z 6) aT lM hc.1 (GX hc))
theorem WY {z : dU} (hc : dH z) : dR z 12 5 (dG z 5 []) (dI z []) := bH (aA (v := aU z 1) aT iE (GI hc)) (aA (v := aU z 3) aT kE (WX hc)) (aA (v := aU z 5) aT lL (GY hc))
theorem WZ {z : dU} (hc : dH z) : dR z 10 225 (dG z 225 []) (dI z []) := bF (aA (v := aU z 1) aT iE (GK hc)) (aA (v := aU z 2) aT jZ (GV hc))
theorem W9 {z : dU} (hc : dH z) : dR z 11 97 (dG z 97 []) (dI z []) := bH (aA (v := aU z 1) aT iE (GL hc)) (aA (v := aU z 2) aT jZ (GX hc)) (aA (v := aU z 7) aT lN (WZ hc))
theorem XA {z : dU} (hc : dH z) : dR z 12 33 (dG z 33 []) (dI z []) := bH (aA (v := aU z 1) aT iE (GM hc)) (aA (v := aU z 2) aT jZ (GY hc)) (bK (v := aU z 6) aT lM hc.1 (W9 hc))
theorem amD {z : dU} (hc : dH z) : dR z 13 1 (dG z 1 []) (dI z []) := bH (aA (v := aU z 1) aT iE (WW hc)) (aA (v := aU z 2) aT jZ (WY hc)) (aA (v := aU z 5) aT lL (XA hc))
theorem XB {z : dU} (hc : dH z) : dR z 7 254 (dG z 254 []) (dI z [0]) := bM (aA (v := aU z 0) aT fV (LW hc))
theorem XC {z : dU} (hc : dH z) : dR z 8 126 (dG z 126 []) (dI z [0]) := bF (aA (v := aU z 0) aT fV (F9 hc)) (aA (v := aU z 7) aT lN (XB hc))
theorem XD {z : dU} (hc : dH z) : dR z 9 62 (dG z 62 []) (dI z [0]) := bF (aA (v := aU z 0) aT fV (GG hc)) (bK (v := aU z 6) aT lM hc.1 (XC hc))
theorem amE {z : dU} (hc : dH z) : dR z 10 30 (dG z 30 []) (dI z [0]) := bF (aA (v := aU z 0) aT fV (WV hc)) (aA (v := aU z 5) aT lL (XD hc))
theorem GZ {z : dU} (hc : dH z) : dR z 8 238 (dG z 238 []) (dI z []) := bF (aA (v := aU z 0) aT fV (wO hc)) (aA (v := aU z 4) aT o7 (XB hc))
theorem G5 {z : dU} (hc : dH z) : dR z 9 110 (dG z 110 []) (dI z []) := bH (aA (v := aU z 0) aT fV (wP hc)) (aA (v := aU z 4) aT o7 (XC hc)) (aA (v := aU z 7) aT lN (GZ hc))
theorem G6 {z : dU} (hc : dH z) : dR z 10 46 (dG z 46 []) (dI z []) := bH (aA (v := aU z 0) aT fV (wQ hc)) (aA (v := aU z 4) aT o7 (XD hc)) (bK (v := aU z 6) aT lM hc.1 (G5 hc))
theorem XE {z : dU} (hc : dH z) : dR z 11 14 (dG z 14 []) (dI z []) := bH (aA (v := aU z 0) aT fV (GH hc)) (aA (v := aU z 4) aT o7 (amE hc)) (aA (v := aU z 5) aT lL (G6 hc))
theorem G7 {z : dU} (hc : dH z) : dR z 9 230 (dG z 230 []) (dI z []) := bF (aA (v := aU z 0) aT fV (wR hc)) (aA (v := aU z 3) aT kE (GZ hc))
theorem G8 {z : dU} (hc : dH z) : dR z 10 102 (dG z 102 []) (dI z []) := bH (aA (v := aU z 0) aT fV (wS hc)) (aA (v := aU z 3) aT kE (G5 hc)) (aA (v := aU z 7) aT lN (G7 hc))
theorem G9 {z : dU} (hc : dH z) : dR z 11 38 (dG z 38 []) (dI z []) := bH (aA (v := aU z 0) aT fV (wV hc)) (aA (v := aU z 3) aT kE (G6 hc)) (bK (v := aU z 6) aT lM hc.1 (G8 hc))
theorem XF {z : dU} (hc : dH z) : dR z 12 6 (dG z 6 []) (dI z []) := bH (aA (v := aU z 0) aT fV (GI hc)) (aA (v := aU z 3) aT kE (XE hc)) (aA (v := aU z 5) aT lL (G9 hc))
theorem XG {z : dU} (hc : dH z) : dR z 10 226 (dG z 226 []) (dI z []) := bF (aA (v := aU z 0) aT fV (GK hc)) (aA (v := aU z 2) aT jZ (G7 hc))
theorem XH {z : dU} (hc : dH z) : dR z 11 98 (dG z 98 []) (dI z []) := bH (aA (v := aU z 0) aT fV (GL hc)) (aA (v := aU z 2) aT jZ (G8 hc)) (aA (v := aU z 7) aT lN (XG hc))
theorem XI {z : dU} (hc : dH z) : dR z 12 34 (dG z 34 []) (dI z []) := bH (aA (v := aU z 0) aT fV (GM hc)) (aA (v := aU z 2) aT jZ (G9 hc)) (bK (v := aU z 6) aT lM hc.1 (XH hc))
theorem amF {z : dU} (hc : dH z) : dR z 13 2 (dG z 2 []) (dI z []) := bH (aA (v := aU z 0) aT fV (WW hc)) (aA (v := aU z 2) aT jZ (XF hc)) (aA (v := aU z 5) aT lL (XI hc))
theorem XJ {z : dU} (hc : dH z) : dR z 9 236 (dG z 236 []) (dI z []) := bF (aA (v := aU z 0) aT fV (GN hc)) (aA (v := aU z 1) aT iE (GZ hc))
theorem XK {z : dU} (hc : dH z) : dR z 10 108 (dG z 108 []) (dI z []) := bH (aA (v := aU z 0) aT fV (GR hc)) (aA (v := aU z 1) aT iE (G5 hc)) (aA (v := aU z 7) aT lN (XJ hc))
theorem XL {z : dU} (hc : dH z) : dR z 11 44 (dG z 44 []) (dI z []) := bH (aA (v := aU z 0) aT fV (GU hc)) (aA (v := aU z 1) aT iE (G6 hc)) (bK (v := aU z 6) aT lM hc.1 (XK hc))
theorem amG {z : dU} (hc : dH z) : dR z 12 12 (dG z 12 []) (dI z []) := bH (aA (v := aU z 0) aT fV (WX hc)) (aA (v := aU z 1) aT iE (XE hc)) (aA (v := aU z 5) aT lL (XL hc))
theorem XM {z : dU} (hc : dH z) : dR z 10 228 (dG z 228 []) (dI z []) := bH (aA (v := aU z 0) aT fV (GV hc)) (aA (v := aU z 1) aT iE (G7 hc)) (aA (v := aU z 3) aT kE (XJ hc))
theorem XN {z : dU} (hc : dH z) : dR z 11 100 (dG z 100 []) (dI z []) := iI (aA (v := aU z 0) aT fV (GX hc)) (aA (v := aU z 1) aT iE (G8 hc)) (aA (v := aU z 3) aT kE (XK hc)) (aA (v := aU z 7) aT lN (XM hc))
theorem XO {z : dU} (hc : dH z) : dR z 12 36 (dG z 36 []) (dI z []) := iI (aA (v := aU z 0) aT fV (GY hc)) (aA (v := aU z 1) aT iE (G9 hc)) (aA (v := aU z 3) aT kE (XL hc)) (bK (v := aU z 6) aT lM hc.1 (XN hc))
theorem amH {z : dU} (hc : dH z) : dR z 13 4 (dG z 4 []) (dI z []) := iI (aA (v := aU z 0) aT fV (WY hc)) (aA (v := aU z 1) aT iE (XF hc)) (aA (v := aU z 3) aT kE (amG hc)) (aA (v := aU z 5) aT lL (XO hc))
theorem amI {z : dU} (hc : dH z) : dR z 11 224 (dG z 224 []) (dI z []) := bH (aA (v := aU z 0) aT fV (WZ hc)) (aA (v := aU z 1) aT iE (XG hc)) (aA (v := aU z 2) aT jZ (XM hc))
theorem amJ {z : dU} (hc : dH z) : dR z 12 96 (dG z 96 []) (dI z []) := iI (aA (v := aU z 0) aT fV (W9 hc)) (aA (v := aU z 1) aT iE (XH hc)) (aA (v := aU z 2) aT jZ (XN hc)) (aA (v := aU z 7) aT lN (amI hc))
theorem amK {z : dU} (hc : dH z) : dR z 13 32 (dG z 32 []) (dI z []) := iI (aA (v := aU z 0) aT fV (XA hc)) (aA (v := aU z 1) aT iE (XI hc)) (aA (v := aU z 2) aT jZ (XO hc)) (bK (v := aU z 6) aT lM hc.1 (amJ hc))
theorem amL {z : dU} (hc : dH z) : dR z 14 0 (dG z 0 []) (dI z []) := iI (aA (v := aU z 0) aT fV (amD hc)) (aA (v := aU z 1) aT iE (amF hc)) (aA (v := aU z 2) aT jZ (amH hc)) (aA (v := aU z 5) aT lL (amK hc))
theorem amM (z1 : Nat) (z2 : Int) (z4 : Nat) (z5 : Nat) (z6 : Bool) (z7 : List Int) (z8 : Bool) (z9 : List Int) (z11 : Nat) (z13 : Nat) (z14 : List Nat) (z15 : List Nat) (hc : dH (z1, z2, z4, z5, z6, z7, z8, z9, z11, z13, z14, z15)) {st : St} (hl : st.t.length = 363) (et : rG [1, 5, 6, 7, 8] 363 st.t = (.any :: .sl 1 0 z1 :: .any :: .any :: .any :: .int .i64 z2 :: .ptr 2 0 :: .fl .f32 z4 :: .fl .f32 z5 :: (fE 354 []))) (eh : st.h = [.at z6 (.int .u8 z7), .at z8 (.int .u8 z9), .at true (.as 1 [.sl 3 0 z11, .sl 4 0 z13]), .at true (.fl .f32 z14), .at true (.fl .f32 z15)]) {μ0 : Mu} {h0 : H} {w0 : World} {Q : Exit → Act → World → Prop} (hQ : ∀ μ a w, Inv μ0 h0 w0 μ (⟨(.any :: .sl 1 0 z1 :: .any :: .any :: .any :: .int .i64 z2 :: .ptr 2 0 :: .fl .f32 z4 :: .fl .f32 z5 :: (fE 20 (.sl 5 0 2 :: .bool true :: (fE 332 [])))), [.at z6 (.int .u8 z7), .at z8 (.int .u8 z9), .at true (.as 1 [.sl 3 0 z11, .sl 4 0 z13]), .at true (.fl .f32 z14), .at true (.fl .f32 z15), .at true (.fl .f32 [ssT z14 z15 z4, ssT z14 z15 (fop .add .f32 z4 1073741824)])]⟩ : St) a w → Q .normal a w) {μ : Mu} {a : Act} {w : World} (hi : Inv μ0 h0 w0 μ st a w) : (Code.region 28 jI true).wp Try.prog Q a w :=
  told (L0 := uZ 14 0) (T0 := dG (z1, z2, z4, z5, z6, z7, z8, z9, z11, z13, z14, z15) 0 []) (H0 := dI (z1, z2, z4, z5, z6, z7, z8, z9, z11, z13, z14, z15) []) [1, 5, 6, 7, 8, 29, 30] mixed (by kernel_rfl : jI.size = 14) (by kernel_rfl) hl (et.trans (by kernel_rfl)) (eh.trans (by kernel_rfl)) rfl (amL hc) hQ hi
set_option maxRecDepth 100000 in
theorem av9 : vC Try.prog 28 jI true af7 := by
  intro μ0 h0 w0 st st' hg Q hQ μ a w hi
  unfold af7 at hg
  split at hg
  case h_2 => cases hg
  rename_i hl_
  have hl_ := of_decide_eq_true hl_
  split at hg
  case h_2 => cases hg
  rename_i z1 e1_
  split at hg
  case h_2 => cases hg
  rename_i z2 e5_
  split at hg
  case h_2 => cases hg
  rename_i e6_
  split at hg
  case h_2 => cases hg
  rename_i z4 e7_
  split at hg
  case h_2 => cases hg
  rename_i z5 e8_
  split at hg
  case h_2 => cases hg
  rename_i z6 z7 z8 z9 z11 z13 z14 z15 eh_
  have hg := Option.some.inj hg
  have hc := congrArg Prod.fst hg
  have hg := congrArg Prod.snd hg
  dsimp only at hc hg
  subst hg
  obtain ⟨hc, hc1⟩ := Bool.and_eq_true_iff.mp hc
  have hc0 := hc
  exact amM z1 z2 z4 z5 z6 z7 z8 z9 z11 z13 z14 z15 ⟨hc0, hc1⟩ hl_ ((qH (T0 := (.any :: .sl 1 0 z1 :: .any :: .any :: .any :: .int .i64 z2 :: .ptr 2 0 :: .fl .f32 z4 :: .fl .f32 z5 :: (fE 354 []))) (fun i hi => by
    simp only [List.mem_cons, List.not_mem_nil, or_false] at hi
    rcases hi with rfl | rfl | rfl | rfl | rfl
    · exact e1_.trans rfl
    · exact e5_.trans rfl
    · exact e6_.trans rfl
    · exact e7_.trans rfl
    · exact e8_.trans rfl)).trans (by kernel_rfl)) eh_ hQ hi
noncomputable def wX : GsA := fun i => if i = 28 then some (tu1 af7) else none
theorem aC9 : (jL (codeOf Try.f3)).filter (fun p => (wX p.1).isSome) = [(28, jI, true)] := by kernel_rfl
theorem awC : qA Try.prog wX (codeOf Try.f3) := by
  refine qJ _ fun p hp g hg => ?_
  have h : p ∈ (jL (codeOf Try.f3)).filter (fun p => (wX p.1).isSome) := List.mem_filter.2 ⟨hp, by rw [hg]; rfl⟩
  rw [aC9] at h
  simp only [List.mem_cons, List.not_mem_nil, or_false] at h
  rcases h with rfl
  · cases hg; exact yT av9
def nP (mo : Nat) (n5 : Int) (en : Nat) (a8 : Nat) (wn : Nat) (i23 : Int) (rw0 : Bool) (l0 : List Int) (rw1 : Bool) (l1 : List Int) (b2_0n : Nat) (b2_1n : Nat) (l3 : List (Nat × Nat)) (l4 : List Nat) (l5 : List Nat) : St := ⟨(.any :: .sl 1 0 mo :: .any :: .any :: .any :: .int .i64 n5 :: .ptr 2 0 :: .fl .f32 en :: .fl .f32 a8 :: (fE 9 (.sl 3 0 wn :: .any :: .any :: .any :: .any :: .int .i64 i23 :: (fE 339 [])))), [.at rw0 (.int .u8 l0), .at rw1 (.int .u8 l1), .at true (.as 1 [.sl 4 0 b2_0n, .sl 5 0 b2_1n]), .at true (.cx .f32 l3), .at true (.fl .f32 l4), .at true (.fl .f32 l5)]⟩
abbrev aDA : Option (List Nat × List Nat) := some ([1, 5, 6, 7, 8, 18, 23], [1, 4, 5, 6, 7, 8])
noncomputable def nR {R : Type} (N M : Nat) (s : St) (K : X → St → Option R) : Option R := pO 2 aDA (fun st K => pU ty AL NS wX N 2 (oD [true, true, true, true, true, true, true, true, true, true, true, true, true, false, true, false, false] Try.f3) st K) M s K
noncomputable def NY {R : Type} (N : Nat) (K : X → St → Option R) : X → St → Option R := rF 0 (adT AL NS wX N 2 (oD [true, true, true, true, true, true, true, true, true, true, true, true, true, true] Try.f3) (K))
def mZ (mo : Nat) (n5 : Int) (en : Nat) (a8 : Nat) (rw0 : Bool) (l0 : List Int) (rw1 : Bool) (l1 : List Int) (b2_0n : Nat) (b2_1n : Nat) (l3 : List Nat) (l4 : List Nat) : St := ⟨(.any :: .sl 1 0 mo :: .any :: .any :: .bool false :: .int .i64 n5 :: .ptr 2 0 :: .fl .f32 en :: .fl .f32 a8 :: (fE 354 [])), [.at rw0 (.int .u8 l0), .at rw1 (.int .u8 l1), .at true (.as 1 [.sl 3 0 b2_0n, .sl 4 0 b2_1n]), .at true (.fl .f32 l3), .at true (.fl .f32 l4)]⟩
def LX (mo : Nat) (n5 : Int) (en : Nat) (a8 : Nat) (rw0 : Bool) (l0 : List Int) (rw1 : Bool) (l1 : List Int) (b2_0n : Nat) (b2_1n : Nat) (l3 : List Nat) (l4 : List Nat) : St := ⟨(.any :: .sl 1 0 mo :: .any :: .any :: .any :: .int .i64 n5 :: .ptr 2 0 :: .fl .f32 en :: .fl .f32 a8 :: (fE 354 [])), [.at rw0 (.int .u8 l0), .at rw1 (.int .u8 l1), .at true (.as 1 [.sl 3 0 b2_0n, .sl 4 0 b2_1n]), .at true (.fl .f32 l3), .at true (.fl .f32 l4)]⟩
theorem af8 (N : Nat) (n : Nat) (m : Nat) (r : Bool) (l : List Int) (q : Bool) (l' : List Int) : uQ ty AL NS wX N Try.f3 [.sl 0 0 n, .sl 1 0 m] [.at r (.int .u8 l), .at q (.int .u8 l')]
    = (match qG n m with | true => yA r l q l' | false => (match atOk m l' 40 with | true => (match decide (l.length = n ∧ n < 2147483648) with | true => (match decide ((dn l') = 1 ∨ (dn l') = 2 ∨ (dn l') = 3) with | true => (match atOk m l' 41 with | true => (match shD ((X0 l' l).length) ((X1 l' l).length) (X0 l' l) (X1 l' l) && uC (X0 l' l) (X1 l' l) (dE l') with | true => (match shD ((X0 l' l).length) ((X1 l' l).length) (X0 l' l) (X1 l' l) && ab1 (X0 l' l) (X1 l' l) with | true => (match shD ((tE (X0 l' l)).length) ((X1 l' l).reverse.length) (tE (X0 l' l)) ((X1 l' l).reverse) && uC (tE (X0 l' l)) ((X1 l' l).reverse) (dE l') with | true => (match shD ((tE (X0 l' l)).length) ((X1 l' l).reverse.length) (tE (X0 l' l)) ((X1 l' l).reverse) && ab1 (tE (X0 l' l)) ((X1 l' l).reverse) with | true => (match shD ((X0 l' l).length) ((X1 l' l).length) (X0 l' l) (X1 l' l) with | true => (match OC (X0 l' l) (X1 l' l) (dE l') with | true => (match shD ((X0 l' l).length) ((X1 l' l).length) (X0 l' l) (X1 l' l) && ZI (X0 l' l) (X1 l' l) (dE l') with | true => (match shD ((X0 l' l).length) ((X1 l' l).length) (X0 l' l) (X1 l' l) with | true => (match !(vsB (X0 l' l) (X1 l' l)) with | true => zA r l q l' | false => (match (shD ((tE (tE (X0 l' l))).length) ((X0 l' l).length) (tE (tE (X0 l' l))) (X0 l' l) && I7 (tE (tE (X0 l' l))) (X0 l' l)) && (shD (((X1 l' l).reverse).reverse.length) ((X1 l' l).length) (((X1 l' l).reverse).reverse) (X1 l' l) && I7 (((X1 l' l).reverse).reverse) (X1 l' l)) with | true => (match (((wvL (dE l') (X1 l' l)).length : Nat) : Int) != (IntKind.i64.wrap ((dn l') + 1)) with | true => zA r l q l' | false => (match ltB (ssT (X0 l' l) (X1 l' l) (dE l')) 0 with | true => zA r l q l' | false => (match ltB (ssR (X0 l' l) (X1 l' l) (dE l')) 0 with | true => zA r l q l' | false => (match gtD (r8G (fop .add .f32 (ssT (X0 l' l) (X1 l' l) (dE l')) (ssR (X0 l' l) (X1 l' l) (dE l'))) 1065353216) 4562254508917369340 with | true => zA r l q l' | false => (match gtD (r8G (ssT (X0 l' l) (X1 l' l) (dE l')) (ssT (tE (X0 l' l)) ((X1 l' l).reverse) (dE l'))) 4562254508917369340 with | true => zA r l q l' | false => (match gtD (r8G (ssR (X0 l' l) (X1 l' l) (dE l')) (ssR (tE (X0 l' l)) ((X1 l' l).reverse) (dE l'))) 4562254508917369340 with | true => zA r l q l' | false => (match (dn l') == 0 with | true => (match FloatKind.f32.format.order (ssT (X0 l' l) (X1 l' l) (dE l')) 1065353216 != some .eq with | true => zA r l q l' | false => (match pwB ((waW (X0 l' l) (X1 l' l) (dE l')).br) ((waW (X0 l' l) (X1 l' l) (dE l')).bi) with | true => (match pwB ((waW (X0 l' l) (X1 l' l) (dE l')).ar) ((waW (X0 l' l) (X1 l' l) (dE l')).ai) with | true => (match pwB ((waW (X0 l' l) (X1 l' l) (dE l')).ar) ((waW (X0 l' l) (X1 l' l) (dE l')).ai) with | true => (match fF .f32 (fop .add .f32 1065353216 (pwN ((waW (X0 l' l) (X1 l' l) (dE l')).ar) ((waW (X0 l' l) (X1 l' l) (dE l')).ai))) .f64 with | some c1 => (match gtD (r8G (pwN ((waW (X0 l' l) (X1 l' l) (dE l')).br) ((waW (X0 l' l) (X1 l' l) (dE l')).bi)) (fop .mul .f32 (ssR (X0 l' l) (X1 l' l) (dE l')) (pwN ((waW (X0 l' l) (X1 l' l) (dE l')).ar) ((waW (X0 l' l) (X1 l' l) (dE l')).ai)))) (fop .mul .f64 4562254508917369340 c1) with | true => zA r l q l' | false => nR N N (nP m (dn l') (dE l') (ssT (X0 l' l) (X1 l' l) (dE l')) ((wvL (dE l') (X1 l' l)).length) 0 r l q l' ((X0 l' l).length) ((X1 l' l).length) (wvL (dE l') (X1 l' l)) (X0 l' l) (X1 l' l)) (NY N (oM Try.f3 2))) | none => none) | false => none) | false => none) | false => none)) | false => (match pwB ((waW (X0 l' l) (X1 l' l) (dE l')).br) ((waW (X0 l' l) (X1 l' l) (dE l')).bi) with | true => (match pwB ((waW (X0 l' l) (X1 l' l) (dE l')).ar) ((waW (X0 l' l) (X1 l' l) (dE l')).ai) with | true => (match pwB ((waW (X0 l' l) (X1 l' l) (dE l')).ar) ((waW (X0 l' l) (X1 l' l) (dE l')).ai) with | true => (match fF .f32 (fop .add .f32 1065353216 (pwN ((waW (X0 l' l) (X1 l' l) (dE l')).ar) ((waW (X0 l' l) (X1 l' l) (dE l')).ai))) .f64 with | some c2 => (match gtD (r8G (pwN ((waW (X0 l' l) (X1 l' l) (dE l')).br) ((waW (X0 l' l) (X1 l' l) (dE l')).bi)) (fop .mul .f32 (ssR (X0 l' l) (X1 l' l) (dE l')) (pwN ((waW (X0 l' l) (X1 l' l) (dE l')).ar) ((waW (X0 l' l) (X1 l' l) (dE l')).ai)))) (fop .mul .f64 4562254508917369340 c2) with | true => zA r l q l' | false => nR N N (nP m (dn l') (dE l') (ssT (X0 l' l) (X1 l' l) (dE l')) ((wvL (dE l') (X1 l' l)).length) 0 r l q l' ((X0 l' l).length) ((X1 l' l).length) (wvL (dE l') (X1 l' l)) (X0 l' l) (X1 l' l)) (NY N (oM Try.f3 2))) | none => none) | false => none) | false => none) | false => none)))))))) | false => none)) | false => none) | false => none) | false => (match shD ((X0 l' l).length) ((X1 l' l).length) (X0 l' l) (X1 l' l) && ZI (X0 l' l) (X1 l' l) (dE l') with | true => zA r l q l' | false => none)) | false => none) | false => none) | false => none) | false => none) | false => none) | false => none) | false => none) | false => none) | false => none)) := by
  kernel_rfl
theorem abP {R : Type} (N M : Nat) (K : X → St → Option R) (mo : Nat) (n5 : Int) (en : Nat) (a8 : Nat) (wn : Nat) (i23 : Int) (rw0 : Bool) (l0 : List Int) (rw1 : Bool) (l1 : List Int) (b2_0n : Nat) (b2_1n : Nat) (l3 : List (Nat × Nat)) (l4 : List Nat) (l5 : List Nat) : nR N (M + 1) (nP mo n5 en a8 wn i23 rw0 l0 rw1 l1 b2_0n b2_1n l3 l4 l5) K
    = (match decide ((i23 : Int) ≤ n5) with | true => (match decide (0 ≤ (i23 : Int) ∧ (i23 : Int) < ((b2_1n : Nat) : Int)) with | true => (match l5[0 + (i23).toNat * 1]? with | some e1 => (match decide (0 ≤ (i23 : Int) ∧ (i23 : Int) < ((wn : Nat) : Int)) with | true => (match l3[0 + (i23).toNat * 1]? with | some (e2, e3) => (match decide (0 ≤ (i23 : Int) ∧ (i23 : Int) < ((wn : Nat) : Int)) with | true => (match l3[0 + (i23).toNat * 1]? with | some (e4, e5) => (match ltB e1 en with | true => (match FloatKind.f32.format.order e5 0 != some .eq with | true => K .ret (mZ mo n5 en a8 rw0 l0 rw1 l1 b2_0n b2_1n l4 l5) | false => (match gtD (r8G (fop .mul .f32 e2 e2) (fop .sub .f32 en e1)) 4562254508917369340 with | true => K .ret (mZ mo n5 en a8 rw0 l0 rw1 l1 b2_0n b2_1n l4 l5) | false => (match gtB e1 en with | true => (match FloatKind.f32.format.order e2 0 != some .eq with | true => K .ret (mZ mo n5 en a8 rw0 l0 rw1 l1 b2_0n b2_1n l4 l5) | false => (match gtD (r8G (fop .mul .f32 e5 e5) (fop .sub .f32 e1 en)) 4562254508917369340 with | true => K .ret (mZ mo n5 en a8 rw0 l0 rw1 l1 b2_0n b2_1n l4 l5) | false => (match decide ((i23 : Int) > 0) with | true => (match decide (0 ≤ (IntKind.i64.wrap (i23 - 1) : Int) ∧ (IntKind.i64.wrap (i23 - 1) : Int) < ((b2_0n : Nat) : Int)) with | true => (match l4[0 + (IntKind.i64.wrap (i23 - 1)).toNat * 1]? with | some e6 => (match shD b2_0n b2_1n l4 l5 && (vsB l4 l5 && iH e6) with | true => (match FloatKind.f32.format.order (l5.getD (haI l4 e6) 0) e1 != some .eq with | true => K .ret (mZ mo n5 en a8 rw0 l0 rw1 l1 b2_0n b2_1n l4 l5) | false => nR N M (nP mo n5 en a8 wn (IntKind.i64.wrap (i23 + 1)) rw0 l0 rw1 l1 b2_0n b2_1n l3 l4 l5) K) | false => none) | none => none) | false => none) | false => nR N M (nP mo n5 en a8 wn (IntKind.i64.wrap (i23 + 1)) rw0 l0 rw1 l1 b2_0n b2_1n l3 l4 l5) K))) | false => (match decide ((i23 : Int) > 0) with | true => (match decide (0 ≤ (IntKind.i64.wrap (i23 - 1) : Int) ∧ (IntKind.i64.wrap (i23 - 1) : Int) < ((b2_0n : Nat) : Int)) with | true => (match l4[0 + (IntKind.i64.wrap (i23 - 1)).toNat * 1]? with | some e7 => (match shD b2_0n b2_1n l4 l5 && (vsB l4 l5 && iH e7) with | true => (match FloatKind.f32.format.order (l5.getD (haI l4 e7) 0) e1 != some .eq with | true => K .ret (mZ mo n5 en a8 rw0 l0 rw1 l1 b2_0n b2_1n l4 l5) | false => nR N M (nP mo n5 en a8 wn (IntKind.i64.wrap (i23 + 1)) rw0 l0 rw1 l1 b2_0n b2_1n l3 l4 l5) K) | false => none) | none => none) | false => none) | false => nR N M (nP mo n5 en a8 wn (IntKind.i64.wrap (i23 + 1)) rw0 l0 rw1 l1 b2_0n b2_1n l3 l4 l5) K)))) | false => (match gtB e1 en with | true => (match FloatKind.f32.format.order e2 0 != some .eq with | true => K .ret (mZ mo n5 en a8 rw0 l0 rw1 l1 b2_0n b2_1n l4 l5) | false => (match gtD (r8G (fop .mul .f32 e5 e5) (fop .sub .f32 e1 en)) 4562254508917369340 with | true => K .ret (mZ mo n5 en a8 rw0 l0 rw1 l1 b2_0n b2_1n l4 l5) | false => (match decide ((i23 : Int) > 0) with | true => (match decide (0 ≤ (IntKind.i64.wrap (i23 - 1) : Int) ∧ (IntKind.i64.wrap (i23 - 1) : Int) < ((b2_0n : Nat) : Int)) with | true => (match l4[0 + (IntKind.i64.wrap (i23 - 1)).toNat * 1]? with | some e8 => (match shD b2_0n b2_1n l4 l5 && (vsB l4 l5 && iH e8) with | true => (match FloatKind.f32.format.order (l5.getD (haI l4 e8) 0) e1 != some .eq with | true => K .ret (mZ mo n5 en a8 rw0 l0 rw1 l1 b2_0n b2_1n l4 l5) | false => nR N M (nP mo n5 en a8 wn (IntKind.i64.wrap (i23 + 1)) rw0 l0 rw1 l1 b2_0n b2_1n l3 l4 l5) K) | false => none) | none => none) | false => none) | false => nR N M (nP mo n5 en a8 wn (IntKind.i64.wrap (i23 + 1)) rw0 l0 rw1 l1 b2_0n b2_1n l3 l4 l5) K))) | false => (match decide ((i23 : Int) > 0) with | true => (match decide (0 ≤ (IntKind.i64.wrap (i23 - 1) : Int) ∧ (IntKind.i64.wrap (i23 - 1) : Int) < ((b2_0n : Nat) : Int)) with | true => (match l4[0 + (IntKind.i64.wrap (i23 - 1)).toNat * 1]? with | some e9 => (match shD b2_0n b2_1n l4 l5 && (vsB l4 l5 && iH e9) with | true => (match FloatKind.f32.format.order (l5.getD (haI l4 e9) 0) e1 != some .eq with | true => K .ret (mZ mo n5 en a8 rw0 l0 rw1 l1 b2_0n b2_1n l4 l5) | false => nR N M (nP mo n5 en a8 wn (IntKind.i64.wrap (i23 + 1)) rw0 l0 rw1 l1 b2_0n b2_1n l3 l4 l5) K) | false => none) | none => none) | false => none) | false => nR N M (nP mo n5 en a8 wn (IntKind.i64.wrap (i23 + 1)) rw0 l0 rw1 l1 b2_0n b2_1n l3 l4 l5) K))) | none => none) | false => none) | none => none) | false => none) | none => none) | false => none) | false => K (.exit 0) (LX mo n5 en a8 rw0 l0 rw1 l1 b2_0n b2_1n l4 l5)) := by
  kernel_rfl
theorem amN (N : Nat) (mo : Nat) (n5 : Int) (en : Nat) (a8 : Nat) (rw0 : Bool) (l0 : List Int) (rw1 : Bool) (l1 : List Int) (b2_0n : Nat) (b2_1n : Nat) (l3 : List Nat) (l4 : List Nat) : NY N (oM Try.f3 2) (.exit 0) (LX mo n5 en a8 rw0 l0 rw1 l1 b2_0n b2_1n l3 l4)
    = (match (atOk mo l1 42) && (shD b2_0n b2_1n l3 l4 && agP l3 l4 en (e2W en) (dq l1)) with | true => (match shD b2_0n b2_1n l3 l4 && aCF l3 l4 en (e2W en) with | true => (match FloatKind.f32.format.order (ssT l3 l4 en) a8 != some .eq with | true => zA rw0 l0 rw1 l1 | false => (match ltB ((btV l3 l4 en (e2W en)).2) a8 with | true => zA rw0 l0 rw1 l1 | false => (match ltB ((btV l3 l4 en (e2W en)).2) (ssT l3 l4 (e2W en)) with | true => zA rw0 l0 rw1 l1 | false => (match ltB ((btV l3 l4 en (e2W en)).1) en with | true => zA rw0 l0 rw1 l1 | false => (match gtB ((btV l3 l4 en (e2W en)).1) (e2W en) with | true => zA rw0 l0 rw1 l1 | false => (match n5 == 0 with | true => yA rw0 l0 rw1 l1 | false => (match atOk mo l1 43 with | true => (match decide ((dt l1) = 1 ∨ (dt l1) = 2) with | true => (match decide (l3.length = b2_0n ∧ b2_0n < 2147483648 ∧ l4.length = b2_1n ∧ b2_1n < 2147483648 ∧ w32 l4 = true) with | true => (match tX l3 l4 ((dt l1)) with | true => (match n5 == 1 with | true => (match ((dt l1)) == 1 with | true => yA rw0 l0 rw1 l1 | false => zA rw0 l0 rw1 l1) | false => (match shD ((rpE l3 l4 ((dt l1))).length) ((rpM l3 l4 ((dt l1))).length) (rpE l3 l4 ((dt l1))) (rpM l3 l4 ((dt l1))) && uC (rpE l3 l4 ((dt l1))) (rpM l3 l4 ((dt l1))) en with | true => (match (((rpE l3 l4 ((dt l1))).length : Nat) : Int) == (IntKind.i64.wrap (n5 * ((dt l1)))) with | true => some (.bool (ltD (r8G (fop .add .f32 (ssT (rpE l3 l4 ((dt l1))) (rpM l3 l4 ((dt l1))) en) (ssR (rpE l3 l4 ((dt l1))) (rpM l3 l4 ((dt l1))) en)) 1065353216) 4576918229304087675), [.at rw0 (.int .u8 l0), .at rw1 (.int .u8 l1)]) | false => zA rw0 l0 rw1 l1) | false => none)) | false => (match n5 == 1 with | true => (match ((dt l1)) == 1 with | true => yA rw0 l0 rw1 l1 | false => yA rw0 l0 rw1 l1) | false => none)) | false => none) | false => none) | false => none))))))) | false => none) | false => none) := by
  kernel_rfl
end Go.Proofs.Ytpjoapgfdjfbdaa.Ab

/- What the proof names: lemmas and words, merged by a program from its parts. No condition. -/
import Derived.Test.YtpjoapgfdjfbdaaZ2
import Derived.Test.YtpjoapgfdjfbdaaZ4
namespace Go.Proofs.Ytpjoapgfdjfbdaa.Ab
set_option linter.unusedVariables false
set_option linter.unusedSimpArgs false
open Go
def NZ : Ann := ⟨fun r => if r = 17 then some ([1, 5, 6, 7, 8, 18, 23], [1, 4, 5, 6, 7, 8]) else none, fun _ _ => .quiet⟩
noncomputable def AO : Fns := gX [(4, aa7), (5, gAt), (6, rs1), (7, (gOr zO gSs)), (8, (gOr KP gTs)), (9, (gOr zM gWn)), (10, (gOr BO gWa)), (11, (gOr uD gVs)), (12, (gOr KU ao7)), (13, gT gG8), (14, agO), (16, (gOr LG gSh)), (17, (gOr LC gBt)), (18, ao6), (15, gHa)]
theorem aV : ∀ f, FnT Try.prog f (AO f) := (aC (k := 4) MZ (aC (k := 5) aiB (aC (k := 6) aI6 (aC (k := 7) (FnT.or zG zL) (aC (k := 8) (FnT.or NC ZO) (aC (k := 9) (FnT.or zF zJ) (aC (k := 10) (FnT.or BP JS) (aC (k := 11) (FnT.or tY nY) (aC (k := 12) (FnT.or ND ZP) (aC (k := 13) ZU (aC (k := 14) JR (aC (k := 16) (FnT.or NF ZT) (aC (k := 17) (FnT.or NE ZR) (aC (k := 18) ZN (aC (k := 15) aHU bJ)))))))))))))))
noncomputable def jJ : Array Oper := (yU (codeOf Try.f3) 28).getD #[]
def af9 (st : St) : Option (Bool × St) := (match decide (st.t.length = 363) with | true => (match nth st.t 1 with | .sl 0 0 z1 => (match nth st.t 5 with | .int .i64 z2 => (match nth st.t 6 with | .ptr 1 0 => (match nth st.t 7 with | .fl .f32 z4 => (match nth st.t 8 with | .fl .f32 z5 => (match st.h with | [.at z6 (.int .u8 z7), .at true (.as 1 [.sl 2 0 z9, .sl 3 0 z11]), .at true (.fl .f32 z12), .at true (.fl .f32 z13)] => some ((atOk z1 z7 42) && (shD z9 z11 z12 z13 && agP z12 z13 z4 (fop .add .f32 z4 1073741824) (IntKind.i64.wrap (1 + (atF z7 42 8)))), ⟨(.any :: .sl 0 0 z1 :: .any :: .any :: .any :: .int .i64 z2 :: .ptr 1 0 :: .fl .f32 z4 :: .fl .f32 z5 :: (fE 20 (.sl 4 0 2 :: .bool true :: (fE 332 [])))), [.at z6 (.int .u8 z7), .at true (.as 1 [.sl 2 0 z9, .sl 3 0 z11]), .at true (.fl .f32 z12), .at true (.fl .f32 z13), .at true (.fl .f32 [ssT z12 z13 z4, ssT z12 z13 (fop .add .f32 z4 1073741824)])]⟩) | _ => none) | _ => none) | _ => none) | _ => none) | _ => none) | _ => none) | false => none)
abbrev dW := Nat × Int × Nat × Nat × Bool × List Int × Nat × Nat × List Nat × List Nat
abbrev N7 (z : dW) : Nat := z.1
abbrev aiW (z : dW) : Int := z.2.1
abbrev nJ (z : dW) : Nat := z.2.2.1
abbrev aiX (z : dW) : Nat := z.2.2.2.1
abbrev aiY (z : dW) : Bool := z.2.2.2.2.1
abbrev xX (z : dW) : List Int := z.2.2.2.2.2.1
abbrev N8 (z : dW) : Nat := z.2.2.2.2.2.2.1
abbrev N9 (z : dW) : Nat := z.2.2.2.2.2.2.2.1
abbrev tC (z : dW) : List Nat := z.2.2.2.2.2.2.2.2.1
abbrev tH (z : dW) : List Nat := z.2.2.2.2.2.2.2.2.2
def aJK (z : dW) : List V := (.any :: .sl 0 0 (N7 z) :: .any :: .any :: .any :: .int .i64 (aiW z) :: .ptr 1 0 :: .fl .f32 (nJ z) :: .fl .f32 (aiX z) :: (fE 354 []))
def aJL (z : dW) : H := [.at (aiY z) (.int .u8 (xX z)), .at true (.as 1 [.sl 2 0 (N8 z), .sl 3 0 (N9 z)]), .at true (.fl .f32 (tC z)), .at true (.fl .f32 (tH z))]
theorem fZ : (jJ[0]?).map iG = some (.load 27 (.tmp 6), some 256, none) := by kernel_rfl
theorem iF : (jJ[1]?).map iG = some (.move (.tmp 7), some 257, none) := by kernel_rfl
theorem kF : (jJ[2]?).map iG = some (.move (.tmp 7), some 258, none) := by kernel_rfl
theorem kH : (jJ[3]?).map iG = some (.binOp .add 29 (.tmp 258) (.const (.float .f32 1073741824)) 29, some 259, none) := by kernel_rfl
theorem o8 : (jJ[4]?).map iG = some (.buildSlice 25 2 #[(0, .tmp 257), (1, .tmp 259)], some 260, none) := by kernel_rfl
theorem lQ : (jJ[5]?).map iG = some (.move (.tmp 1), some 261, none) := by kernel_rfl
theorem lS : (jJ[6]?).map iG = some (.call ⟨.value (.func 5), #[.tmp 261, .const (.int .i64 42), .const (.int .i64 8)], #[22, 2, 2]⟩, some 262, none) := by kernel_rfl
theorem lT : (jJ[7]?).map iG = some (.binOp .add 2 (.const (.int .i64 1)) (.tmp 262) 2, some 263, none) := by kernel_rfl
theorem aq2 : (jJ[8]?).map iG = some (.call ⟨.value (.func 16), #[.tmp 256, .tmp 260, .tmp 263], #[27, 25, 2]⟩, some 264, none) := by kernel_rfl
theorem aq3 : (jJ[9]?).map iG = some (.move (.tmp 264), some 255, none) := by kernel_rfl
theorem XP : (jJ[10]?).map iG = some (.extract (.tmp 255) 0, some 265, none) := by kernel_rfl
theorem HY : (jJ[11]?).map iG = some (.extract (.tmp 255) 1, some 266, none) := by kernel_rfl
theorem XQ : (jJ[12]?).map iG = some (.assign (.tmp 265), some 29, none) := by kernel_rfl
theorem amO : (jJ[13]?).map iG = some (.assign (.tmp 266), some 30, none) := by kernel_rfl
def aX (z : dW) : Nat → V
  | 0 => .g [.sl 2 0 (N8 z), .sl 3 0 (N9 z)]
  | 1 => .fl .f32 (nJ z)
  | 2 => .fl .f32 (nJ z)
  | 3 => .fl .f32 (fop .add .f32 (nJ z) 1073741824)
  | 4 => .sl 4 0 2
  | 5 => .sl 0 0 (N7 z)
  | 6 => .int .i64 (atF (xX z) 42 8)
  | 7 => .int .i64 (IntKind.i64.wrap (1 + (atF (xX z) 42 8)))
  | 8 => .tup [.a (.sl 5 0 2), .a (.bool true)]
  | 9 => .tup [.a (.sl 5 0 2), .a (.bool true)]
  | 10 => .sl 5 0 2
  | 11 => .bool true
  | 12 => .sl 5 0 2
  | 13 => .bool true
  | _ => .any
def dK (z : dW) (k : Nat) (l : List (Nat × V)) : List V := uJ l (uJ (an5 k [(0, 256), (1, 257), (2, 258), (3, 259), (4, 260), (5, 261), (6, 262), (7, 263), (8, 264), (9, 255), (10, 265), (11, 266), (12, 29), (13, 30)] (aX z)) (aJK z))
def dL (z : dW) : Prop := (atOk (N7 z) (xX z) 42) = true ∧ (shD (N8 z) (N9 z) (tC z) (tH z) && agP (tC z) (tH z) (nJ z) (fop .add .f32 (nJ z) 1073741824) (IntKind.i64.wrap (1 + (atF (xX z) 42 8)))) = true
abbrev dS (z : dW) (m k : Nat) (t : List V) (h : H) : Prop := nO Try.prog jJ (Q5 [1, 5, 6, 7, 8, 29, 30] 4 (⟨(.any :: .sl 0 0 (N7 z) :: .any :: .any :: .any :: .int .i64 (aiW z) :: .ptr 1 0 :: .fl .f32 (nJ z) :: .fl .f32 (aiX z) :: (fE 20 (.sl 4 0 2 :: .bool true :: (fE 332 [])))), [.at (aiY z) (.int .u8 (xX z)), .at true (.as 1 [.sl 2 0 (N8 z), .sl 3 0 (N9 z)]), .at true (.fl .f32 (tC z)), .at true (.fl .f32 (tH z)), .at true (.fl .f32 [ssT (tC z) (tH z) (nJ z), ssT (tC z) (tH z) (fop .add .f32 (nJ z) 1073741824)])]⟩ : St)) m (uZ 14 k) t h
def awD (z : dW) : Nat → B
  | 0 => .at true (.fl .f32 [(nJ z), fop .add .f32 (nJ z) 1073741824])
  | 1 => .at true (.fl .f32 [ssT (tC z) (tH z) (nJ z), ssT (tC z) (tH z) (fop .add .f32 (nJ z) 1073741824)])
  | _ => .gone
def dM (z : dW) (l : List Nat) : H := aJL z ++ l.map (awD z)
theorem aq4 {z : dW} (hc : dL z) : dS z 0 16383 (dK z 16383 []) (dM z [0, 1]) := ⟨by kernel_rfl, [0, 1, 2, 3, 5], by decide, by decide, by kernel_rfl, by kernel_rfl⟩
theorem abQ {z : dW} (hc : dL z) : dS z 1 8191 (dK z 8191 []) (dM z [0, 1]) := bM (aA (v := aX z 13) aV amO (aq4 hc))
theorem abR {z : dW} (hc : dL z) : dS z 2 4095 (dK z 4095 []) (dM z [0, 1]) := bM (aA (v := aX z 12) aV XQ (abQ hc))
theorem aq5 {z : dW} (hc : dL z) : dS z 2 6143 (dK z 6143 []) (dM z [0, 1]) := bM (aA (v := aX z 11) aV HY (abQ hc))
theorem aq6 {z : dW} (hc : dL z) : dS z 3 2047 (dK z 2047 []) (dM z [0, 1]) := bF (aA (v := aX z 11) aV HY (abR hc)) (aA (v := aX z 12) aV XQ (aq5 hc))
theorem aq7 {z : dW} (hc : dL z) : dS z 3 3071 (dK z 3071 []) (dM z [0, 1]) := bM (aA (v := aX z 10) aV XP (abR hc))
theorem aq8 {z : dW} (hc : dL z) : dS z 4 1023 (dK z 1023 []) (dM z [0, 1]) := bF (aA (v := aX z 10) aV XP (aq6 hc)) (aA (v := aX z 11) aV HY (aq7 hc))
theorem aq9 {z : dW} (hc : dL z) : dS z 5 511 (dK z 511 []) (dM z [0, 1]) := bM (aA (v := aX z 9) aV aq3 (aq8 hc))
theorem LY {z : dW} (hc : dL z) : dS z 6 255 (dK z 255 []) (dM z [0]) := bM (bK (v := aX z 8) aV aq2 hc.2 (aq9 hc))
theorem H5 {z : dW} (hc : dL z) : dS z 7 127 (dK z 127 []) (dM z [0]) := bM (aA (v := aX z 7) aV lT (LY hc))
theorem H6 {z : dW} (hc : dL z) : dS z 8 63 (dK z 63 []) (dM z [0]) := bM (bK (v := aX z 6) aV lS hc.1 (H5 hc))
theorem XR {z : dW} (hc : dL z) : dS z 9 31 (dK z 31 []) (dM z [0]) := bM (aA (v := aX z 5) aV lQ (H6 hc))
theorem wY {z : dW} (hc : dL z) : dS z 7 239 (dK z 239 []) (dM z []) := bM (aA (v := aX z 4) aV o8 (LY hc))
theorem wZ {z : dW} (hc : dL z) : dS z 8 111 (dK z 111 []) (dM z []) := bF (aA (v := aX z 4) aV o8 (H5 hc)) (aA (v := aX z 7) aV lT (wY hc))
theorem xA {z : dW} (hc : dL z) : dS z 9 47 (dK z 47 []) (dM z []) := bF (aA (v := aX z 4) aV o8 (H6 hc)) (bK (v := aX z 6) aV lS hc.1 (wZ hc))
theorem H7 {z : dW} (hc : dL z) : dS z 10 15 (dK z 15 []) (dM z []) := bF (aA (v := aX z 4) aV o8 (XR hc)) (aA (v := aX z 5) aV lQ (xA hc))
theorem xC {z : dW} (hc : dL z) : dS z 8 231 (dK z 231 []) (dM z []) := bM (aA (v := aX z 3) aV kH (wY hc))
theorem xG {z : dW} (hc : dL z) : dS z 9 103 (dK z 103 []) (dM z []) := bF (aA (v := aX z 3) aV kH (wZ hc)) (aA (v := aX z 7) aV lT (xC hc))
theorem xH {z : dW} (hc : dL z) : dS z 10 39 (dK z 39 []) (dM z []) := bF (aA (v := aX z 3) aV kH (xA hc)) (bK (v := aX z 6) aV lS hc.1 (xG hc))
theorem H8 {z : dW} (hc : dL z) : dS z 11 7 (dK z 7 []) (dM z []) := bF (aA (v := aX z 3) aV kH (H7 hc)) (aA (v := aX z 5) aV lQ (xH hc))
theorem H9 {z : dW} (hc : dL z) : dS z 9 227 (dK z 227 []) (dM z []) := bM (aA (v := aX z 2) aV kF (xC hc))
theorem IA {z : dW} (hc : dL z) : dS z 10 99 (dK z 99 []) (dM z []) := bF (aA (v := aX z 2) aV kF (xG hc)) (aA (v := aX z 7) aV lT (H9 hc))
theorem IB {z : dW} (hc : dL z) : dS z 11 35 (dK z 35 []) (dM z []) := bF (aA (v := aX z 2) aV kF (xH hc)) (bK (v := aX z 6) aV lS hc.1 (IA hc))
theorem XT {z : dW} (hc : dL z) : dS z 12 3 (dK z 3 []) (dM z []) := bF (aA (v := aX z 2) aV kF (H8 hc)) (aA (v := aX z 5) aV lQ (IB hc))
theorem IC {z : dW} (hc : dL z) : dS z 8 237 (dK z 237 []) (dM z []) := bM (aA (v := aX z 1) aV iF (wY hc))
theorem IE {z : dW} (hc : dL z) : dS z 9 109 (dK z 109 []) (dM z []) := bF (aA (v := aX z 1) aV iF (wZ hc)) (aA (v := aX z 7) aV lT (IC hc))
theorem IG {z : dW} (hc : dL z) : dS z 10 45 (dK z 45 []) (dM z []) := bF (aA (v := aX z 1) aV iF (xA hc)) (bK (v := aX z 6) aV lS hc.1 (IE hc))
theorem XU {z : dW} (hc : dL z) : dS z 11 13 (dK z 13 []) (dM z []) := bF (aA (v := aX z 1) aV iF (H7 hc)) (aA (v := aX z 5) aV lQ (IG hc))
theorem II {z : dW} (hc : dL z) : dS z 9 229 (dK z 229 []) (dM z []) := bF (aA (v := aX z 1) aV iF (xC hc)) (aA (v := aX z 3) aV kH (IC hc))
theorem IJ {z : dW} (hc : dL z) : dS z 10 101 (dK z 101 []) (dM z []) := bH (aA (v := aX z 1) aV iF (xG hc)) (aA (v := aX z 3) aV kH (IE hc)) (aA (v := aX z 7) aV lT (II hc))
theorem IK {z : dW} (hc : dL z) : dS z 11 37 (dK z 37 []) (dM z []) := bH (aA (v := aX z 1) aV iF (xH hc)) (aA (v := aX z 3) aV kH (IG hc)) (bK (v := aX z 6) aV lS hc.1 (IJ hc))
theorem XV {z : dW} (hc : dL z) : dS z 12 5 (dK z 5 []) (dM z []) := bH (aA (v := aX z 1) aV iF (H8 hc)) (aA (v := aX z 3) aV kH (XU hc)) (aA (v := aX z 5) aV lQ (IK hc))
theorem XW {z : dW} (hc : dL z) : dS z 10 225 (dK z 225 []) (dM z []) := bF (aA (v := aX z 1) aV iF (H9 hc)) (aA (v := aX z 2) aV kF (II hc))
theorem XX {z : dW} (hc : dL z) : dS z 11 97 (dK z 97 []) (dM z []) := bH (aA (v := aX z 1) aV iF (IA hc)) (aA (v := aX z 2) aV kF (IJ hc)) (aA (v := aX z 7) aV lT (XW hc))
theorem XY {z : dW} (hc : dL z) : dS z 12 33 (dK z 33 []) (dM z []) := bH (aA (v := aX z 1) aV iF (IB hc)) (aA (v := aX z 2) aV kF (IK hc)) (bK (v := aX z 6) aV lS hc.1 (XX hc))
theorem amP {z : dW} (hc : dL z) : dS z 13 1 (dK z 1 []) (dM z []) := bH (aA (v := aX z 1) aV iF (XT hc)) (aA (v := aX z 2) aV kF (XV hc)) (aA (v := aX z 5) aV lQ (XY hc))
theorem XZ {z : dW} (hc : dL z) : dS z 7 254 (dK z 254 []) (dM z [0]) := bM (aA (v := aX z 0) aV fZ (LY hc))
theorem YA {z : dW} (hc : dL z) : dS z 8 126 (dK z 126 []) (dM z [0]) := bF (aA (v := aX z 0) aV fZ (H5 hc)) (aA (v := aX z 7) aV lT (XZ hc))
theorem YB {z : dW} (hc : dL z) : dS z 9 62 (dK z 62 []) (dM z [0]) := bF (aA (v := aX z 0) aV fZ (H6 hc)) (bK (v := aX z 6) aV lS hc.1 (YA hc))
theorem amQ {z : dW} (hc : dL z) : dS z 10 30 (dK z 30 []) (dM z [0]) := bF (aA (v := aX z 0) aV fZ (XR hc)) (aA (v := aX z 5) aV lQ (YB hc))
theorem IL {z : dW} (hc : dL z) : dS z 8 238 (dK z 238 []) (dM z []) := bF (aA (v := aX z 0) aV fZ (wY hc)) (aA (v := aX z 4) aV o8 (XZ hc))
theorem IM {z : dW} (hc : dL z) : dS z 9 110 (dK z 110 []) (dM z []) := bH (aA (v := aX z 0) aV fZ (wZ hc)) (aA (v := aX z 4) aV o8 (YA hc)) (aA (v := aX z 7) aV lT (IL hc))
theorem IP {z : dW} (hc : dL z) : dS z 10 46 (dK z 46 []) (dM z []) := bH (aA (v := aX z 0) aV fZ (xA hc)) (aA (v := aX z 4) aV o8 (YB hc)) (bK (v := aX z 6) aV lS hc.1 (IM hc))
theorem YC {z : dW} (hc : dL z) : dS z 11 14 (dK z 14 []) (dM z []) := bH (aA (v := aX z 0) aV fZ (H7 hc)) (aA (v := aX z 4) aV o8 (amQ hc)) (aA (v := aX z 5) aV lQ (IP hc))
theorem IQ {z : dW} (hc : dL z) : dS z 9 230 (dK z 230 []) (dM z []) := bF (aA (v := aX z 0) aV fZ (xC hc)) (aA (v := aX z 3) aV kH (IL hc))
theorem IR {z : dW} (hc : dL z) : dS z 10 102 (dK z 102 []) (dM z []) := bH (aA (v := aX z 0) aV fZ (xG hc)) (aA (v := aX z 3) aV kH (IM hc)) (aA (v := aX z 7) aV lT (IQ hc))
theorem IU {z : dW} (hc : dL z) : dS z 11 38 (dK z 38 []) (dM z []) := bH (aA (v := aX z 0) aV fZ (xH hc)) (aA (v := aX z 3) aV kH (IP hc)) (bK (v := aX z 6) aV lS hc.1 (IR hc))
theorem YD {z : dW} (hc : dL z) : dS z 12 6 (dK z 6 []) (dM z []) := bH (aA (v := aX z 0) aV fZ (H8 hc)) (aA (v := aX z 3) aV kH (YC hc)) (aA (v := aX z 5) aV lQ (IU hc))
theorem YE {z : dW} (hc : dL z) : dS z 10 226 (dK z 226 []) (dM z []) := bF (aA (v := aX z 0) aV fZ (H9 hc)) (aA (v := aX z 2) aV kF (IQ hc))
theorem YF {z : dW} (hc : dL z) : dS z 11 98 (dK z 98 []) (dM z []) := bH (aA (v := aX z 0) aV fZ (IA hc)) (aA (v := aX z 2) aV kF (IR hc)) (aA (v := aX z 7) aV lT (YE hc))
theorem YG {z : dW} (hc : dL z) : dS z 12 34 (dK z 34 []) (dM z []) := bH (aA (v := aX z 0) aV fZ (IB hc)) (aA (v := aX z 2) aV kF (IU hc)) (bK (v := aX z 6) aV lS hc.1 (YF hc))
theorem amR {z : dW} (hc : dL z) : dS z 13 2 (dK z 2 []) (dM z []) := bH (aA (v := aX z 0) aV fZ (XT hc)) (aA (v := aX z 2) aV kF (YD hc)) (aA (v := aX z 5) aV lQ (YG hc))
theorem YH {z : dW} (hc : dL z) : dS z 9 236 (dK z 236 []) (dM z []) := bF (aA (v := aX z 0) aV fZ (IC hc)) (aA (v := aX z 1) aV iF (IL hc))
theorem YI {z : dW} (hc : dL z) : dS z 10 108 (dK z 108 []) (dM z []) := bH (aA (v := aX z 0) aV fZ (IE hc)) (aA (v := aX z 1) aV iF (IM hc)) (aA (v := aX z 7) aV lT (YH hc))
theorem YJ {z : dW} (hc : dL z) : dS z 11 44 (dK z 44 []) (dM z []) := bH (aA (v := aX z 0) aV fZ (IG hc)) (aA (v := aX z 1) aV iF (IP hc)) (bK (v := aX z 6) aV lS hc.1 (YI hc))
theorem amS {z : dW} (hc : dL z) : dS z 12 12 (dK z 12 []) (dM z []) := bH (aA (v := aX z 0) aV fZ (XU hc)) (aA (v := aX z 1) aV iF (YC hc)) (aA (v := aX z 5) aV lQ (YJ hc))
theorem YK {z : dW} (hc : dL z) : dS z 10 228 (dK z 228 []) (dM z []) := bH (aA (v := aX z 0) aV fZ (II hc)) (aA (v := aX z 1) aV iF (IQ hc)) (aA (v := aX z 3) aV kH (YH hc))
theorem YL {z : dW} (hc : dL z) : dS z 11 100 (dK z 100 []) (dM z []) := iI (aA (v := aX z 0) aV fZ (IJ hc)) (aA (v := aX z 1) aV iF (IR hc)) (aA (v := aX z 3) aV kH (YI hc)) (aA (v := aX z 7) aV lT (YK hc))
theorem YM {z : dW} (hc : dL z) : dS z 12 36 (dK z 36 []) (dM z []) := iI (aA (v := aX z 0) aV fZ (IK hc)) (aA (v := aX z 1) aV iF (IU hc)) (aA (v := aX z 3) aV kH (YJ hc)) (bK (v := aX z 6) aV lS hc.1 (YL hc))
theorem amT {z : dW} (hc : dL z) : dS z 13 4 (dK z 4 []) (dM z []) := iI (aA (v := aX z 0) aV fZ (XV hc)) (aA (v := aX z 1) aV iF (YD hc)) (aA (v := aX z 3) aV kH (amS hc)) (aA (v := aX z 5) aV lQ (YM hc))
theorem amU {z : dW} (hc : dL z) : dS z 11 224 (dK z 224 []) (dM z []) := bH (aA (v := aX z 0) aV fZ (XW hc)) (aA (v := aX z 1) aV iF (YE hc)) (aA (v := aX z 2) aV kF (YK hc))
theorem amV {z : dW} (hc : dL z) : dS z 12 96 (dK z 96 []) (dM z []) := iI (aA (v := aX z 0) aV fZ (XX hc)) (aA (v := aX z 1) aV iF (YF hc)) (aA (v := aX z 2) aV kF (YL hc)) (aA (v := aX z 7) aV lT (amU hc))
theorem amX {z : dW} (hc : dL z) : dS z 13 32 (dK z 32 []) (dM z []) := iI (aA (v := aX z 0) aV fZ (XY hc)) (aA (v := aX z 1) aV iF (YG hc)) (aA (v := aX z 2) aV kF (YM hc)) (bK (v := aX z 6) aV lS hc.1 (amV hc))
theorem amY {z : dW} (hc : dL z) : dS z 14 0 (dK z 0 []) (dM z []) := iI (aA (v := aX z 0) aV fZ (amP hc)) (aA (v := aX z 1) aV iF (amR hc)) (aA (v := aX z 2) aV kF (amT hc)) (aA (v := aX z 5) aV lQ (amX hc))
theorem amZ (z1 : Nat) (z2 : Int) (z4 : Nat) (z5 : Nat) (z6 : Bool) (z7 : List Int) (z9 : Nat) (z11 : Nat) (z12 : List Nat) (z13 : List Nat) (hc : dL (z1, z2, z4, z5, z6, z7, z9, z11, z12, z13)) {st : St} (hl : st.t.length = 363) (et : rG [1, 5, 6, 7, 8] 363 st.t = (.any :: .sl 0 0 z1 :: .any :: .any :: .any :: .int .i64 z2 :: .ptr 1 0 :: .fl .f32 z4 :: .fl .f32 z5 :: (fE 354 []))) (eh : st.h = [.at z6 (.int .u8 z7), .at true (.as 1 [.sl 2 0 z9, .sl 3 0 z11]), .at true (.fl .f32 z12), .at true (.fl .f32 z13)]) {μ0 : Mu} {h0 : H} {w0 : World} {Q : Exit → Act → World → Prop} (hQ : ∀ μ a w, Inv μ0 h0 w0 μ (⟨(.any :: .sl 0 0 z1 :: .any :: .any :: .any :: .int .i64 z2 :: .ptr 1 0 :: .fl .f32 z4 :: .fl .f32 z5 :: (fE 20 (.sl 4 0 2 :: .bool true :: (fE 332 [])))), [.at z6 (.int .u8 z7), .at true (.as 1 [.sl 2 0 z9, .sl 3 0 z11]), .at true (.fl .f32 z12), .at true (.fl .f32 z13), .at true (.fl .f32 [ssT z12 z13 z4, ssT z12 z13 (fop .add .f32 z4 1073741824)])]⟩ : St) a w → Q .normal a w) {μ : Mu} {a : Act} {w : World} (hi : Inv μ0 h0 w0 μ st a w) : (Code.region 28 jJ true).wp Try.prog Q a w :=
  told (L0 := uZ 14 0) (T0 := dK (z1, z2, z4, z5, z6, z7, z9, z11, z12, z13) 0 []) (H0 := dM (z1, z2, z4, z5, z6, z7, z9, z11, z12, z13) []) [1, 5, 6, 7, 8, 29, 30] mixed (by kernel_rfl : jJ.size = 14) (by kernel_rfl) hl (et.trans (by kernel_rfl)) (eh.trans (by kernel_rfl)) rfl (amY hc) hQ hi
set_option maxRecDepth 100000 in
theorem awE : vC Try.prog 28 jJ true af9 := by
  intro μ0 h0 w0 st st' hg Q hQ μ a w hi
  unfold af9 at hg
  split at hg
  case h_2 => cases hg
  rename_i hl_
  have hl_ := of_decide_eq_true hl_
  split at hg
  case h_2 => cases hg
  rename_i z1 e1_
  split at hg
  case h_2 => cases hg
  rename_i z2 e5_
  split at hg
  case h_2 => cases hg
  rename_i e6_
  split at hg
  case h_2 => cases hg
  rename_i z4 e7_
  split at hg
  case h_2 => cases hg
  rename_i z5 e8_
  split at hg
  case h_2 => cases hg
  rename_i z6 z7 z9 z11 z12 z13 eh_
  have hg := Option.some.inj hg
  have hc := congrArg Prod.fst hg
  have hg := congrArg Prod.snd hg
  dsimp only at hc hg
  subst hg
  obtain ⟨hc, hc1⟩ := Bool.and_eq_true_iff.mp hc
  have hc0 := hc
  exact amZ z1 z2 z4 z5 z6 z7 z9 z11 z12 z13 ⟨hc0, hc1⟩ hl_ ((qH (T0 := (.any :: .sl 0 0 z1 :: .any :: .any :: .any :: .int .i64 z2 :: .ptr 1 0 :: .fl .f32 z4 :: .fl .f32 z5 :: (fE 354 []))) (fun i hi => by
    simp only [List.mem_cons, List.not_mem_nil, or_false] at hi
    rcases hi with rfl | rfl | rfl | rfl | rfl
    · exact e1_.trans rfl
    · exact e5_.trans rfl
    · exact e6_.trans rfl
    · exact e7_.trans rfl
    · exact e8_.trans rfl)).trans (by kernel_rfl)) eh_ hQ hi
noncomputable def xJ : GsA := fun i => if i = 28 then some (tu1 af9) else none
theorem aDB : (jL (codeOf Try.f3)).filter (fun p => (xJ p.1).isSome) = [(28, jJ, true)] := by kernel_rfl
theorem awF : qA Try.prog xJ (codeOf Try.f3) := by
  refine qJ _ fun p hp g hg => ?_
  have h : p ∈ (jL (codeOf Try.f3)).filter (fun p => (xJ p.1).isSome) := List.mem_filter.2 ⟨hp, by rw [hg]; rfl⟩
  rw [aDB] at h
  simp only [List.mem_cons, List.not_mem_nil, or_false] at h
  rcases h with rfl
  · cases hg; exact yT awE
def nS (mo : Nat) (n5 : Int) (en : Nat) (a8 : Nat) (wn : Nat) (i23 : Int) (rw0 : Bool) (l0 : List Int) (b1_0n : Nat) (b1_1n : Nat) (l2 : List (Nat × Nat)) (l3 : List Nat) (l4 : List Nat) : St := ⟨(.any :: .sl 0 0 mo :: .any :: .any :: .any :: .int .i64 n5 :: .ptr 1 0 :: .fl .f32 en :: .fl .f32 a8 :: (fE 9 (.sl 2 0 wn :: .any :: .any :: .any :: .any :: .int .i64 i23 :: (fE 339 [])))), [.at rw0 (.int .u8 l0), .at true (.as 1 [.sl 3 0 b1_0n, .sl 4 0 b1_1n]), .at true (.cx .f32 l2), .at true (.fl .f32 l3), .at true (.fl .f32 l4)]⟩
abbrev aDC : Option (List Nat × List Nat) := some ([1, 5, 6, 7, 8, 18, 23], [1, 4, 5, 6, 7, 8])
noncomputable def nT {R : Type} (N M : Nat) (s : St) (K : X → St → Option R) : Option R := pO 1 aDC (fun st K => pU ty AO NZ xJ N 1 (oD [true, true, true, true, true, true, true, true, true, true, true, true, true, false, true, false, false] Try.f3) st K) M s K
noncomputable def OA {R : Type} (N : Nat) (K : X → St → Option R) : X → St → Option R := rF 0 (adT AO NZ xJ N 1 (oD [true, true, true, true, true, true, true, true, true, true, true, true, true, true] Try.f3) (K))
def nC (mo : Nat) (n5 : Int) (en : Nat) (a8 : Nat) (rw0 : Bool) (l0 : List Int) (b1_0n : Nat) (b1_1n : Nat) (l2 : List Nat) (l3 : List Nat) : St := ⟨(.any :: .sl 0 0 mo :: .any :: .any :: .bool false :: .int .i64 n5 :: .ptr 1 0 :: .fl .f32 en :: .fl .f32 a8 :: (fE 354 [])), [.at rw0 (.int .u8 l0), .at true (.as 1 [.sl 2 0 b1_0n, .sl 3 0 b1_1n]), .at true (.fl .f32 l2), .at true (.fl .f32 l3)]⟩
def LZ (mo : Nat) (n5 : Int) (en : Nat) (a8 : Nat) (rw0 : Bool) (l0 : List Int) (b1_0n : Nat) (b1_1n : Nat) (l2 : List Nat) (l3 : List Nat) : St := ⟨(.any :: .sl 0 0 mo :: .any :: .any :: .any :: .int .i64 n5 :: .ptr 1 0 :: .fl .f32 en :: .fl .f32 a8 :: (fE 354 [])), [.at rw0 (.int .u8 l0), .at true (.as 1 [.sl 2 0 b1_0n, .sl 3 0 b1_1n]), .at true (.fl .f32 l2), .at true (.fl .f32 l3)]⟩
theorem arA (N : Nat) (m : Nat) (r : Bool) (l : List Int) : uQ ty AO NZ xJ N Try.f3 [.nil, .sl 0 0 m] [.at r (.int .u8 l)]
    = (match qG 0 m with | true => yB r l | false => (match atOk m l 40 with | true => (match decide ((dn l) = 1 ∨ (dn l) = 2 ∨ (dn l) = 3) with | true => (match atOk m l 41 with | true => (match shD ((X0 l []).length) ((X1 l []).length) (X0 l []) (X1 l []) && uC (X0 l []) (X1 l []) (dE l) with | true => (match shD ((X0 l []).length) ((X1 l []).length) (X0 l []) (X1 l []) && ab1 (X0 l []) (X1 l []) with | true => (match shD ((tE (X0 l [])).length) ((X1 l []).reverse.length) (tE (X0 l [])) ((X1 l []).reverse) && uC (tE (X0 l [])) ((X1 l []).reverse) (dE l) with | true => (match shD ((tE (X0 l [])).length) ((X1 l []).reverse.length) (tE (X0 l [])) ((X1 l []).reverse) && ab1 (tE (X0 l [])) ((X1 l []).reverse) with | true => (match shD ((X0 l []).length) ((X1 l []).length) (X0 l []) (X1 l []) with | true => (match OC (X0 l []) (X1 l []) (dE l) with | true => (match shD ((X0 l []).length) ((X1 l []).length) (X0 l []) (X1 l []) && ZI (X0 l []) (X1 l []) (dE l) with | true => (match shD ((X0 l []).length) ((X1 l []).length) (X0 l []) (X1 l []) with | true => (match !(vsB (X0 l []) (X1 l [])) with | true => zB r l | false => (match (shD ((tE (tE (X0 l []))).length) ((X0 l []).length) (tE (tE (X0 l []))) (X0 l []) && I7 (tE (tE (X0 l []))) (X0 l [])) && (shD (((X1 l []).reverse).reverse.length) ((X1 l []).length) (((X1 l []).reverse).reverse) (X1 l []) && I7 (((X1 l []).reverse).reverse) (X1 l [])) with | true => (match (((wvL (dE l) (X1 l [])).length : Nat) : Int) != (IntKind.i64.wrap ((dn l) + 1)) with | true => zB r l | false => (match ltB (ssT (X0 l []) (X1 l []) (dE l)) 0 with | true => zB r l | false => (match ltB (ssR (X0 l []) (X1 l []) (dE l)) 0 with | true => zB r l | false => (match gtD (r8G (fop .add .f32 (ssT (X0 l []) (X1 l []) (dE l)) (ssR (X0 l []) (X1 l []) (dE l))) 1065353216) 4562254508917369340 with | true => zB r l | false => (match gtD (r8G (ssT (X0 l []) (X1 l []) (dE l)) (ssT (tE (X0 l [])) ((X1 l []).reverse) (dE l))) 4562254508917369340 with | true => zB r l | false => (match gtD (r8G (ssR (X0 l []) (X1 l []) (dE l)) (ssR (tE (X0 l [])) ((X1 l []).reverse) (dE l))) 4562254508917369340 with | true => zB r l | false => (match (dn l) == 0 with | true => (match FloatKind.f32.format.order (ssT (X0 l []) (X1 l []) (dE l)) 1065353216 != some .eq with | true => zB r l | false => (match pwB ((waW (X0 l []) (X1 l []) (dE l)).br) ((waW (X0 l []) (X1 l []) (dE l)).bi) with | true => (match pwB ((waW (X0 l []) (X1 l []) (dE l)).ar) ((waW (X0 l []) (X1 l []) (dE l)).ai) with | true => (match pwB ((waW (X0 l []) (X1 l []) (dE l)).ar) ((waW (X0 l []) (X1 l []) (dE l)).ai) with | true => (match fF .f32 (fop .add .f32 1065353216 (pwN ((waW (X0 l []) (X1 l []) (dE l)).ar) ((waW (X0 l []) (X1 l []) (dE l)).ai))) .f64 with | some c1 => (match gtD (r8G (pwN ((waW (X0 l []) (X1 l []) (dE l)).br) ((waW (X0 l []) (X1 l []) (dE l)).bi)) (fop .mul .f32 (ssR (X0 l []) (X1 l []) (dE l)) (pwN ((waW (X0 l []) (X1 l []) (dE l)).ar) ((waW (X0 l []) (X1 l []) (dE l)).ai)))) (fop .mul .f64 4562254508917369340 c1) with | true => zB r l | false => nT N N (nS m (dn l) (dE l) (ssT (X0 l []) (X1 l []) (dE l)) ((wvL (dE l) (X1 l [])).length) 0 r l ((X0 l []).length) ((X1 l []).length) (wvL (dE l) (X1 l [])) (X0 l []) (X1 l [])) (OA N (oM Try.f3 1))) | none => none) | false => none) | false => none) | false => none)) | false => (match pwB ((waW (X0 l []) (X1 l []) (dE l)).br) ((waW (X0 l []) (X1 l []) (dE l)).bi) with | true => (match pwB ((waW (X0 l []) (X1 l []) (dE l)).ar) ((waW (X0 l []) (X1 l []) (dE l)).ai) with | true => (match pwB ((waW (X0 l []) (X1 l []) (dE l)).ar) ((waW (X0 l []) (X1 l []) (dE l)).ai) with | true => (match fF .f32 (fop .add .f32 1065353216 (pwN ((waW (X0 l []) (X1 l []) (dE l)).ar) ((waW (X0 l []) (X1 l []) (dE l)).ai))) .f64 with | some c2 => (match gtD (r8G (pwN ((waW (X0 l []) (X1 l []) (dE l)).br) ((waW (X0 l []) (X1 l []) (dE l)).bi)) (fop .mul .f32 (ssR (X0 l []) (X1 l []) (dE l)) (pwN ((waW (X0 l []) (X1 l []) (dE l)).ar) ((waW (X0 l []) (X1 l []) (dE l)).ai)))) (fop .mul .f64 4562254508917369340 c2) with | true => zB r l | false => nT N N (nS m (dn l) (dE l) (ssT (X0 l []) (X1 l []) (dE l)) ((wvL (dE l) (X1 l [])).length) 0 r l ((X0 l []).length) ((X1 l []).length) (wvL (dE l) (X1 l [])) (X0 l []) (X1 l [])) (OA N (oM Try.f3 1))) | none => none) | false => none) | false => none) | false => none)))))))) | false => none)) | false => none) | false => none) | false => (match shD ((X0 l []).length) ((X1 l []).length) (X0 l []) (X1 l []) && ZI (X0 l []) (X1 l []) (dE l) with | true => zB r l | false => none)) | false => none) | false => none) | false => none) | false => none) | false => none) | false => none) | false => none) | false => none)) := by
  kernel_rfl
theorem abS {R : Type} (N M : Nat) (K : X → St → Option R) (mo : Nat) (n5 : Int) (en : Nat) (a8 : Nat) (wn : Nat) (i23 : Int) (rw0 : Bool) (l0 : List Int) (b1_0n : Nat) (b1_1n : Nat) (l2 : List (Nat × Nat)) (l3 : List Nat) (l4 : List Nat) : nT N (M + 1) (nS mo n5 en a8 wn i23 rw0 l0 b1_0n b1_1n l2 l3 l4) K
    = (match decide ((i23 : Int) ≤ n5) with | true => (match decide (0 ≤ (i23 : Int) ∧ (i23 : Int) < ((b1_1n : Nat) : Int)) with | true => (match l4[0 + (i23).toNat * 1]? with | some e1 => (match decide (0 ≤ (i23 : Int) ∧ (i23 : Int) < ((wn : Nat) : Int)) with | true => (match l2[0 + (i23).toNat * 1]? with | some (e2, e3) => (match decide (0 ≤ (i23 : Int) ∧ (i23 : Int) < ((wn : Nat) : Int)) with | true => (match l2[0 + (i23).toNat * 1]? with | some (e4, e5) => (match ltB e1 en with | true => (match FloatKind.f32.format.order e5 0 != some .eq with | true => K .ret (nC mo n5 en a8 rw0 l0 b1_0n b1_1n l3 l4) | false => (match gtD (r8G (fop .mul .f32 e2 e2) (fop .sub .f32 en e1)) 4562254508917369340 with | true => K .ret (nC mo n5 en a8 rw0 l0 b1_0n b1_1n l3 l4) | false => (match gtB e1 en with | true => (match FloatKind.f32.format.order e2 0 != some .eq with | true => K .ret (nC mo n5 en a8 rw0 l0 b1_0n b1_1n l3 l4) | false => (match gtD (r8G (fop .mul .f32 e5 e5) (fop .sub .f32 e1 en)) 4562254508917369340 with | true => K .ret (nC mo n5 en a8 rw0 l0 b1_0n b1_1n l3 l4) | false => (match decide ((i23 : Int) > 0) with | true => (match decide (0 ≤ (IntKind.i64.wrap (i23 - 1) : Int) ∧ (IntKind.i64.wrap (i23 - 1) : Int) < ((b1_0n : Nat) : Int)) with | true => (match l3[0 + (IntKind.i64.wrap (i23 - 1)).toNat * 1]? with | some e6 => (match shD b1_0n b1_1n l3 l4 && (vsB l3 l4 && iH e6) with | true => (match FloatKind.f32.format.order (l4.getD (haI l3 e6) 0) e1 != some .eq with | true => K .ret (nC mo n5 en a8 rw0 l0 b1_0n b1_1n l3 l4) | false => nT N M (nS mo n5 en a8 wn (IntKind.i64.wrap (i23 + 1)) rw0 l0 b1_0n b1_1n l2 l3 l4) K) | false => none) | none => none) | false => none) | false => nT N M (nS mo n5 en a8 wn (IntKind.i64.wrap (i23 + 1)) rw0 l0 b1_0n b1_1n l2 l3 l4) K))) | false => (match decide ((i23 : Int) > 0) with | true => (match decide (0 ≤ (IntKind.i64.wrap (i23 - 1) : Int) ∧ (IntKind.i64.wrap (i23 - 1) : Int) < ((b1_0n : Nat) : Int)) with | true => (match l3[0 + (IntKind.i64.wrap (i23 - 1)).toNat * 1]? with | some e7 => (match shD b1_0n b1_1n l3 l4 && (vsB l3 l4 && iH e7) with | true => (match FloatKind.f32.format.order (l4.getD (haI l3 e7) 0) e1 != some .eq with | true => K .ret (nC mo n5 en a8 rw0 l0 b1_0n b1_1n l3 l4) | false => nT N M (nS mo n5 en a8 wn (IntKind.i64.wrap (i23 + 1)) rw0 l0 b1_0n b1_1n l2 l3 l4) K) | false => none) | none => none) | false => none) | false => nT N M (nS mo n5 en a8 wn (IntKind.i64.wrap (i23 + 1)) rw0 l0 b1_0n b1_1n l2 l3 l4) K)))) | false => (match gtB e1 en with | true => (match FloatKind.f32.format.order e2 0 != some .eq with | true => K .ret (nC mo n5 en a8 rw0 l0 b1_0n b1_1n l3 l4) | false => (match gtD (r8G (fop .mul .f32 e5 e5) (fop .sub .f32 e1 en)) 4562254508917369340 with | true => K .ret (nC mo n5 en a8 rw0 l0 b1_0n b1_1n l3 l4) | false => (match decide ((i23 : Int) > 0) with | true => (match decide (0 ≤ (IntKind.i64.wrap (i23 - 1) : Int) ∧ (IntKind.i64.wrap (i23 - 1) : Int) < ((b1_0n : Nat) : Int)) with | true => (match l3[0 + (IntKind.i64.wrap (i23 - 1)).toNat * 1]? with | some e8 => (match shD b1_0n b1_1n l3 l4 && (vsB l3 l4 && iH e8) with | true => (match FloatKind.f32.format.order (l4.getD (haI l3 e8) 0) e1 != some .eq with | true => K .ret (nC mo n5 en a8 rw0 l0 b1_0n b1_1n l3 l4) | false => nT N M (nS mo n5 en a8 wn (IntKind.i64.wrap (i23 + 1)) rw0 l0 b1_0n b1_1n l2 l3 l4) K) | false => none) | none => none) | false => none) | false => nT N M (nS mo n5 en a8 wn (IntKind.i64.wrap (i23 + 1)) rw0 l0 b1_0n b1_1n l2 l3 l4) K))) | false => (match decide ((i23 : Int) > 0) with | true => (match decide (0 ≤ (IntKind.i64.wrap (i23 - 1) : Int) ∧ (IntKind.i64.wrap (i23 - 1) : Int) < ((b1_0n : Nat) : Int)) with | true => (match l3[0 + (IntKind.i64.wrap (i23 - 1)).toNat * 1]? with | some e9 => (match shD b1_0n b1_1n l3 l4 && (vsB l3 l4 && iH e9) with | true => (match FloatKind.f32.format.order (l4.getD (haI l3 e9) 0) e1 != some .eq with | true => K .ret (nC mo n5 en a8 rw0 l0 b1_0n b1_1n l3 l4) | false => nT N M (nS mo n5 en a8 wn (IntKind.i64.wrap (i23 + 1)) rw0 l0 b1_0n b1_1n l2 l3 l4) K) | false => none) | none => none) | false => none) | false => nT N M (nS mo n5 en a8 wn (IntKind.i64.wrap (i23 + 1)) rw0 l0 b1_0n b1_1n l2 l3 l4) K))) | none => none) | false => none) | none => none) | false => none) | none => none) | false => none) | false => K (.exit 0) (LZ mo n5 en a8 rw0 l0 b1_0n b1_1n l3 l4)) := by
  kernel_rfl
theorem am4 (N : Nat) (mo : Nat) (n5 : Int) (en : Nat) (a8 : Nat) (rw0 : Bool) (l0 : List Int) (b1_0n : Nat) (b1_1n : Nat) (l2 : List Nat) (l3 : List Nat) : OA N (oM Try.f3 1) (.exit 0) (LZ mo n5 en a8 rw0 l0 b1_0n b1_1n l2 l3)
    = (match (atOk mo l0 42) && (shD b1_0n b1_1n l2 l3 && agP l2 l3 en (e2W en) (dq l0)) with | true => (match shD b1_0n b1_1n l2 l3 && aCF l2 l3 en (e2W en) with | true => (match FloatKind.f32.format.order (ssT l2 l3 en) a8 != some .eq with | true => zB rw0 l0 | false => (match ltB ((btV l2 l3 en (e2W en)).2) a8 with | true => zB rw0 l0 | false => (match ltB ((btV l2 l3 en (e2W en)).2) (ssT l2 l3 (e2W en)) with | true => zB rw0 l0 | false => (match ltB ((btV l2 l3 en (e2W en)).1) en with | true => zB rw0 l0 | false => (match gtB ((btV l2 l3 en (e2W en)).1) (e2W en) with | true => zB rw0 l0 | false => (match n5 == 0 with | true => yB rw0 l0 | false => (match atOk mo l0 43 with | true => (match decide ((dt l0) = 1 ∨ (dt l0) = 2) with | true => (match decide (l2.length = b1_0n ∧ b1_0n < 2147483648 ∧ l3.length = b1_1n ∧ b1_1n < 2147483648 ∧ w32 l3 = true) with | true => (match tX l2 l3 ((dt l0)) with | true => (match n5 == 1 with | true => (match ((dt l0)) == 1 with | true => yB rw0 l0 | false => zB rw0 l0) | false => (match shD ((rpE l2 l3 ((dt l0))).length) ((rpM l2 l3 ((dt l0))).length) (rpE l2 l3 ((dt l0))) (rpM l2 l3 ((dt l0))) && uC (rpE l2 l3 ((dt l0))) (rpM l2 l3 ((dt l0))) en with | true => (match (((rpE l2 l3 ((dt l0))).length : Nat) : Int) == (IntKind.i64.wrap (n5 * ((dt l0)))) with | true => some (.bool (ltD (r8G (fop .add .f32 (ssT (rpE l2 l3 ((dt l0))) (rpM l2 l3 ((dt l0))) en) (ssR (rpE l2 l3 ((dt l0))) (rpM l2 l3 ((dt l0))) en)) 1065353216) 4576918229304087675), [.at rw0 (.int .u8 l0)]) | false => zB rw0 l0) | false => none)) | false => (match n5 == 1 with | true => (match ((dt l0)) == 1 with | true => yB rw0 l0 | false => yB rw0 l0) | false => none)) | false => none) | false => none) | false => none))))))) | false => none) | false => none) := by
  kernel_rfl
end Go.Proofs.Ytpjoapgfdjfbdaa.Ab

/- What the proof names: lemmas and words, merged by a program from its parts. No condition. -/
import Derived.Test.YtpjoapgfdjfbdaaZ2
import Derived.Test.YtpjoapgfdjfbdaaZ4
namespace Go.Proofs.Ytpjoapgfdjfbdaa.Ab
set_option linter.unusedVariables false
set_option linter.unusedSimpArgs false
open Go
noncomputable section
def NG : Ann := ⟨fun r => if r = 17 then some ([1, 5, 6, 7, 8, 18, 23], [1, 4, 5, 6, 7, 8]) else none, fun _ _ => .quiet⟩
noncomputable def zY : Fns := gX [(4, aa7), (5, gAt), (6, rs0), (7, (gOr zO gSs)), (8, (gOr KP gTs)), (9, (gOr zM gWn)), (10, (gOr BO gWa)), (11, (gOr uD gVs)), (12, (gOr KU ao7)), (13, gT gG8), (14, agO), (16, (gOr LG gSh)), (17, (gOr LC gBt)), (18, ao6)]
theorem aI : ∀ f, FnT Try.prog f (zY f) := (aC (k := 4) MZ (aC (k := 5) aiB (aC (k := 6) akY (aC (k := 7) (FnT.or zG zL) (aC (k := 8) (FnT.or NC ZO) (aC (k := 9) (FnT.or zF zJ) (aC (k := 10) (FnT.or BP JS) (aC (k := 11) (FnT.or tY nY) (aC (k := 12) (FnT.or ND ZP) (aC (k := 13) ZU (aC (k := 14) JR (aC (k := 16) (FnT.or NF ZT) (aC (k := 17) (FnT.or NE ZR) (aC (k := 18) ZN bJ))))))))))))))
noncomputable def jD : Array Oper := (yU (codeOf Try.f3) 28).getD #[]
def af2 (st : St) : Option (Bool × St) := (match decide (st.t.length = 363) with | true => (match nth st.t 1 with | .sl 1 0 z1 => (match nth st.t 5 with | .int .i64 z2 => (match nth st.t 6 with | .ptr 2 0 => (match nth st.t 7 with | .fl .f32 z4 => (match nth st.t 8 with | .fl .f32 z5 => (match st.h with | [.at z6 (.int .u8 z7), .at z8 (.int .u8 z9), .at true (.as 1 [.nil, .sl 3 0 1]), .at true (.fl .f32 [0])] => some ((atOk z1 z9 42) && (isS (qZ 1 2 (IntKind.i64.wrap (1 + (atF z9 42 8))) true [0] true [z4, fop .add .f32 z4 1073741824])), ⟨(.any :: .sl 1 0 z1 :: .any :: .any :: .any :: .int .i64 z2 :: .ptr 2 0 :: .fl .f32 z4 :: .fl .f32 z5 :: (fE 20 (.sl 4 0 ((fC 1 2 (IntKind.i64.wrap (1 + (atF z9 42 8))) true [0] true [z4, fop .add .f32 z4 1073741824]).1) :: .bool true :: (fE 332 [])))), [.at z6 (.int .u8 z7), .at z8 (.int .u8 z9), .at true (.as 1 [.nil, .sl 3 0 1]), .at true (.fl .f32 [0]), .at true (.fl .f32 ((fC 1 2 (IntKind.i64.wrap (1 + (atF z9 42 8))) true [0] true [z4, fop .add .f32 z4 1073741824]).2))]⟩) | _ => none) | _ => none) | _ => none) | _ => none) | _ => none) | _ => none) | false => none)
abbrev dX := Nat × Int × Nat × Nat × Bool × List Int × Bool × List Int
abbrev NH (z : dX) : Nat := z.1
abbrev aiD (z : dX) : Int := z.2.1
abbrev iZ (z : dX) : Nat := z.2.2.1
abbrev aiE (z : dX) : Nat := z.2.2.2.1
abbrev aiF (z : dX) : Bool := z.2.2.2.2.1
abbrev aiG (z : dX) : List Int := z.2.2.2.2.2.1
abbrev aiH (z : dX) : Bool := z.2.2.2.2.2.2.1
abbrev nG (z : dX) : List Int := z.2.2.2.2.2.2.2
def aI7 (z : dX) : List V := (.any :: .sl 1 0 (NH z) :: .any :: .any :: .any :: .int .i64 (aiD z) :: .ptr 2 0 :: .fl .f32 (iZ z) :: .fl .f32 (aiE z) :: (fE 354 []))
def aI8 (z : dX) : H := [.at (aiF z) (.int .u8 (aiG z)), .at (aiH z) (.int .u8 (nG z)), .at true (.as 1 [.nil, .sl 3 0 1]), .at true (.fl .f32 [0])]
theorem fO : (jD[0]?).map iG = some (.load 27 (.tmp 6), some 256, none) := by kernel_rfl
theorem gY : (jD[1]?).map iG = some (.move (.tmp 7), some 257, none) := by kernel_rfl
theorem jR : (jD[2]?).map iG = some (.move (.tmp 7), some 258, none) := by kernel_rfl
theorem jS : (jD[3]?).map iG = some (.binOp .add 29 (.tmp 258) (.const (.float .f32 1073741824)) 29, some 259, none) := by kernel_rfl
theorem oW : (jD[4]?).map iG = some (.buildSlice 25 2 #[(0, .tmp 257), (1, .tmp 259)], some 260, none) := by kernel_rfl
theorem kU : (jD[5]?).map iG = some (.move (.tmp 1), some 261, none) := by kernel_rfl
theorem kV : (jD[6]?).map iG = some (.call ⟨.value (.func 5), #[.tmp 261, .const (.int .i64 42), .const (.int .i64 8)], #[22, 2, 2]⟩, some 262, none) := by kernel_rfl
theorem kX : (jD[7]?).map iG = some (.binOp .add 2 (.const (.int .i64 1)) (.tmp 262) 2, some 263, none) := by kernel_rfl
theorem apX : (jD[8]?).map iG = some (.call ⟨.value (.func 16), #[.tmp 256, .tmp 260, .tmp 263], #[27, 25, 2]⟩, some 264, none) := by kernel_rfl
theorem apY : (jD[9]?).map iG = some (.move (.tmp 264), some 255, none) := by kernel_rfl
theorem TP : (jD[10]?).map iG = some (.extract (.tmp 255) 0, some 265, none) := by kernel_rfl
theorem BX : (jD[11]?).map iG = some (.extract (.tmp 255) 1, some 266, none) := by kernel_rfl
theorem TQ : (jD[12]?).map iG = some (.assign (.tmp 265), some 29, none) := by kernel_rfl
theorem akZ : (jD[13]?).map iG = some (.assign (.tmp 266), some 30, none) := by kernel_rfl
def aJ (z : dX) : Nat → V
  | 0 => .g [.nil, .sl 3 0 1]
  | 1 => .fl .f32 (iZ z)
  | 2 => .fl .f32 (iZ z)
  | 3 => .fl .f32 (fop .add .f32 (iZ z) 1073741824)
  | 4 => .sl 4 0 2
  | 5 => .sl 1 0 (NH z)
  | 6 => .int .i64 (atF (nG z) 42 8)
  | 7 => .int .i64 (IntKind.i64.wrap (1 + (atF (nG z) 42 8)))
  | 8 => .tup [.a (.sl 5 0 ((fC 1 2 (IntKind.i64.wrap (1 + (atF (nG z) 42 8))) true [0] true [(iZ z), fop .add .f32 (iZ z) 1073741824]).1)), .a (.bool true)]
  | 9 => .tup [.a (.sl 5 0 ((fC 1 2 (IntKind.i64.wrap (1 + (atF (nG z) 42 8))) true [0] true [(iZ z), fop .add .f32 (iZ z) 1073741824]).1)), .a (.bool true)]
  | 10 => .sl 5 0 ((fC 1 2 (IntKind.i64.wrap (1 + (atF (nG z) 42 8))) true [0] true [(iZ z), fop .add .f32 (iZ z) 1073741824]).1)
  | 11 => .bool true
  | 12 => .sl 5 0 ((fC 1 2 (IntKind.i64.wrap (1 + (atF (nG z) 42 8))) true [0] true [(iZ z), fop .add .f32 (iZ z) 1073741824]).1)
  | 13 => .bool true
  | _ => .any
def bU (z : dX) (k : Nat) (l : List (Nat × V)) : List V := uJ l (uJ (an5 k [(0, 256), (1, 257), (2, 258), (3, 259), (4, 260), (5, 261), (6, 262), (7, 263), (8, 264), (9, 255), (10, 265), (11, 266), (12, 29), (13, 30)] (aJ z)) (aI7 z))
def bV (z : dX) : Prop := (atOk (NH z) (nG z) 42) = true ∧ (isS (qZ 1 2 (IntKind.i64.wrap (1 + (atF (nG z) 42 8))) true [0] true [(iZ z), fop .add .f32 (iZ z) 1073741824])) = true
abbrev dN (z : dX) (m k : Nat) (t : List V) (h : H) : Prop := nO Try.prog jD (Q5 [1, 5, 6, 7, 8, 29, 30] 4 (⟨(.any :: .sl 1 0 (NH z) :: .any :: .any :: .any :: .int .i64 (aiD z) :: .ptr 2 0 :: .fl .f32 (iZ z) :: .fl .f32 (aiE z) :: (fE 20 (.sl 4 0 ((fC 1 2 (IntKind.i64.wrap (1 + (atF (nG z) 42 8))) true [0] true [(iZ z), fop .add .f32 (iZ z) 1073741824]).1) :: .bool true :: (fE 332 [])))), [.at (aiF z) (.int .u8 (aiG z)), .at (aiH z) (.int .u8 (nG z)), .at true (.as 1 [.nil, .sl 3 0 1]), .at true (.fl .f32 [0]), .at true (.fl .f32 ((fC 1 2 (IntKind.i64.wrap (1 + (atF (nG z) 42 8))) true [0] true [(iZ z), fop .add .f32 (iZ z) 1073741824]).2))]⟩ : St)) m (uZ 14 k) t h
def avV (z : dX) : Nat → B
  | 0 => .at true (.fl .f32 [(iZ z), fop .add .f32 (iZ z) 1073741824])
  | 1 => .at true (.fl .f32 ((fC 1 2 (IntKind.i64.wrap (1 + (atF (nG z) 42 8))) true [0] true [(iZ z), fop .add .f32 (iZ z) 1073741824]).2))
  | _ => .gone
def bW (z : dX) (l : List Nat) : H := aI8 z ++ l.map (avV z)
theorem apZ {z : dX} (hc : bV z) : dN z 0 16383 (bU z 16383 []) (bW z [0, 1]) := ⟨by kernel_rfl, [0, 1, 2, 3, 5], by decide, by decide, by kernel_rfl, by kernel_rfl⟩
theorem abA {z : dX} (hc : bV z) : dN z 1 8191 (bU z 8191 []) (bW z [0, 1]) := bM (aA (v := aJ z 13) aI akZ (apZ hc))
theorem abB {z : dX} (hc : bV z) : dN z 2 4095 (bU z 4095 []) (bW z [0, 1]) := bM (aA (v := aJ z 12) aI TQ (abA hc))
theorem ap0 {z : dX} (hc : bV z) : dN z 2 6143 (bU z 6143 []) (bW z [0, 1]) := bM (aA (v := aJ z 11) aI BX (abA hc))
theorem ap1 {z : dX} (hc : bV z) : dN z 3 2047 (bU z 2047 []) (bW z [0, 1]) := bF (aA (v := aJ z 11) aI BX (abB hc)) (aA (v := aJ z 12) aI TQ (ap0 hc))
theorem ap2 {z : dX} (hc : bV z) : dN z 3 3071 (bU z 3071 []) (bW z [0, 1]) := bM (aA (v := aJ z 10) aI TP (abB hc))
theorem ap3 {z : dX} (hc : bV z) : dN z 4 1023 (bU z 1023 []) (bW z [0, 1]) := bF (aA (v := aJ z 10) aI TP (ap1 hc)) (aA (v := aJ z 11) aI BX (ap2 hc))
theorem ap4 {z : dX} (hc : bV z) : dN z 5 511 (bU z 511 []) (bW z [0, 1]) := bM (aA (v := aJ z 9) aI apY (ap3 hc))
theorem LH {z : dX} (hc : bV z) : dN z 6 255 (bU z 255 []) (bW z [0]) := bM (bK (v := aJ z 8) aI apX hc.2 (ap4 hc))
theorem BZ {z : dX} (hc : bV z) : dN z 7 127 (bU z 127 []) (bW z [0]) := bM (aA (v := aJ z 7) aI kX (LH hc))
theorem CB {z : dX} (hc : bV z) : dN z 8 63 (bU z 63 []) (bW z [0]) := bM (bK (v := aJ z 6) aI kV hc.1 (BZ hc))
theorem TR {z : dX} (hc : bV z) : dN z 9 31 (bU z 31 []) (bW z [0]) := bM (aA (v := aJ z 5) aI kU (CB hc))
theorem vF {z : dX} (hc : bV z) : dN z 7 239 (bU z 239 []) (bW z []) := bM (aA (v := aJ z 4) aI oW (LH hc))
theorem vG {z : dX} (hc : bV z) : dN z 8 111 (bU z 111 []) (bW z []) := bF (aA (v := aJ z 4) aI oW (BZ hc)) (aA (v := aJ z 7) aI kX (vF hc))
theorem vH {z : dX} (hc : bV z) : dN z 9 47 (bU z 47 []) (bW z []) := bF (aA (v := aJ z 4) aI oW (CB hc)) (bK (v := aJ z 6) aI kV hc.1 (vG hc))
theorem CE {z : dX} (hc : bV z) : dN z 10 15 (bU z 15 []) (bW z []) := bF (aA (v := aJ z 4) aI oW (TR hc)) (aA (v := aJ z 5) aI kU (vH hc))
theorem vI {z : dX} (hc : bV z) : dN z 8 231 (bU z 231 []) (bW z []) := bM (aA (v := aJ z 3) aI jS (vF hc))
theorem vJ {z : dX} (hc : bV z) : dN z 9 103 (bU z 103 []) (bW z []) := bF (aA (v := aJ z 3) aI jS (vG hc)) (aA (v := aJ z 7) aI kX (vI hc))
theorem vK {z : dX} (hc : bV z) : dN z 10 39 (bU z 39 []) (bW z []) := bF (aA (v := aJ z 3) aI jS (vH hc)) (bK (v := aJ z 6) aI kV hc.1 (vJ hc))
theorem CG {z : dX} (hc : bV z) : dN z 11 7 (bU z 7 []) (bW z []) := bF (aA (v := aJ z 3) aI jS (CE hc)) (aA (v := aJ z 5) aI kU (vK hc))
theorem CJ {z : dX} (hc : bV z) : dN z 9 227 (bU z 227 []) (bW z []) := bM (aA (v := aJ z 2) aI jR (vI hc))
theorem CS {z : dX} (hc : bV z) : dN z 10 99 (bU z 99 []) (bW z []) := bF (aA (v := aJ z 2) aI jR (vJ hc)) (aA (v := aJ z 7) aI kX (CJ hc))
theorem CU {z : dX} (hc : bV z) : dN z 11 35 (bU z 35 []) (bW z []) := bF (aA (v := aJ z 2) aI jR (vK hc)) (bK (v := aJ z 6) aI kV hc.1 (CS hc))
theorem TS {z : dX} (hc : bV z) : dN z 12 3 (bU z 3 []) (bW z []) := bF (aA (v := aJ z 2) aI jR (CG hc)) (aA (v := aJ z 5) aI kU (CU hc))
theorem CV {z : dX} (hc : bV z) : dN z 8 237 (bU z 237 []) (bW z []) := bM (aA (v := aJ z 1) aI gY (vF hc))
theorem CX {z : dX} (hc : bV z) : dN z 9 109 (bU z 109 []) (bW z []) := bF (aA (v := aJ z 1) aI gY (vG hc)) (aA (v := aJ z 7) aI kX (CV hc))
theorem CY {z : dX} (hc : bV z) : dN z 10 45 (bU z 45 []) (bW z []) := bF (aA (v := aJ z 1) aI gY (vH hc)) (bK (v := aJ z 6) aI kV hc.1 (CX hc))
theorem TT {z : dX} (hc : bV z) : dN z 11 13 (bU z 13 []) (bW z []) := bF (aA (v := aJ z 1) aI gY (CE hc)) (aA (v := aJ z 5) aI kU (CY hc))
theorem CZ {z : dX} (hc : bV z) : dN z 9 229 (bU z 229 []) (bW z []) := bF (aA (v := aJ z 1) aI gY (vI hc)) (aA (v := aJ z 3) aI jS (CV hc))
theorem C9 {z : dX} (hc : bV z) : dN z 10 101 (bU z 101 []) (bW z []) := bH (aA (v := aJ z 1) aI gY (vJ hc)) (aA (v := aJ z 3) aI jS (CX hc)) (aA (v := aJ z 7) aI kX (CZ hc))
theorem DC {z : dX} (hc : bV z) : dN z 11 37 (bU z 37 []) (bW z []) := bH (aA (v := aJ z 1) aI gY (vK hc)) (aA (v := aJ z 3) aI jS (CY hc)) (bK (v := aJ z 6) aI kV hc.1 (C9 hc))
theorem TU {z : dX} (hc : bV z) : dN z 12 5 (bU z 5 []) (bW z []) := bH (aA (v := aJ z 1) aI gY (CG hc)) (aA (v := aJ z 3) aI jS (TT hc)) (aA (v := aJ z 5) aI kU (DC hc))
theorem TV {z : dX} (hc : bV z) : dN z 10 225 (bU z 225 []) (bW z []) := bF (aA (v := aJ z 1) aI gY (CJ hc)) (aA (v := aJ z 2) aI jR (CZ hc))
theorem TW {z : dX} (hc : bV z) : dN z 11 97 (bU z 97 []) (bW z []) := bH (aA (v := aJ z 1) aI gY (CS hc)) (aA (v := aJ z 2) aI jR (C9 hc)) (aA (v := aJ z 7) aI kX (TV hc))
theorem TY {z : dX} (hc : bV z) : dN z 12 33 (bU z 33 []) (bW z []) := bH (aA (v := aJ z 1) aI gY (CU hc)) (aA (v := aJ z 2) aI jR (DC hc)) (bK (v := aJ z 6) aI kV hc.1 (TW hc))
theorem ak0 {z : dX} (hc : bV z) : dN z 13 1 (bU z 1 []) (bW z []) := bH (aA (v := aJ z 1) aI gY (TS hc)) (aA (v := aJ z 2) aI jR (TU hc)) (aA (v := aJ z 5) aI kU (TY hc))
theorem UA {z : dX} (hc : bV z) : dN z 7 254 (bU z 254 []) (bW z [0]) := bM (aA (v := aJ z 0) aI fO (LH hc))
theorem UB {z : dX} (hc : bV z) : dN z 8 126 (bU z 126 []) (bW z [0]) := bF (aA (v := aJ z 0) aI fO (BZ hc)) (aA (v := aJ z 7) aI kX (UA hc))
theorem UC {z : dX} (hc : bV z) : dN z 9 62 (bU z 62 []) (bW z [0]) := bF (aA (v := aJ z 0) aI fO (CB hc)) (bK (v := aJ z 6) aI kV hc.1 (UB hc))
theorem ak1 {z : dX} (hc : bV z) : dN z 10 30 (bU z 30 []) (bW z [0]) := bF (aA (v := aJ z 0) aI fO (TR hc)) (aA (v := aJ z 5) aI kU (UC hc))
theorem DD {z : dX} (hc : bV z) : dN z 8 238 (bU z 238 []) (bW z []) := bF (aA (v := aJ z 0) aI fO (vF hc)) (aA (v := aJ z 4) aI oW (UA hc))
theorem DF {z : dX} (hc : bV z) : dN z 9 110 (bU z 110 []) (bW z []) := bH (aA (v := aJ z 0) aI fO (vG hc)) (aA (v := aJ z 4) aI oW (UB hc)) (aA (v := aJ z 7) aI kX (DD hc))
theorem DI {z : dX} (hc : bV z) : dN z 10 46 (bU z 46 []) (bW z []) := bH (aA (v := aJ z 0) aI fO (vH hc)) (aA (v := aJ z 4) aI oW (UC hc)) (bK (v := aJ z 6) aI kV hc.1 (DF hc))
theorem UD {z : dX} (hc : bV z) : dN z 11 14 (bU z 14 []) (bW z []) := bH (aA (v := aJ z 0) aI fO (CE hc)) (aA (v := aJ z 4) aI oW (ak1 hc)) (aA (v := aJ z 5) aI kU (DI hc))
theorem DJ {z : dX} (hc : bV z) : dN z 9 230 (bU z 230 []) (bW z []) := bF (aA (v := aJ z 0) aI fO (vI hc)) (aA (v := aJ z 3) aI jS (DD hc))
theorem DK {z : dX} (hc : bV z) : dN z 10 102 (bU z 102 []) (bW z []) := bH (aA (v := aJ z 0) aI fO (vJ hc)) (aA (v := aJ z 3) aI jS (DF hc)) (aA (v := aJ z 7) aI kX (DJ hc))
theorem DL {z : dX} (hc : bV z) : dN z 11 38 (bU z 38 []) (bW z []) := bH (aA (v := aJ z 0) aI fO (vK hc)) (aA (v := aJ z 3) aI jS (DI hc)) (bK (v := aJ z 6) aI kV hc.1 (DK hc))
theorem UE {z : dX} (hc : bV z) : dN z 12 6 (bU z 6 []) (bW z []) := bH (aA (v := aJ z 0) aI fO (CG hc)) (aA (v := aJ z 3) aI jS (UD hc)) (aA (v := aJ z 5) aI kU (DL hc))
theorem UF {z : dX} (hc : bV z) : dN z 10 226 (bU z 226 []) (bW z []) := bF (aA (v := aJ z 0) aI fO (CJ hc)) (aA (v := aJ z 2) aI jR (DJ hc))
theorem UG {z : dX} (hc : bV z) : dN z 11 98 (bU z 98 []) (bW z []) := bH (aA (v := aJ z 0) aI fO (CS hc)) (aA (v := aJ z 2) aI jR (DK hc)) (aA (v := aJ z 7) aI kX (UF hc))
theorem UH {z : dX} (hc : bV z) : dN z 12 34 (bU z 34 []) (bW z []) := bH (aA (v := aJ z 0) aI fO (CU hc)) (aA (v := aJ z 2) aI jR (DL hc)) (bK (v := aJ z 6) aI kV hc.1 (UG hc))
theorem ak2 {z : dX} (hc : bV z) : dN z 13 2 (bU z 2 []) (bW z []) := bH (aA (v := aJ z 0) aI fO (TS hc)) (aA (v := aJ z 2) aI jR (UE hc)) (aA (v := aJ z 5) aI kU (UH hc))
theorem UI {z : dX} (hc : bV z) : dN z 9 236 (bU z 236 []) (bW z []) := bF (aA (v := aJ z 0) aI fO (CV hc)) (aA (v := aJ z 1) aI gY (DD hc))
theorem UJ {z : dX} (hc : bV z) : dN z 10 108 (bU z 108 []) (bW z []) := bH (aA (v := aJ z 0) aI fO (CX hc)) (aA (v := aJ z 1) aI gY (DF hc)) (aA (v := aJ z 7) aI kX (UI hc))
theorem UK {z : dX} (hc : bV z) : dN z 11 44 (bU z 44 []) (bW z []) := bH (aA (v := aJ z 0) aI fO (CY hc)) (aA (v := aJ z 1) aI gY (DI hc)) (bK (v := aJ z 6) aI kV hc.1 (UJ hc))
theorem ak3 {z : dX} (hc : bV z) : dN z 12 12 (bU z 12 []) (bW z []) := bH (aA (v := aJ z 0) aI fO (TT hc)) (aA (v := aJ z 1) aI gY (UD hc)) (aA (v := aJ z 5) aI kU (UK hc))
theorem UL {z : dX} (hc : bV z) : dN z 10 228 (bU z 228 []) (bW z []) := bH (aA (v := aJ z 0) aI fO (CZ hc)) (aA (v := aJ z 1) aI gY (DJ hc)) (aA (v := aJ z 3) aI jS (UI hc))
theorem UM {z : dX} (hc : bV z) : dN z 11 100 (bU z 100 []) (bW z []) := iI (aA (v := aJ z 0) aI fO (C9 hc)) (aA (v := aJ z 1) aI gY (DK hc)) (aA (v := aJ z 3) aI jS (UJ hc)) (aA (v := aJ z 7) aI kX (UL hc))
theorem UN {z : dX} (hc : bV z) : dN z 12 36 (bU z 36 []) (bW z []) := iI (aA (v := aJ z 0) aI fO (DC hc)) (aA (v := aJ z 1) aI gY (DL hc)) (aA (v := aJ z 3) aI jS (UK hc)) (bK (v := aJ z 6) aI kV hc.1 (UM hc))
theorem ak4 {z : dX} (hc : bV z) : dN z 13 4 (bU z 4 []) (bW z []) := iI (aA (v := aJ z 0) aI fO (TU hc)) (aA (v := aJ z 1) aI gY (UE hc)) (aA (v := aJ z 3) aI jS (ak3 hc)) (aA (v := aJ z 5) aI kU (UN hc))
theorem ak5 {z : dX} (hc : bV z) : dN z 11 224 (bU z 224 []) (bW z []) := bH (aA (v := aJ z 0) aI fO (TV hc)) (aA (v := aJ z 1) aI gY (UF hc)) (aA (v := aJ z 2) aI jR (UL hc))
theorem ak6 {z : dX} (hc : bV z) : dN z 12 96 (bU z 96 []) (bW z []) := iI (aA (v := aJ z 0) aI fO (TW hc)) (aA (v := aJ z 1) aI gY (UG hc)) (aA (v := aJ z 2) aI jR (UM hc)) (aA (v := aJ z 7) aI kX (ak5 hc))
theorem ak7 {z : dX} (hc : bV z) : dN z 13 32 (bU z 32 []) (bW z []) := iI (aA (v := aJ z 0) aI fO (TY hc)) (aA (v := aJ z 1) aI gY (UH hc)) (aA (v := aJ z 2) aI jR (UN hc)) (bK (v := aJ z 6) aI kV hc.1 (ak6 hc))
theorem ak8 {z : dX} (hc : bV z) : dN z 14 0 (bU z 0 []) (bW z []) := iI (aA (v := aJ z 0) aI fO (ak0 hc)) (aA (v := aJ z 1) aI gY (ak2 hc)) (aA (v := aJ z 2) aI jR (ak4 hc)) (aA (v := aJ z 5) aI kU (ak7 hc))
theorem ak9 (z1 : Nat) (z2 : Int) (z4 : Nat) (z5 : Nat) (z6 : Bool) (z7 : List Int) (z8 : Bool) (z9 : List Int) (hc : bV (z1, z2, z4, z5, z6, z7, z8, z9)) {st : St} (hl : st.t.length = 363) (et : rG [1, 5, 6, 7, 8] 363 st.t = (.any :: .sl 1 0 z1 :: .any :: .any :: .any :: .int .i64 z2 :: .ptr 2 0 :: .fl .f32 z4 :: .fl .f32 z5 :: (fE 354 []))) (eh : st.h = [.at z6 (.int .u8 z7), .at z8 (.int .u8 z9), .at true (.as 1 [.nil, .sl 3 0 1]), .at true (.fl .f32 [0])]) {μ0 : Mu} {h0 : H} {w0 : World} {Q : Exit → Act → World → Prop} (hQ : ∀ μ a w, Inv μ0 h0 w0 μ (⟨(.any :: .sl 1 0 z1 :: .any :: .any :: .any :: .int .i64 z2 :: .ptr 2 0 :: .fl .f32 z4 :: .fl .f32 z5 :: (fE 20 (.sl 4 0 ((fC 1 2 (IntKind.i64.wrap (1 + (atF z9 42 8))) true [0] true [z4, fop .add .f32 z4 1073741824]).1) :: .bool true :: (fE 332 [])))), [.at z6 (.int .u8 z7), .at z8 (.int .u8 z9), .at true (.as 1 [.nil, .sl 3 0 1]), .at true (.fl .f32 [0]), .at true (.fl .f32 ((fC 1 2 (IntKind.i64.wrap (1 + (atF z9 42 8))) true [0] true [z4, fop .add .f32 z4 1073741824]).2))]⟩ : St) a w → Q .normal a w) {μ : Mu} {a : Act} {w : World} (hi : Inv μ0 h0 w0 μ st a w) : (Code.region 28 jD true).wp Try.prog Q a w :=
  told (L0 := uZ 14 0) (T0 := bU (z1, z2, z4, z5, z6, z7, z8, z9) 0 []) (H0 := bW (z1, z2, z4, z5, z6, z7, z8, z9) []) [1, 5, 6, 7, 8, 29, 30] mixed (by kernel_rfl : jD.size = 14) (by kernel_rfl) hl (et.trans (by kernel_rfl)) (eh.trans (by kernel_rfl)) rfl (ak8 hc) hQ hi
set_option maxRecDepth 100000 in
theorem avW : vC Try.prog 28 jD true af2 := by
  intro μ0 h0 w0 st st' hg Q hQ μ a w hi
  unfold af2 at hg
  split at hg
  case h_2 => cases hg
  rename_i hl_
  have hl_ := of_decide_eq_true hl_
  split at hg
  case h_2 => cases hg
  rename_i z1 e1_
  split at hg
  case h_2 => cases hg
  rename_i z2 e5_
  split at hg
  case h_2 => cases hg
  rename_i e6_
  split at hg
  case h_2 => cases hg
  rename_i z4 e7_
  split at hg
  case h_2 => cases hg
  rename_i z5 e8_
  split at hg
  case h_2 => cases hg
  rename_i z6 z7 z8 z9 eh_
  have hg := Option.some.inj hg
  have hc := congrArg Prod.fst hg
  have hg := congrArg Prod.snd hg
  dsimp only at hc hg
  subst hg
  obtain ⟨hc, hc1⟩ := Bool.and_eq_true_iff.mp hc
  have hc0 := hc
  exact ak9 z1 z2 z4 z5 z6 z7 z8 z9 ⟨hc0, hc1⟩ hl_ ((qH (T0 := (.any :: .sl 1 0 z1 :: .any :: .any :: .any :: .int .i64 z2 :: .ptr 2 0 :: .fl .f32 z4 :: .fl .f32 z5 :: (fE 354 []))) (fun i hi => by
    simp only [List.mem_cons, List.not_mem_nil, or_false] at hi
    rcases hi with rfl | rfl | rfl | rfl | rfl
    · exact e1_.trans rfl
    · exact e5_.trans rfl
    · exact e6_.trans rfl
    · exact e7_.trans rfl
    · exact e8_.trans rfl)).trans (by kernel_rfl)) eh_ hQ hi
noncomputable def vM : GsA := fun i => if i = 28 then some (tu1 af2) else none
theorem aC1 : (jL (codeOf Try.f3)).filter (fun p => (vM p.1).isSome) = [(28, jD, true)] := by kernel_rfl
theorem avX : qA Try.prog vM (codeOf Try.f3) := by
  refine qJ _ fun p hp g hg => ?_
  have h : p ∈ (jL (codeOf Try.f3)).filter (fun p => (vM p.1).isSome) := List.mem_filter.2 ⟨hp, by rw [hg]; rfl⟩
  rw [aC1] at h
  simp only [List.mem_cons, List.not_mem_nil, or_false] at h
  rcases h with rfl
  · cases hg; exact yT avW
def rZ (mo : Nat) (n5 : Int) (en : Nat) (a8 : Nat) (wn : Nat) (i23 : Int) (rw0 : Bool) (l0 : List Int) (rw1 : Bool) (l1 : List Int) (l3 : List (Nat × Nat)) : St := ⟨(.any :: .sl 1 0 mo :: .any :: .any :: .any :: .int .i64 n5 :: .ptr 2 0 :: .fl .f32 en :: .fl .f32 a8 :: (fE 9 (.sl 3 0 wn :: .any :: .any :: .any :: .any :: .int .i64 i23 :: (fE 339 [])))), [.at rw0 (.int .u8 l0), .at rw1 (.int .u8 l1), .at true (.as 1 [.nil, .sl 4 0 1]), .at true (.cx .f32 l3), .at true (.fl .f32 [0])]⟩
abbrev aC2 : Option (List Nat × List Nat) := some ([1, 5, 6, 7, 8, 18, 23], [1, 4, 5, 6, 7, 8])
noncomputable def sD {R : Type} (N M : Nat) (s : St) (K : X → St → Option R) : Option R := pO 2 aC2 (fun st K => pU ty zY NG vM N 2 (oD [true, true, true, true, true, true, true, true, true, true, true, true, true, false, true, false, false] Try.f3) st K) M s K
noncomputable def NI {R : Type} (N : Nat) (K : X → St → Option R) : X → St → Option R := rF 0 (adT zY NG vM N 2 (oD [true, true, true, true, true, true, true, true, true, true, true, true, true, true] Try.f3) (K))
def sF (mo : Nat) (n5 : Int) (en : Nat) (a8 : Nat) (rw0 : Bool) (l0 : List Int) (rw1 : Bool) (l1 : List Int) : St := ⟨(.any :: .sl 1 0 mo :: .any :: .any :: .bool false :: .int .i64 n5 :: .ptr 2 0 :: .fl .f32 en :: .fl .f32 a8 :: (fE 354 [])), [.at rw0 (.int .u8 l0), .at rw1 (.int .u8 l1), .at true (.as 1 [.nil, .sl 3 0 1]), .at true (.fl .f32 [0])]⟩
def LJ (mo : Nat) (n5 : Int) (en : Nat) (a8 : Nat) (rw0 : Bool) (l0 : List Int) (rw1 : Bool) (l1 : List Int) : St := ⟨(.any :: .sl 1 0 mo :: .any :: .any :: .any :: .int .i64 n5 :: .ptr 2 0 :: .fl .f32 en :: .fl .f32 a8 :: (fE 354 [])), [.at rw0 (.int .u8 l0), .at rw1 (.int .u8 l1), .at true (.as 1 [.nil, .sl 3 0 1]), .at true (.fl .f32 [0])]⟩
theorem aI9 (N : Nat) (n : Nat) (m : Nat) (r : Bool) (l : List Int) (q : Bool) (l' : List Int) : uQ ty zY NG vM N Try.f3 [.sl 0 0 n, .sl 1 0 m] [.at r (.int .u8 l), .at q (.int .u8 l')]
    = (match qG n m with | true => yA r l q l' | false => (match atOk m l' 40 with | true => (match decide (l.length = n ∧ n < 2147483648) with | true => (match decide ((dn l') = 0) with | true => (match atOk m l' 41 with | true => (match isS (qC 1 (dE l') true [0]) with | true => (match isS (tZ 1 true [0]) with | true => (match isS (qC ((dV 1 true [0]).1) (dE l') true ((dV 1 true [0]).2)) with | true => (match isS (tZ ((dV 1 true [0]).1) true ((dV 1 true [0]).2)) with | true => (match isS (uV 1 (dE l') true [0]) with | true => (match isS (zN 1 (dE l') true [0]) with | true => (match !(yO 1 (dE l') true [0]) with | true => zA r l q l' | false => (match isS (qB 1 true [0]) with | true => (match !(pJ 1 true [0]) with | true => zA r l q l' | false => (match isS (KQ ((dV ((dV 1 true [0]).1) true ((dV 1 true [0]).2)).1) 1 true ((dV ((dV 1 true [0]).1) true ((dV 1 true [0]).2)).2) true [0]) with | true => (match !(BR ((dV ((dV 1 true [0]).1) true ((dV 1 true [0]).2)).1) 1 true ((dV ((dV 1 true [0]).1) true ((dV 1 true [0]).2)).2) true [0]) with | true => zA r l q l' | false => (match (((fG 1 (dE l') true [0]).1 : Nat) : Int) != (IntKind.i64.wrap ((dn l') + 1)) with | true => zA r l q l' | false => (match ltB ((eX 1 (dE l') true [0]).1) 0 with | true => zA r l q l' | false => (match ltB ((eX 1 (dE l') true [0]).2) 0 with | true => zA r l q l' | false => (match gtD (r8G (fop .add .f32 ((eX 1 (dE l') true [0]).1) ((eX 1 (dE l') true [0]).2)) 1065353216) 4562254508917369340 with | true => zA r l q l' | false => (match gtD (r8G ((eX 1 (dE l') true [0]).1) ((eX ((dV 1 true [0]).1) (dE l') true ((dV 1 true [0]).2)).1)) 4562254508917369340 with | true => zA r l q l' | false => (match gtD (r8G ((eX 1 (dE l') true [0]).2) ((eX ((dV 1 true [0]).1) (dE l') true ((dV 1 true [0]).2)).2)) 4562254508917369340 with | true => zA r l q l' | false => (match (dn l') == 0 with | true => (match FloatKind.f32.format.order ((eX 1 (dE l') true [0]).1) 1065353216 != some .eq with | true => zA r l q l' | false => (match pwB 0 0 with | true => (match pwB 1065353216 0 with | true => (match pwB 1065353216 0 with | true => (match fF .f32 (fop .add .f32 1065353216 (pwN 1065353216 0)) .f64 with | some c1 => (match gtD (r8G (pwN 0 0) (fop .mul .f32 ((eX 1 (dE l') true [0]).2) (pwN 1065353216 0))) (fop .mul .f64 4562254508917369340 c1) with | true => zA r l q l' | false => sD N N (rZ m (dn l') (dE l') ((eX 1 (dE l') true [0]).1) ((fG 1 (dE l') true [0]).1) 0 r l q l' ((fG 1 (dE l') true [0]).2)) (NI N (oM Try.f3 2))) | none => none) | false => none) | false => none) | false => none)) | false => (match pwB 0 0 with | true => (match pwB 1065353216 0 with | true => (match pwB 1065353216 0 with | true => (match fF .f32 (fop .add .f32 1065353216 (pwN 1065353216 0)) .f64 with | some c2 => (match gtD (r8G (pwN 0 0) (fop .mul .f32 ((eX 1 (dE l') true [0]).2) (pwN 1065353216 0))) (fop .mul .f64 4562254508917369340 c2) with | true => zA r l q l' | false => sD N N (rZ m (dn l') (dE l') ((eX 1 (dE l') true [0]).1) ((fG 1 (dE l') true [0]).1) 0 r l q l' ((fG 1 (dE l') true [0]).2)) (NI N (oM Try.f3 2))) | none => none) | false => none) | false => none) | false => none))))))))) | false => none)) | false => none)) | false => none) | false => none) | false => none) | false => none) | false => none) | false => none) | false => none) | false => none) | false => none) | false => none)) := by
  kernel_rfl
theorem abC {R : Type} (N M : Nat) (K : X → St → Option R) (mo : Nat) (n5 : Int) (en : Nat) (a8 : Nat) (wn : Nat) (i23 : Int) (rw0 : Bool) (l0 : List Int) (rw1 : Bool) (l1 : List Int) (l3 : List (Nat × Nat)) : sD N (M + 1) (rZ mo n5 en a8 wn i23 rw0 l0 rw1 l1 l3) K
    = (match decide ((i23 : Int) ≤ n5) with | true => (match decide (0 ≤ (i23 : Int) ∧ (i23 : Int) < 1) with | true => (match [0][0 + (i23).toNat * 1]? with | some e1 => (match decide (0 ≤ (i23 : Int) ∧ (i23 : Int) < ((wn : Nat) : Int)) with | true => (match l3[0 + (i23).toNat * 1]? with | some (e2, e3) => (match decide (0 ≤ (i23 : Int) ∧ (i23 : Int) < ((wn : Nat) : Int)) with | true => (match l3[0 + (i23).toNat * 1]? with | some (e4, e5) => (match ltB e1 en with | true => (match FloatKind.f32.format.order e5 0 != some .eq with | true => K .ret (sF mo n5 en a8 rw0 l0 rw1 l1) | false => (match gtD (r8G (fop .mul .f32 e2 e2) (fop .sub .f32 en e1)) 4562254508917369340 with | true => K .ret (sF mo n5 en a8 rw0 l0 rw1 l1) | false => (match gtB e1 en with | true => (match FloatKind.f32.format.order e2 0 != some .eq with | true => K .ret (sF mo n5 en a8 rw0 l0 rw1 l1) | false => (match gtD (r8G (fop .mul .f32 e5 e5) (fop .sub .f32 e1 en)) 4562254508917369340 with | true => K .ret (sF mo n5 en a8 rw0 l0 rw1 l1) | false => (match decide ((i23 : Int) > 0) with | true => none | false => sD N M (rZ mo n5 en a8 wn (IntKind.i64.wrap (i23 + 1)) rw0 l0 rw1 l1 l3) K))) | false => (match decide ((i23 : Int) > 0) with | true => none | false => sD N M (rZ mo n5 en a8 wn (IntKind.i64.wrap (i23 + 1)) rw0 l0 rw1 l1 l3) K)))) | false => (match gtB e1 en with | true => (match FloatKind.f32.format.order e2 0 != some .eq with | true => K .ret (sF mo n5 en a8 rw0 l0 rw1 l1) | false => (match gtD (r8G (fop .mul .f32 e5 e5) (fop .sub .f32 e1 en)) 4562254508917369340 with | true => K .ret (sF mo n5 en a8 rw0 l0 rw1 l1) | false => (match decide ((i23 : Int) > 0) with | true => none | false => sD N M (rZ mo n5 en a8 wn (IntKind.i64.wrap (i23 + 1)) rw0 l0 rw1 l1 l3) K))) | false => (match decide ((i23 : Int) > 0) with | true => none | false => sD N M (rZ mo n5 en a8 wn (IntKind.i64.wrap (i23 + 1)) rw0 l0 rw1 l1 l3) K))) | none => none) | false => none) | none => none) | false => none) | none => none) | false => none) | false => K (.exit 0) (LJ mo n5 en a8 rw0 l0 rw1 l1)) := by
  kernel_rfl
theorem alA (N : Nat) (mo : Nat) (n5 : Int) (en : Nat) (a8 : Nat) (rw0 : Bool) (l0 : List Int) (rw1 : Bool) (l1 : List Int) : NI N (oM Try.f3 2) (.exit 0) (LJ mo n5 en a8 rw0 l0 rw1 l1)
    = (match (atOk mo l1 42) && (isS (qZ 1 2 (dq l1) true [0] true [en, fop .add .f32 en 1073741824])) with | true => (match isS (KZ 1 en (e2W en) true [0]) with | true => (match (((fC 1 2 (dq l1) true [0] true [en, fop .add .f32 en 1073741824]).1 : Nat) : Int) != 2 with | true => zA rw0 l0 rw1 l1 | false => (match decide (0 ≤ (0 : Int) ∧ (0 : Int) < (((fC 1 2 (dq l1) true [0] true [en, fop .add .f32 en 1073741824]).1 : Nat) : Int)) with | true => (match ((fC 1 2 (dq l1) true [0] true [en, fop .add .f32 en 1073741824]).2)[0]? with | some e1 => (match FloatKind.f32.format.order e1 a8 != some .eq with | true => zA rw0 l0 rw1 l1 | false => (match ltB ((lZ 1 en (e2W en) true [0]).2) a8 with | true => zA rw0 l0 rw1 l1 | false => (match decide (0 ≤ (1 : Int) ∧ (1 : Int) < (((fC 1 2 (dq l1) true [0] true [en, fop .add .f32 en 1073741824]).1 : Nat) : Int)) with | true => (match ((fC 1 2 (dq l1) true [0] true [en, fop .add .f32 en 1073741824]).2)[1]? with | some e2 => (match ltB ((lZ 1 en (e2W en) true [0]).2) e2 with | true => zA rw0 l0 rw1 l1 | false => (match ltB ((lZ 1 en (e2W en) true [0]).1) en with | true => zA rw0 l0 rw1 l1 | false => (match gtB ((lZ 1 en (e2W en) true [0]).1) (e2W en) with | true => zA rw0 l0 rw1 l1 | false => (match n5 == 0 with | true => yA rw0 l0 rw1 l1 | false => (match atOk mo l1 43 with | true => none | false => none))))) | none => none) | false => none))) | none => none) | false => none)) | false => none) | false => none) := by
  kernel_rfl
end
end Go.Proofs.Ytpjoapgfdjfbdaa.Ab

/- What the proof names: lemmas and words, merged by a program from its parts. No condition. -/
import Derived.Test.YtpjoapgfdjfbdaaZ2
import Derived.Test.YtpjoapgfdjfbdaaZ4
namespace Go.Proofs.Ytpjoapgfdjfbdaa.Ab
set_option linter.unusedVariables false
set_option linter.unusedSimpArgs false
open Go
noncomputable section
def NQ : Ann := ⟨fun r => if r = 17 then some ([1, 5, 6, 7, 8, 18, 23], [1, 4, 5, 6, 7, 8]) else none, fun _ _ => .quiet⟩
noncomputable def AC : Fns := gX [(4, aa7), (5, gAt), (6, rs0), (7, (gOr zO gSs)), (8, (gOr KP gTs)), (9, (gOr zM gWn)), (10, (gOr BO gWa)), (11, (gOr uD gVs)), (12, (gOr KU ao7)), (13, gT gG8), (14, agO), (16, (gOr LG gSh)), (17, (gOr LC gBt)), (18, ao6)]
theorem aQ : ∀ f, FnT Try.prog f (AC f) := (aC (k := 4) MZ (aC (k := 5) aiB (aC (k := 6) akY (aC (k := 7) (FnT.or zG zL) (aC (k := 8) (FnT.or NC ZO) (aC (k := 9) (FnT.or zF zJ) (aC (k := 10) (FnT.or BP JS) (aC (k := 11) (FnT.or tY nY) (aC (k := 12) (FnT.or ND ZP) (aC (k := 13) ZU (aC (k := 14) JR (aC (k := 16) (FnT.or NF ZT) (aC (k := 17) (FnT.or NE ZR) (aC (k := 18) ZN bJ))))))))))))))
noncomputable def jH : Array Oper := (yU (codeOf Try.f3) 28).getD #[]
def af6 (st : St) : Option (Bool × St) := (match decide (st.t.length = 363) with | true => (match nth st.t 1 with | .nil => (match nth st.t 5 with | .int .i64 z0 => (match nth st.t 6 with | .ptr 0 0 => (match nth st.t 7 with | .fl .f32 z2 => (match nth st.t 8 with | .fl .f32 z3 => (match st.h with | [.at true (.as 1 [.nil, .sl 1 0 1]), .at true (.fl .f32 [0])] => some ((atOk 0 [] 42) && (isS (qZ 1 2 (dq []) true [0] true [z2, fop .add .f32 z2 1073741824])), ⟨(.any :: .nil :: .any :: .any :: .any :: .int .i64 z0 :: .ptr 0 0 :: .fl .f32 z2 :: .fl .f32 z3 :: (fE 20 (.sl 2 0 ((fC 1 2 (dq []) true [0] true [z2, fop .add .f32 z2 1073741824]).1) :: .bool true :: (fE 332 [])))), [.at true (.as 1 [.nil, .sl 1 0 1]), .at true (.fl .f32 [0]), .at true (.fl .f32 ((fC 1 2 (dq []) true [0] true [z2, fop .add .f32 z2 1073741824]).2))]⟩) | _ => none) | _ => none) | _ => none) | _ => none) | _ => none) | _ => none) | false => none)
abbrev eG := Int × Nat × Nat
abbrev aiP (z : eG) : Int := z.1
abbrev jC (z : eG) : Nat := z.2.1
abbrev aiQ (z : eG) : Nat := z.2.2
def aJF (z : eG) : List V := (.any :: .nil :: .any :: .any :: .any :: .int .i64 (aiP z) :: .ptr 0 0 :: .fl .f32 (jC z) :: .fl .f32 (aiQ z) :: (fE 354 []))
def aJG (z : eG) : H := [.at true (.as 1 [.nil, .sl 1 0 1]), .at true (.fl .f32 [0])]
theorem fU : (jH[0]?).map iG = some (.load 27 (.tmp 6), some 256, none) := by kernel_rfl
theorem iD : (jH[1]?).map iG = some (.move (.tmp 7), some 257, none) := by kernel_rfl
theorem jX : (jH[2]?).map iG = some (.move (.tmp 7), some 258, none) := by kernel_rfl
theorem jY : (jH[3]?).map iG = some (.binOp .add 29 (.tmp 258) (.const (.float .f32 1073741824)) 29, some 259, none) := by kernel_rfl
theorem o6 : (jH[4]?).map iG = some (.buildSlice 25 2 #[(0, .tmp 257), (1, .tmp 259)], some 260, none) := by kernel_rfl
theorem lI : (jH[5]?).map iG = some (.move (.tmp 1), some 261, none) := by kernel_rfl
theorem lJ : (jH[6]?).map iG = some (.call ⟨.value (.func 5), #[.tmp 261, .const (.int .i64 42), .const (.int .i64 8)], #[22, 2, 2]⟩, some 262, none) := by kernel_rfl
theorem lK : (jH[7]?).map iG = some (.binOp .add 2 (.const (.int .i64 1)) (.tmp 262) 2, some 263, none) := by kernel_rfl
theorem aqM : (jH[8]?).map iG = some (.call ⟨.value (.func 16), #[.tmp 256, .tmp 260, .tmp 263], #[27, 25, 2]⟩, some 264, none) := by kernel_rfl
theorem aqN : (jH[9]?).map iG = some (.move (.tmp 264), some 255, none) := by kernel_rfl
theorem V4 : (jH[10]?).map iG = some (.extract (.tmp 255) 0, some 265, none) := by kernel_rfl
theorem FC : (jH[11]?).map iG = some (.extract (.tmp 255) 1, some 266, none) := by kernel_rfl
theorem V5 : (jH[12]?).map iG = some (.assign (.tmp 265), some 29, none) := by kernel_rfl
theorem alZ : (jH[13]?).map iG = some (.assign (.tmp 266), some 30, none) := by kernel_rfl
def aS (z : eG) : Nat → V
  | 0 => .g [.nil, .sl 1 0 1]
  | 1 => .fl .f32 (jC z)
  | 2 => .fl .f32 (jC z)
  | 3 => .fl .f32 (fop .add .f32 (jC z) 1073741824)
  | 4 => .sl 2 0 2
  | 5 => .nil
  | 6 => .int .i64 (atF [] 42 8)
  | 7 => .int .i64 (dq [])
  | 8 => .tup [.a (.sl 3 0 ((fC 1 2 (dq []) true [0] true [(jC z), fop .add .f32 (jC z) 1073741824]).1)), .a (.bool true)]
  | 9 => .tup [.a (.sl 3 0 ((fC 1 2 (dq []) true [0] true [(jC z), fop .add .f32 (jC z) 1073741824]).1)), .a (.bool true)]
  | 10 => .sl 3 0 ((fC 1 2 (dq []) true [0] true [(jC z), fop .add .f32 (jC z) 1073741824]).1)
  | 11 => .bool true
  | 12 => .sl 3 0 ((fC 1 2 (dq []) true [0] true [(jC z), fop .add .f32 (jC z) 1073741824]).1)
  | 13 => .bool true
  | _ => .any
def dC (z : eG) (k : Nat) (l : List (Nat × V)) : List V := uJ l (uJ (an5 k [(0, 256), (1, 257), (2, 258), (3, 259), (4, 260), (5, 261), (6, 262), (7, 263), (8, 264), (9, 255), (10, 265), (11, 266), (12, 29), (13, 30)] (aS z)) (aJF z))
def dD (z : eG) : Prop := (atOk 0 [] 42) = true ∧ (isS (qZ 1 2 (dq []) true [0] true [(jC z), fop .add .f32 (jC z) 1073741824])) = true
abbrev dQ (z : eG) (m k : Nat) (t : List V) (h : H) : Prop := nO Try.prog jH (Q5 [1, 5, 6, 7, 8, 29, 30] 2 (⟨(.any :: .nil :: .any :: .any :: .any :: .int .i64 (aiP z) :: .ptr 0 0 :: .fl .f32 (jC z) :: .fl .f32 (aiQ z) :: (fE 20 (.sl 2 0 ((fC 1 2 (dq []) true [0] true [(jC z), fop .add .f32 (jC z) 1073741824]).1) :: .bool true :: (fE 332 [])))), [.at true (.as 1 [.nil, .sl 1 0 1]), .at true (.fl .f32 [0]), .at true (.fl .f32 ((fC 1 2 (dq []) true [0] true [(jC z), fop .add .f32 (jC z) 1073741824]).2))]⟩ : St)) m (uZ 14 k) t h
def av5 (z : eG) : Nat → B
  | 0 => .at true (.fl .f32 [(jC z), fop .add .f32 (jC z) 1073741824])
  | 1 => .at true (.fl .f32 ((fC 1 2 (dq []) true [0] true [(jC z), fop .add .f32 (jC z) 1073741824]).2))
  | _ => .gone
def dF (z : eG) (l : List Nat) : H := aJG z ++ l.map (av5 z)
theorem aqO {z : eG} (hc : dD z) : dQ z 0 16383 (dC z 16383 []) (dF z [0, 1]) := ⟨by kernel_rfl, [0, 1, 3], by decide, by decide, by kernel_rfl, by kernel_rfl⟩
theorem abK {z : eG} (hc : dD z) : dQ z 1 8191 (dC z 8191 []) (dF z [0, 1]) := bM (aA (v := aS z 13) aQ alZ (aqO hc))
theorem abL {z : eG} (hc : dD z) : dQ z 2 4095 (dC z 4095 []) (dF z [0, 1]) := bM (aA (v := aS z 12) aQ V5 (abK hc))
theorem aqP {z : eG} (hc : dD z) : dQ z 2 6143 (dC z 6143 []) (dF z [0, 1]) := bM (aA (v := aS z 11) aQ FC (abK hc))
theorem aqQ {z : eG} (hc : dD z) : dQ z 3 2047 (dC z 2047 []) (dF z [0, 1]) := bF (aA (v := aS z 11) aQ FC (abL hc)) (aA (v := aS z 12) aQ V5 (aqP hc))
theorem aqR {z : eG} (hc : dD z) : dQ z 3 3071 (dC z 3071 []) (dF z [0, 1]) := bM (aA (v := aS z 10) aQ V4 (abL hc))
theorem aqS {z : eG} (hc : dD z) : dQ z 4 1023 (dC z 1023 []) (dF z [0, 1]) := bF (aA (v := aS z 10) aQ V4 (aqQ hc)) (aA (v := aS z 11) aQ FC (aqR hc))
theorem aqT {z : eG} (hc : dD z) : dQ z 5 511 (dC z 511 []) (dF z [0, 1]) := bM (aA (v := aS z 9) aQ aqN (aqS hc))
theorem LU {z : eG} (hc : dD z) : dQ z 6 255 (dC z 255 []) (dF z [0]) := bM (bK (v := aS z 8) aQ aqM hc.2 (aqT hc))
theorem FD {z : eG} (hc : dD z) : dQ z 7 127 (dC z 127 []) (dF z [0]) := bM (aA (v := aS z 7) aQ lK (LU hc))
theorem FH {z : eG} (hc : dD z) : dQ z 8 63 (dC z 63 []) (dF z [0]) := bM (bK (v := aS z 6) aQ lJ hc.1 (FD hc))
theorem V6 {z : eG} (hc : dD z) : dQ z 9 31 (dC z 31 []) (dF z [0]) := bM (aA (v := aS z 5) aQ lI (FH hc))
theorem wF {z : eG} (hc : dD z) : dQ z 7 239 (dC z 239 []) (dF z []) := bM (aA (v := aS z 4) aQ o6 (LU hc))
theorem wG {z : eG} (hc : dD z) : dQ z 8 111 (dC z 111 []) (dF z []) := bF (aA (v := aS z 4) aQ o6 (FD hc)) (aA (v := aS z 7) aQ lK (wF hc))
theorem wH {z : eG} (hc : dD z) : dQ z 9 47 (dC z 47 []) (dF z []) := bF (aA (v := aS z 4) aQ o6 (FH hc)) (bK (v := aS z 6) aQ lJ hc.1 (wG hc))
theorem FI {z : eG} (hc : dD z) : dQ z 10 15 (dC z 15 []) (dF z []) := bF (aA (v := aS z 4) aQ o6 (V6 hc)) (aA (v := aS z 5) aQ lI (wH hc))
theorem wI {z : eG} (hc : dD z) : dQ z 8 231 (dC z 231 []) (dF z []) := bM (aA (v := aS z 3) aQ jY (wF hc))
theorem wJ {z : eG} (hc : dD z) : dQ z 9 103 (dC z 103 []) (dF z []) := bF (aA (v := aS z 3) aQ jY (wG hc)) (aA (v := aS z 7) aQ lK (wI hc))
theorem wK {z : eG} (hc : dD z) : dQ z 10 39 (dC z 39 []) (dF z []) := bF (aA (v := aS z 3) aQ jY (wH hc)) (bK (v := aS z 6) aQ lJ hc.1 (wJ hc))
theorem FK {z : eG} (hc : dD z) : dQ z 11 7 (dC z 7 []) (dF z []) := bF (aA (v := aS z 3) aQ jY (FI hc)) (aA (v := aS z 5) aQ lI (wK hc))
theorem FM {z : eG} (hc : dD z) : dQ z 9 227 (dC z 227 []) (dF z []) := bM (aA (v := aS z 2) aQ jX (wI hc))
theorem FN {z : eG} (hc : dD z) : dQ z 10 99 (dC z 99 []) (dF z []) := bF (aA (v := aS z 2) aQ jX (wJ hc)) (aA (v := aS z 7) aQ lK (FM hc))
theorem FO {z : eG} (hc : dD z) : dQ z 11 35 (dC z 35 []) (dF z []) := bF (aA (v := aS z 2) aQ jX (wK hc)) (bK (v := aS z 6) aQ lJ hc.1 (FN hc))
theorem V7 {z : eG} (hc : dD z) : dQ z 12 3 (dC z 3 []) (dF z []) := bF (aA (v := aS z 2) aQ jX (FK hc)) (aA (v := aS z 5) aQ lI (FO hc))
theorem FP {z : eG} (hc : dD z) : dQ z 8 237 (dC z 237 []) (dF z []) := bM (aA (v := aS z 1) aQ iD (wF hc))
theorem FQ {z : eG} (hc : dD z) : dQ z 9 109 (dC z 109 []) (dF z []) := bF (aA (v := aS z 1) aQ iD (wG hc)) (aA (v := aS z 7) aQ lK (FP hc))
theorem FT {z : eG} (hc : dD z) : dQ z 10 45 (dC z 45 []) (dF z []) := bF (aA (v := aS z 1) aQ iD (wH hc)) (bK (v := aS z 6) aQ lJ hc.1 (FQ hc))
theorem V8 {z : eG} (hc : dD z) : dQ z 11 13 (dC z 13 []) (dF z []) := bF (aA (v := aS z 1) aQ iD (FI hc)) (aA (v := aS z 5) aQ lI (FT hc))
theorem FU {z : eG} (hc : dD z) : dQ z 9 229 (dC z 229 []) (dF z []) := bF (aA (v := aS z 1) aQ iD (wI hc)) (aA (v := aS z 3) aQ jY (FP hc))
theorem FV {z : eG} (hc : dD z) : dQ z 10 101 (dC z 101 []) (dF z []) := bH (aA (v := aS z 1) aQ iD (wJ hc)) (aA (v := aS z 3) aQ jY (FQ hc)) (aA (v := aS z 7) aQ lK (FU hc))
theorem FW {z : eG} (hc : dD z) : dQ z 11 37 (dC z 37 []) (dF z []) := bH (aA (v := aS z 1) aQ iD (wK hc)) (aA (v := aS z 3) aQ jY (FT hc)) (bK (v := aS z 6) aQ lJ hc.1 (FV hc))
theorem V9 {z : eG} (hc : dD z) : dQ z 12 5 (dC z 5 []) (dF z []) := bH (aA (v := aS z 1) aQ iD (FK hc)) (aA (v := aS z 3) aQ jY (V8 hc)) (aA (v := aS z 5) aQ lI (FW hc))
theorem WA {z : eG} (hc : dD z) : dQ z 10 225 (dC z 225 []) (dF z []) := bF (aA (v := aS z 1) aQ iD (FM hc)) (aA (v := aS z 2) aQ jX (FU hc))
theorem WB {z : eG} (hc : dD z) : dQ z 11 97 (dC z 97 []) (dF z []) := bH (aA (v := aS z 1) aQ iD (FN hc)) (aA (v := aS z 2) aQ jX (FV hc)) (aA (v := aS z 7) aQ lK (WA hc))
theorem WC {z : eG} (hc : dD z) : dQ z 12 33 (dC z 33 []) (dF z []) := bH (aA (v := aS z 1) aQ iD (FO hc)) (aA (v := aS z 2) aQ jX (FW hc)) (bK (v := aS z 6) aQ lJ hc.1 (WB hc))
theorem al0 {z : eG} (hc : dD z) : dQ z 13 1 (dC z 1 []) (dF z []) := bH (aA (v := aS z 1) aQ iD (V7 hc)) (aA (v := aS z 2) aQ jX (V9 hc)) (aA (v := aS z 5) aQ lI (WC hc))
theorem WE {z : eG} (hc : dD z) : dQ z 7 254 (dC z 254 []) (dF z [0]) := bM (aA (v := aS z 0) aQ fU (LU hc))
theorem WF {z : eG} (hc : dD z) : dQ z 8 126 (dC z 126 []) (dF z [0]) := bF (aA (v := aS z 0) aQ fU (FD hc)) (aA (v := aS z 7) aQ lK (WE hc))
theorem WG {z : eG} (hc : dD z) : dQ z 9 62 (dC z 62 []) (dF z [0]) := bF (aA (v := aS z 0) aQ fU (FH hc)) (bK (v := aS z 6) aQ lJ hc.1 (WF hc))
theorem al1 {z : eG} (hc : dD z) : dQ z 10 30 (dC z 30 []) (dF z [0]) := bF (aA (v := aS z 0) aQ fU (V6 hc)) (aA (v := aS z 5) aQ lI (WG hc))
theorem FX {z : eG} (hc : dD z) : dQ z 8 238 (dC z 238 []) (dF z []) := bF (aA (v := aS z 0) aQ fU (wF hc)) (aA (v := aS z 4) aQ o6 (WE hc))
theorem FY {z : eG} (hc : dD z) : dQ z 9 110 (dC z 110 []) (dF z []) := bH (aA (v := aS z 0) aQ fU (wG hc)) (aA (v := aS z 4) aQ o6 (WF hc)) (aA (v := aS z 7) aQ lK (FX hc))
theorem FZ {z : eG} (hc : dD z) : dQ z 10 46 (dC z 46 []) (dF z []) := bH (aA (v := aS z 0) aQ fU (wH hc)) (aA (v := aS z 4) aQ o6 (WG hc)) (bK (v := aS z 6) aQ lJ hc.1 (FY hc))
theorem WH {z : eG} (hc : dD z) : dQ z 11 14 (dC z 14 []) (dF z []) := bH (aA (v := aS z 0) aQ fU (FI hc)) (aA (v := aS z 4) aQ o6 (al1 hc)) (aA (v := aS z 5) aQ lI (FZ hc))
theorem F5 {z : eG} (hc : dD z) : dQ z 9 230 (dC z 230 []) (dF z []) := bF (aA (v := aS z 0) aQ fU (wI hc)) (aA (v := aS z 3) aQ jY (FX hc))
theorem F6 {z : eG} (hc : dD z) : dQ z 10 102 (dC z 102 []) (dF z []) := bH (aA (v := aS z 0) aQ fU (wJ hc)) (aA (v := aS z 3) aQ jY (FY hc)) (aA (v := aS z 7) aQ lK (F5 hc))
theorem F7 {z : eG} (hc : dD z) : dQ z 11 38 (dC z 38 []) (dF z []) := bH (aA (v := aS z 0) aQ fU (wK hc)) (aA (v := aS z 3) aQ jY (FZ hc)) (bK (v := aS z 6) aQ lJ hc.1 (F6 hc))
theorem WI {z : eG} (hc : dD z) : dQ z 12 6 (dC z 6 []) (dF z []) := bH (aA (v := aS z 0) aQ fU (FK hc)) (aA (v := aS z 3) aQ jY (WH hc)) (aA (v := aS z 5) aQ lI (F7 hc))
theorem WJ {z : eG} (hc : dD z) : dQ z 10 226 (dC z 226 []) (dF z []) := bF (aA (v := aS z 0) aQ fU (FM hc)) (aA (v := aS z 2) aQ jX (F5 hc))
theorem WL {z : eG} (hc : dD z) : dQ z 11 98 (dC z 98 []) (dF z []) := bH (aA (v := aS z 0) aQ fU (FN hc)) (aA (v := aS z 2) aQ jX (F6 hc)) (aA (v := aS z 7) aQ lK (WJ hc))
theorem WM {z : eG} (hc : dD z) : dQ z 12 34 (dC z 34 []) (dF z []) := bH (aA (v := aS z 0) aQ fU (FO hc)) (aA (v := aS z 2) aQ jX (F7 hc)) (bK (v := aS z 6) aQ lJ hc.1 (WL hc))
theorem al2 {z : eG} (hc : dD z) : dQ z 13 2 (dC z 2 []) (dF z []) := bH (aA (v := aS z 0) aQ fU (V7 hc)) (aA (v := aS z 2) aQ jX (WI hc)) (aA (v := aS z 5) aQ lI (WM hc))
theorem WN {z : eG} (hc : dD z) : dQ z 9 236 (dC z 236 []) (dF z []) := bF (aA (v := aS z 0) aQ fU (FP hc)) (aA (v := aS z 1) aQ iD (FX hc))
theorem WO {z : eG} (hc : dD z) : dQ z 10 108 (dC z 108 []) (dF z []) := bH (aA (v := aS z 0) aQ fU (FQ hc)) (aA (v := aS z 1) aQ iD (FY hc)) (aA (v := aS z 7) aQ lK (WN hc))
theorem WP {z : eG} (hc : dD z) : dQ z 11 44 (dC z 44 []) (dF z []) := bH (aA (v := aS z 0) aQ fU (FT hc)) (aA (v := aS z 1) aQ iD (FZ hc)) (bK (v := aS z 6) aQ lJ hc.1 (WO hc))
theorem al3 {z : eG} (hc : dD z) : dQ z 12 12 (dC z 12 []) (dF z []) := bH (aA (v := aS z 0) aQ fU (V8 hc)) (aA (v := aS z 1) aQ iD (WH hc)) (aA (v := aS z 5) aQ lI (WP hc))
theorem WQ {z : eG} (hc : dD z) : dQ z 10 228 (dC z 228 []) (dF z []) := bH (aA (v := aS z 0) aQ fU (FU hc)) (aA (v := aS z 1) aQ iD (F5 hc)) (aA (v := aS z 3) aQ jY (WN hc))
theorem WR {z : eG} (hc : dD z) : dQ z 11 100 (dC z 100 []) (dF z []) := iI (aA (v := aS z 0) aQ fU (FV hc)) (aA (v := aS z 1) aQ iD (F6 hc)) (aA (v := aS z 3) aQ jY (WO hc)) (aA (v := aS z 7) aQ lK (WQ hc))
theorem WS {z : eG} (hc : dD z) : dQ z 12 36 (dC z 36 []) (dF z []) := iI (aA (v := aS z 0) aQ fU (FW hc)) (aA (v := aS z 1) aQ iD (F7 hc)) (aA (v := aS z 3) aQ jY (WP hc)) (bK (v := aS z 6) aQ lJ hc.1 (WR hc))
theorem al4 {z : eG} (hc : dD z) : dQ z 13 4 (dC z 4 []) (dF z []) := iI (aA (v := aS z 0) aQ fU (V9 hc)) (aA (v := aS z 1) aQ iD (WI hc)) (aA (v := aS z 3) aQ jY (al3 hc)) (aA (v := aS z 5) aQ lI (WS hc))
theorem al5 {z : eG} (hc : dD z) : dQ z 11 224 (dC z 224 []) (dF z []) := bH (aA (v := aS z 0) aQ fU (WA hc)) (aA (v := aS z 1) aQ iD (WJ hc)) (aA (v := aS z 2) aQ jX (WQ hc))
theorem al6 {z : eG} (hc : dD z) : dQ z 12 96 (dC z 96 []) (dF z []) := iI (aA (v := aS z 0) aQ fU (WB hc)) (aA (v := aS z 1) aQ iD (WL hc)) (aA (v := aS z 2) aQ jX (WR hc)) (aA (v := aS z 7) aQ lK (al5 hc))
theorem al7 {z : eG} (hc : dD z) : dQ z 13 32 (dC z 32 []) (dF z []) := iI (aA (v := aS z 0) aQ fU (WC hc)) (aA (v := aS z 1) aQ iD (WM hc)) (aA (v := aS z 2) aQ jX (WS hc)) (bK (v := aS z 6) aQ lJ hc.1 (al6 hc))
theorem al8 {z : eG} (hc : dD z) : dQ z 14 0 (dC z 0 []) (dF z []) := iI (aA (v := aS z 0) aQ fU (al0 hc)) (aA (v := aS z 1) aQ iD (al2 hc)) (aA (v := aS z 2) aQ jX (al4 hc)) (aA (v := aS z 5) aQ lI (al7 hc))
theorem al9 (z0 : Int) (z2 : Nat) (z3 : Nat) (hc : dD (z0, z2, z3)) {st : St} (hl : st.t.length = 363) (et : rG [1, 5, 6, 7, 8] 363 st.t = (.any :: .nil :: .any :: .any :: .any :: .int .i64 z0 :: .ptr 0 0 :: .fl .f32 z2 :: .fl .f32 z3 :: (fE 354 []))) (eh : st.h = [.at true (.as 1 [.nil, .sl 1 0 1]), .at true (.fl .f32 [0])]) {μ0 : Mu} {h0 : H} {w0 : World} {Q : Exit → Act → World → Prop} (hQ : ∀ μ a w, Inv μ0 h0 w0 μ (⟨(.any :: .nil :: .any :: .any :: .any :: .int .i64 z0 :: .ptr 0 0 :: .fl .f32 z2 :: .fl .f32 z3 :: (fE 20 (.sl 2 0 ((fC 1 2 (dq []) true [0] true [z2, fop .add .f32 z2 1073741824]).1) :: .bool true :: (fE 332 [])))), [.at true (.as 1 [.nil, .sl 1 0 1]), .at true (.fl .f32 [0]), .at true (.fl .f32 ((fC 1 2 (dq []) true [0] true [z2, fop .add .f32 z2 1073741824]).2))]⟩ : St) a w → Q .normal a w) {μ : Mu} {a : Act} {w : World} (hi : Inv μ0 h0 w0 μ st a w) : (Code.region 28 jH true).wp Try.prog Q a w :=
  told (L0 := uZ 14 0) (T0 := dC (z0, z2, z3) 0 []) (H0 := dF (z0, z2, z3) []) [1, 5, 6, 7, 8, 29, 30] mixed (by kernel_rfl : jH.size = 14) (by kernel_rfl) hl (et.trans (by kernel_rfl)) (eh.trans (by kernel_rfl)) rfl (al8 hc) hQ hi
set_option maxRecDepth 100000 in
theorem av6 : vC Try.prog 28 jH true af6 := by
  intro μ0 h0 w0 st st' hg Q hQ μ a w hi
  unfold af6 at hg
  split at hg
  case h_2 => cases hg
  rename_i hl_
  have hl_ := of_decide_eq_true hl_
  split at hg
  case h_2 => cases hg
  rename_i e1_
  split at hg
  case h_2 => cases hg
  rename_i z0 e5_
  split at hg
  case h_2 => cases hg
  rename_i e6_
  split at hg
  case h_2 => cases hg
  rename_i z2 e7_
  split at hg
  case h_2 => cases hg
  rename_i z3 e8_
  split at hg
  case h_2 => cases hg
  rename_i eh_
  have hg := Option.some.inj hg
  have hc := congrArg Prod.fst hg
  have hg := congrArg Prod.snd hg
  dsimp only at hc hg
  subst hg
  obtain ⟨hc, hc1⟩ := Bool.and_eq_true_iff.mp hc
  have hc0 := hc
  exact al9 z0 z2 z3 ⟨hc0, hc1⟩ hl_ ((qH (T0 := (.any :: .nil :: .any :: .any :: .any :: .int .i64 z0 :: .ptr 0 0 :: .fl .f32 z2 :: .fl .f32 z3 :: (fE 354 []))) (fun i hi => by
    simp only [List.mem_cons, List.not_mem_nil, or_false] at hi
    rcases hi with rfl | rfl | rfl | rfl | rfl
    · exact e1_.trans rfl
    · exact e5_.trans rfl
    · exact e6_.trans rfl
    · exact e7_.trans rfl
    · exact e8_.trans rfl)).trans (by kernel_rfl)) eh_ hQ hi
noncomputable def wM : GsA := fun i => if i = 28 then some (tu1 af6) else none
theorem aC7 : (jL (codeOf Try.f3)).filter (fun p => (wM p.1).isSome) = [(28, jH, true)] := by kernel_rfl
theorem av7 : qA Try.prog wM (codeOf Try.f3) := by
  refine qJ _ fun p hp g hg => ?_
  have h : p ∈ (jL (codeOf Try.f3)).filter (fun p => (wM p.1).isSome) := List.mem_filter.2 ⟨hp, by rw [hg]; rfl⟩
  rw [aC7] at h
  simp only [List.mem_cons, List.not_mem_nil, or_false] at h
  rcases h with rfl
  · cases hg; exact yT av6
def sU (n5 : Int) (en : Nat) (a8 : Nat) (wn : Nat) (i23 : Int) (l1 : List (Nat × Nat)) : St := ⟨(.any :: .nil :: .any :: .any :: .any :: .int .i64 n5 :: .ptr 0 0 :: .fl .f32 en :: .fl .f32 a8 :: (fE 9 (.sl 1 0 wn :: .any :: .any :: .any :: .any :: .int .i64 i23 :: (fE 339 [])))), [.at true (.as 1 [.nil, .sl 2 0 1]), .at true (.cx .f32 l1), .at true (.fl .f32 [0])]⟩
abbrev aC8 : Option (List Nat × List Nat) := some ([1, 5, 6, 7, 8, 18, 23], [1, 4, 5, 6, 7, 8])
noncomputable def sV {R : Type} (N M : Nat) (s : St) (K : X → St → Option R) : Option R := pO 0 aC8 (fun st K => pU ty AC NQ wM N 0 (oD [true, true, true, true, true, true, true, true, true, true, true, true, true, false, true, false, false] Try.f3) st K) M s K
noncomputable def NR {R : Type} (N : Nat) (K : X → St → Option R) : X → St → Option R := rF 0 (adT AC NQ wM N 0 (oD [true, true, true, true, true, true, true, true, true, true, true, true, true, true] Try.f3) (K))
def sW (n5 : Int) (en : Nat) (a8 : Nat) : St := ⟨(.any :: .nil :: .any :: .any :: .bool false :: .int .i64 n5 :: .ptr 0 0 :: .fl .f32 en :: .fl .f32 a8 :: (fE 354 [])), [.at true (.as 1 [.nil, .sl 1 0 1]), .at true (.fl .f32 [0])]⟩
def LV (n5 : Int) (en : Nat) (a8 : Nat) : St := ⟨(.any :: .nil :: .any :: .any :: .any :: .int .i64 n5 :: .ptr 0 0 :: .fl .f32 en :: .fl .f32 a8 :: (fE 354 [])), [.at true (.as 1 [.nil, .sl 1 0 1]), .at true (.fl .f32 [0])]⟩
theorem aJH (N : Nat)  : uQ ty AC NQ wM N Try.f3 [.nil, .nil] []
    = (match qG 0 0 with | true => yD | false => (match atOk 0 [] 40 with | true => (match decide ((dn []) = 0) with | true => (match atOk 0 [] 41 with | true => (match isS (qC 1 (dE []) true [0]) with | true => (match isS (tZ 1 true [0]) with | true => (match isS (qC ((dV 1 true [0]).1) (dE []) true ((dV 1 true [0]).2)) with | true => (match isS (tZ ((dV 1 true [0]).1) true ((dV 1 true [0]).2)) with | true => (match isS (uV 1 (dE []) true [0]) with | true => (match isS (zN 1 (dE []) true [0]) with | true => (match !(yO 1 (dE []) true [0]) with | true => zD | false => (match isS (qB 1 true [0]) with | true => (match !(pJ 1 true [0]) with | true => zD | false => (match isS (KQ ((dV ((dV 1 true [0]).1) true ((dV 1 true [0]).2)).1) 1 true ((dV ((dV 1 true [0]).1) true ((dV 1 true [0]).2)).2) true [0]) with | true => (match !(BR ((dV ((dV 1 true [0]).1) true ((dV 1 true [0]).2)).1) 1 true ((dV ((dV 1 true [0]).1) true ((dV 1 true [0]).2)).2) true [0]) with | true => zD | false => (match (((fG 1 (dE []) true [0]).1 : Nat) : Int) != (IntKind.i64.wrap ((dn []) + 1)) with | true => zD | false => (match ltB ((eX 1 (dE []) true [0]).1) 0 with | true => zD | false => (match ltB ((eX 1 (dE []) true [0]).2) 0 with | true => zD | false => (match gtD (r8G (fop .add .f32 ((eX 1 (dE []) true [0]).1) ((eX 1 (dE []) true [0]).2)) 1065353216) 4562254508917369340 with | true => zD | false => (match gtD (r8G ((eX 1 (dE []) true [0]).1) ((eX ((dV 1 true [0]).1) (dE []) true ((dV 1 true [0]).2)).1)) 4562254508917369340 with | true => zD | false => (match gtD (r8G ((eX 1 (dE []) true [0]).2) ((eX ((dV 1 true [0]).1) (dE []) true ((dV 1 true [0]).2)).2)) 4562254508917369340 with | true => zD | false => (match (dn []) == 0 with | true => (match FloatKind.f32.format.order ((eX 1 (dE []) true [0]).1) 1065353216 != some .eq with | true => zD | false => (match pwB 0 0 with | true => (match pwB 1065353216 0 with | true => (match pwB 1065353216 0 with | true => (match fF .f32 (fop .add .f32 1065353216 (pwN 1065353216 0)) .f64 with | some c1 => (match gtD (r8G (pwN 0 0) (fop .mul .f32 ((eX 1 (dE []) true [0]).2) (pwN 1065353216 0))) (fop .mul .f64 4562254508917369340 c1) with | true => zD | false => sV N N (sU (dn []) (dE []) ((eX 1 (dE []) true [0]).1) ((fG 1 (dE []) true [0]).1) 0 ((fG 1 (dE []) true [0]).2)) (NR N (oM Try.f3 0))) | none => none) | false => none) | false => none) | false => none)) | false => (match pwB 0 0 with | true => (match pwB 1065353216 0 with | true => (match pwB 1065353216 0 with | true => (match fF .f32 (fop .add .f32 1065353216 (pwN 1065353216 0)) .f64 with | some c2 => (match gtD (r8G (pwN 0 0) (fop .mul .f32 ((eX 1 (dE []) true [0]).2) (pwN 1065353216 0))) (fop .mul .f64 4562254508917369340 c2) with | true => zD | false => sV N N (sU (dn []) (dE []) ((eX 1 (dE []) true [0]).1) ((fG 1 (dE []) true [0]).1) 0 ((fG 1 (dE []) true [0]).2)) (NR N (oM Try.f3 0))) | none => none) | false => none) | false => none) | false => none))))))))) | false => none)) | false => none)) | false => none) | false => none) | false => none) | false => none) | false => none) | false => none) | false => none) | false => none) | false => none)) := by
  kernel_rfl
theorem abM {R : Type} (N M : Nat) (K : X → St → Option R) (n5 : Int) (en : Nat) (a8 : Nat) (wn : Nat) (i23 : Int) (l1 : List (Nat × Nat)) : sV N (M + 1) (sU n5 en a8 wn i23 l1) K
    = (match decide ((i23 : Int) ≤ n5) with | true => (match decide (0 ≤ (i23 : Int) ∧ (i23 : Int) < 1) with | true => (match [0][0 + (i23).toNat * 1]? with | some e1 => (match decide (0 ≤ (i23 : Int) ∧ (i23 : Int) < ((wn : Nat) : Int)) with | true => (match l1[0 + (i23).toNat * 1]? with | some (e2, e3) => (match decide (0 ≤ (i23 : Int) ∧ (i23 : Int) < ((wn : Nat) : Int)) with | true => (match l1[0 + (i23).toNat * 1]? with | some (e4, e5) => (match ltB e1 en with | true => (match FloatKind.f32.format.order e5 0 != some .eq with | true => K .ret (sW n5 en a8) | false => (match gtD (r8G (fop .mul .f32 e2 e2) (fop .sub .f32 en e1)) 4562254508917369340 with | true => K .ret (sW n5 en a8) | false => (match gtB e1 en with | true => (match FloatKind.f32.format.order e2 0 != some .eq with | true => K .ret (sW n5 en a8) | false => (match gtD (r8G (fop .mul .f32 e5 e5) (fop .sub .f32 e1 en)) 4562254508917369340 with | true => K .ret (sW n5 en a8) | false => (match decide ((i23 : Int) > 0) with | true => none | false => sV N M (sU n5 en a8 wn (IntKind.i64.wrap (i23 + 1)) l1) K))) | false => (match decide ((i23 : Int) > 0) with | true => none | false => sV N M (sU n5 en a8 wn (IntKind.i64.wrap (i23 + 1)) l1) K)))) | false => (match gtB e1 en with | true => (match FloatKind.f32.format.order e2 0 != some .eq with | true => K .ret (sW n5 en a8) | false => (match gtD (r8G (fop .mul .f32 e5 e5) (fop .sub .f32 e1 en)) 4562254508917369340 with | true => K .ret (sW n5 en a8) | false => (match decide ((i23 : Int) > 0) with | true => none | false => sV N M (sU n5 en a8 wn (IntKind.i64.wrap (i23 + 1)) l1) K))) | false => (match decide ((i23 : Int) > 0) with | true => none | false => sV N M (sU n5 en a8 wn (IntKind.i64.wrap (i23 + 1)) l1) K))) | none => none) | false => none) | none => none) | false => none) | none => none) | false => none) | false => K (.exit 0) (LV n5 en a8)) := by
  kernel_rfl
theorem amA (N : Nat) (n5 : Int) (en : Nat) (a8 : Nat) : NR N (oM Try.f3 0) (.exit 0) (LV n5 en a8)
    = (match (atOk 0 [] 42) && (isS (qZ 1 2 (dq []) true [0] true [en, fop .add .f32 en 1073741824])) with | true => (match isS (KZ 1 en (e2W en) true [0]) with | true => (match (((fC 1 2 (dq []) true [0] true [en, fop .add .f32 en 1073741824]).1 : Nat) : Int) != 2 with | true => zD | false => (match decide (0 ≤ (0 : Int) ∧ (0 : Int) < (((fC 1 2 (dq []) true [0] true [en, fop .add .f32 en 1073741824]).1 : Nat) : Int)) with | true => (match ((fC 1 2 (dq []) true [0] true [en, fop .add .f32 en 1073741824]).2)[0]? with | some e1 => (match FloatKind.f32.format.order e1 a8 != some .eq with | true => zD | false => (match ltB ((lZ 1 en (e2W en) true [0]).2) a8 with | true => zD | false => (match decide (0 ≤ (1 : Int) ∧ (1 : Int) < (((fC 1 2 (dq []) true [0] true [en, fop .add .f32 en 1073741824]).1 : Nat) : Int)) with | true => (match ((fC 1 2 (dq []) true [0] true [en, fop .add .f32 en 1073741824]).2)[1]? with | some e2 => (match ltB ((lZ 1 en (e2W en) true [0]).2) e2 with | true => zD | false => (match ltB ((lZ 1 en (e2W en) true [0]).1) en with | true => zD | false => (match gtB ((lZ 1 en (e2W en) true [0]).1) (e2W en) with | true => zD | false => (match n5 == 0 with | true => yD | false => (match atOk 0 [] 43 with | true => none | false => none))))) | none => none) | false => none))) | none => none) | false => none)) | false => none) | false => none) := by
  kernel_rfl
end
end Go.Proofs.Ytpjoapgfdjfbdaa.Ab

/- What the proof names: lemmas and words, merged by a program from its parts. No condition. -/
import Derived.Test.YtpjoapgfdjfbdaaZ2
import Derived.Test.YtpjoapgfdjfbdaaZ4
namespace Go.Proofs.Ytpjoapgfdjfbdaa.Ab
set_option linter.unusedVariables false
set_option linter.unusedSimpArgs false
open Go
noncomputable section
def NJ : Ann := ⟨fun r => if r = 17 then some ([1, 5, 6, 7, 8, 18, 23], [1, 4, 5, 6, 7, 8]) else none, fun _ _ => .quiet⟩
noncomputable def zZ : Fns := gX [(4, aa7), (5, gAt), (6, rs0), (7, (gOr zO gSs)), (8, (gOr KP gTs)), (9, (gOr zM gWn)), (10, (gOr BO gWa)), (11, (gOr uD gVs)), (12, (gOr KU ao7)), (13, gT gG8), (14, agO), (16, (gOr LG gSh)), (17, (gOr LC gBt)), (18, ao6)]
theorem aK : ∀ f, FnT Try.prog f (zZ f) := (aC (k := 4) MZ (aC (k := 5) aiB (aC (k := 6) akY (aC (k := 7) (FnT.or zG zL) (aC (k := 8) (FnT.or NC ZO) (aC (k := 9) (FnT.or zF zJ) (aC (k := 10) (FnT.or BP JS) (aC (k := 11) (FnT.or tY nY) (aC (k := 12) (FnT.or ND ZP) (aC (k := 13) ZU (aC (k := 14) JR (aC (k := 16) (FnT.or NF ZT) (aC (k := 17) (FnT.or NE ZR) (aC (k := 18) ZN bJ))))))))))))))
noncomputable def jF : Array Oper := (yU (codeOf Try.f3) 28).getD #[]
def af4 (st : St) : Option (Bool × St) := (match decide (st.t.length = 363) with | true => (match nth st.t 1 with | .nil => (match nth st.t 5 with | .int .i64 z0 => (match nth st.t 6 with | .ptr 1 0 => (match nth st.t 7 with | .fl .f32 z2 => (match nth st.t 8 with | .fl .f32 z3 => (match st.h with | [.at z4 (.int .u8 z5), .at true (.as 1 [.nil, .sl 2 0 1]), .at true (.fl .f32 [0])] => some ((atOk 0 [] 42) && (isS (qZ 1 2 (dq []) true [0] true [z2, fop .add .f32 z2 1073741824])), ⟨(.any :: .nil :: .any :: .any :: .any :: .int .i64 z0 :: .ptr 1 0 :: .fl .f32 z2 :: .fl .f32 z3 :: (fE 20 (.sl 3 0 ((fC 1 2 (dq []) true [0] true [z2, fop .add .f32 z2 1073741824]).1) :: .bool true :: (fE 332 [])))), [.at z4 (.int .u8 z5), .at true (.as 1 [.nil, .sl 2 0 1]), .at true (.fl .f32 [0]), .at true (.fl .f32 ((fC 1 2 (dq []) true [0] true [z2, fop .add .f32 z2 1073741824]).2))]⟩) | _ => none) | _ => none) | _ => none) | _ => none) | _ => none) | _ => none) | false => none)
abbrev dZ := Int × Nat × Nat × Bool × List Int
abbrev aiI (z : dZ) : Int := z.1
abbrev jA (z : dZ) : Nat := z.2.1
abbrev aiJ (z : dZ) : Nat := z.2.2.1
abbrev aiK (z : dZ) : Bool := z.2.2.2.1
abbrev aiL (z : dZ) : List Int := z.2.2.2.2
def aJA (z : dZ) : List V := (.any :: .nil :: .any :: .any :: .any :: .int .i64 (aiI z) :: .ptr 1 0 :: .fl .f32 (jA z) :: .fl .f32 (aiJ z) :: (fE 354 []))
def aJB (z : dZ) : H := [.at (aiK z) (.int .u8 (aiL z)), .at true (.as 1 [.nil, .sl 2 0 1]), .at true (.fl .f32 [0])]
theorem fP : (jF[0]?).map iG = some (.load 27 (.tmp 6), some 256, none) := by kernel_rfl
theorem gZ : (jF[1]?).map iG = some (.move (.tmp 7), some 257, none) := by kernel_rfl
theorem jT : (jF[2]?).map iG = some (.move (.tmp 7), some 258, none) := by kernel_rfl
theorem jU : (jF[3]?).map iG = some (.binOp .add 29 (.tmp 258) (.const (.float .f32 1073741824)) 29, some 259, none) := by kernel_rfl
theorem oZ : (jF[4]?).map iG = some (.buildSlice 25 2 #[(0, .tmp 257), (1, .tmp 259)], some 260, none) := by kernel_rfl
theorem kZ : (jF[5]?).map iG = some (.move (.tmp 1), some 261, none) := by kernel_rfl
theorem lC : (jF[6]?).map iG = some (.call ⟨.value (.func 5), #[.tmp 261, .const (.int .i64 42), .const (.int .i64 8)], #[22, 2, 2]⟩, some 262, none) := by kernel_rfl
theorem lD : (jF[7]?).map iG = some (.binOp .add 2 (.const (.int .i64 1)) (.tmp 262) 2, some 263, none) := by kernel_rfl
theorem ap5 : (jF[8]?).map iG = some (.call ⟨.value (.func 16), #[.tmp 256, .tmp 260, .tmp 263], #[27, 25, 2]⟩, some 264, none) := by kernel_rfl
theorem ap6 : (jF[9]?).map iG = some (.move (.tmp 264), some 255, none) := by kernel_rfl
theorem UO : (jF[10]?).map iG = some (.extract (.tmp 255) 0, some 265, none) := by kernel_rfl
theorem DN : (jF[11]?).map iG = some (.extract (.tmp 255) 1, some 266, none) := by kernel_rfl
theorem UQ : (jF[12]?).map iG = some (.assign (.tmp 265), some 29, none) := by kernel_rfl
theorem alB : (jF[13]?).map iG = some (.assign (.tmp 266), some 30, none) := by kernel_rfl
def aN (z : dZ) : Nat → V
  | 0 => .g [.nil, .sl 2 0 1]
  | 1 => .fl .f32 (jA z)
  | 2 => .fl .f32 (jA z)
  | 3 => .fl .f32 (fop .add .f32 (jA z) 1073741824)
  | 4 => .sl 3 0 2
  | 5 => .nil
  | 6 => .int .i64 (atF [] 42 8)
  | 7 => .int .i64 (dq [])
  | 8 => .tup [.a (.sl 4 0 ((fC 1 2 (dq []) true [0] true [(jA z), fop .add .f32 (jA z) 1073741824]).1)), .a (.bool true)]
  | 9 => .tup [.a (.sl 4 0 ((fC 1 2 (dq []) true [0] true [(jA z), fop .add .f32 (jA z) 1073741824]).1)), .a (.bool true)]
  | 10 => .sl 4 0 ((fC 1 2 (dq []) true [0] true [(jA z), fop .add .f32 (jA z) 1073741824]).1)
  | 11 => .bool true
  | 12 => .sl 4 0 ((fC 1 2 (dq []) true [0] true [(jA z), fop .add .f32 (jA z) 1073741824]).1)
  | 13 => .bool true
  | _ => .any
def bY (z : dZ) (k : Nat) (l : List (Nat × V)) : List V := uJ l (uJ (an5 k [(0, 256), (1, 257), (2, 258), (3, 259), (4, 260), (5, 261), (6, 262), (7, 263), (8, 264), (9, 255), (10, 265), (11, 266), (12, 29), (13, 30)] (aN z)) (aJA z))
def bZ (z : dZ) : Prop := (atOk 0 [] 42) = true ∧ (isS (qZ 1 2 (dq []) true [0] true [(jA z), fop .add .f32 (jA z) 1073741824])) = true
abbrev dO (z : dZ) (m k : Nat) (t : List V) (h : H) : Prop := nO Try.prog jF (Q5 [1, 5, 6, 7, 8, 29, 30] 3 (⟨(.any :: .nil :: .any :: .any :: .any :: .int .i64 (aiI z) :: .ptr 1 0 :: .fl .f32 (jA z) :: .fl .f32 (aiJ z) :: (fE 20 (.sl 3 0 ((fC 1 2 (dq []) true [0] true [(jA z), fop .add .f32 (jA z) 1073741824]).1) :: .bool true :: (fE 332 [])))), [.at (aiK z) (.int .u8 (aiL z)), .at true (.as 1 [.nil, .sl 2 0 1]), .at true (.fl .f32 [0]), .at true (.fl .f32 ((fC 1 2 (dq []) true [0] true [(jA z), fop .add .f32 (jA z) 1073741824]).2))]⟩ : St)) m (uZ 14 k) t h
def avY (z : dZ) : Nat → B
  | 0 => .at true (.fl .f32 [(jA z), fop .add .f32 (jA z) 1073741824])
  | 1 => .at true (.fl .f32 ((fC 1 2 (dq []) true [0] true [(jA z), fop .add .f32 (jA z) 1073741824]).2))
  | _ => .gone
def cO (z : dZ) (l : List Nat) : H := aJB z ++ l.map (avY z)
theorem ap7 {z : dZ} (hc : bZ z) : dO z 0 16383 (bY z 16383 []) (cO z [0, 1]) := ⟨by kernel_rfl, [0, 1, 2, 4], by decide, by decide, by kernel_rfl, by kernel_rfl⟩
theorem abD {z : dZ} (hc : bZ z) : dO z 1 8191 (bY z 8191 []) (cO z [0, 1]) := bM (aA (v := aN z 13) aK alB (ap7 hc))
theorem abE {z : dZ} (hc : bZ z) : dO z 2 4095 (bY z 4095 []) (cO z [0, 1]) := bM (aA (v := aN z 12) aK UQ (abD hc))
theorem ap8 {z : dZ} (hc : bZ z) : dO z 2 6143 (bY z 6143 []) (cO z [0, 1]) := bM (aA (v := aN z 11) aK DN (abD hc))
theorem ap9 {z : dZ} (hc : bZ z) : dO z 3 2047 (bY z 2047 []) (cO z [0, 1]) := bF (aA (v := aN z 11) aK DN (abE hc)) (aA (v := aN z 12) aK UQ (ap8 hc))
theorem aqA {z : dZ} (hc : bZ z) : dO z 3 3071 (bY z 3071 []) (cO z [0, 1]) := bM (aA (v := aN z 10) aK UO (abE hc))
theorem aqB {z : dZ} (hc : bZ z) : dO z 4 1023 (bY z 1023 []) (cO z [0, 1]) := bF (aA (v := aN z 10) aK UO (ap9 hc)) (aA (v := aN z 11) aK DN (aqA hc))
theorem aqC {z : dZ} (hc : bZ z) : dO z 5 511 (bY z 511 []) (cO z [0, 1]) := bM (aA (v := aN z 9) aK ap6 (aqB hc))
theorem LK {z : dZ} (hc : bZ z) : dO z 6 255 (bY z 255 []) (cO z [0]) := bM (bK (v := aN z 8) aK ap5 hc.2 (aqC hc))
theorem DR {z : dZ} (hc : bZ z) : dO z 7 127 (bY z 127 []) (cO z [0]) := bM (aA (v := aN z 7) aK lD (LK hc))
theorem DT {z : dZ} (hc : bZ z) : dO z 8 63 (bY z 63 []) (cO z [0]) := bM (bK (v := aN z 6) aK lC hc.1 (DR hc))
theorem UR {z : dZ} (hc : bZ z) : dO z 9 31 (bY z 31 []) (cO z [0]) := bM (aA (v := aN z 5) aK kZ (DT hc))
theorem vN {z : dZ} (hc : bZ z) : dO z 7 239 (bY z 239 []) (cO z []) := bM (aA (v := aN z 4) aK oZ (LK hc))
theorem vO {z : dZ} (hc : bZ z) : dO z 8 111 (bY z 111 []) (cO z []) := bF (aA (v := aN z 4) aK oZ (DR hc)) (aA (v := aN z 7) aK lD (vN hc))
theorem vP {z : dZ} (hc : bZ z) : dO z 9 47 (bY z 47 []) (cO z []) := bF (aA (v := aN z 4) aK oZ (DT hc)) (bK (v := aN z 6) aK lC hc.1 (vO hc))
theorem DU {z : dZ} (hc : bZ z) : dO z 10 15 (bY z 15 []) (cO z []) := bF (aA (v := aN z 4) aK oZ (UR hc)) (aA (v := aN z 5) aK kZ (vP hc))
theorem vS {z : dZ} (hc : bZ z) : dO z 8 231 (bY z 231 []) (cO z []) := bM (aA (v := aN z 3) aK jU (vN hc))
theorem vT {z : dZ} (hc : bZ z) : dO z 9 103 (bY z 103 []) (cO z []) := bF (aA (v := aN z 3) aK jU (vO hc)) (aA (v := aN z 7) aK lD (vS hc))
theorem vU {z : dZ} (hc : bZ z) : dO z 10 39 (bY z 39 []) (cO z []) := bF (aA (v := aN z 3) aK jU (vP hc)) (bK (v := aN z 6) aK lC hc.1 (vT hc))
theorem DV {z : dZ} (hc : bZ z) : dO z 11 7 (bY z 7 []) (cO z []) := bF (aA (v := aN z 3) aK jU (DU hc)) (aA (v := aN z 5) aK kZ (vU hc))
theorem DW {z : dZ} (hc : bZ z) : dO z 9 227 (bY z 227 []) (cO z []) := bM (aA (v := aN z 2) aK jT (vS hc))
theorem DX {z : dZ} (hc : bZ z) : dO z 10 99 (bY z 99 []) (cO z []) := bF (aA (v := aN z 2) aK jT (vT hc)) (aA (v := aN z 7) aK lD (DW hc))
theorem DY {z : dZ} (hc : bZ z) : dO z 11 35 (bY z 35 []) (cO z []) := bF (aA (v := aN z 2) aK jT (vU hc)) (bK (v := aN z 6) aK lC hc.1 (DX hc))
theorem UT {z : dZ} (hc : bZ z) : dO z 12 3 (bY z 3 []) (cO z []) := bF (aA (v := aN z 2) aK jT (DV hc)) (aA (v := aN z 5) aK kZ (DY hc))
theorem DZ {z : dZ} (hc : bZ z) : dO z 8 237 (bY z 237 []) (cO z []) := bM (aA (v := aN z 1) aK gZ (vN hc))
theorem D5 {z : dZ} (hc : bZ z) : dO z 9 109 (bY z 109 []) (cO z []) := bF (aA (v := aN z 1) aK gZ (vO hc)) (aA (v := aN z 7) aK lD (DZ hc))
theorem D6 {z : dZ} (hc : bZ z) : dO z 10 45 (bY z 45 []) (cO z []) := bF (aA (v := aN z 1) aK gZ (vP hc)) (bK (v := aN z 6) aK lC hc.1 (D5 hc))
theorem UU {z : dZ} (hc : bZ z) : dO z 11 13 (bY z 13 []) (cO z []) := bF (aA (v := aN z 1) aK gZ (DU hc)) (aA (v := aN z 5) aK kZ (D6 hc))
theorem D7 {z : dZ} (hc : bZ z) : dO z 9 229 (bY z 229 []) (cO z []) := bF (aA (v := aN z 1) aK gZ (vS hc)) (aA (v := aN z 3) aK jU (DZ hc))
theorem D8 {z : dZ} (hc : bZ z) : dO z 10 101 (bY z 101 []) (cO z []) := bH (aA (v := aN z 1) aK gZ (vT hc)) (aA (v := aN z 3) aK jU (D5 hc)) (aA (v := aN z 7) aK lD (D7 hc))
theorem D9 {z : dZ} (hc : bZ z) : dO z 11 37 (bY z 37 []) (cO z []) := bH (aA (v := aN z 1) aK gZ (vU hc)) (aA (v := aN z 3) aK jU (D6 hc)) (bK (v := aN z 6) aK lC hc.1 (D8 hc))
theorem UV {z : dZ} (hc : bZ z) : dO z 12 5 (bY z 5 []) (cO z []) := bH (aA (v := aN z 1) aK gZ (DV hc)) (aA (v := aN z 3) aK jU (UU hc)) (aA (v := aN z 5) aK kZ (D9 hc))
theorem UW {z : dZ} (hc : bZ z) : dO z 10 225 (bY z 225 []) (cO z []) := bF (aA (v := aN z 1) aK gZ (DW hc)) (aA (v := aN z 2) aK jT (D7 hc))
theorem UX {z : dZ} (hc : bZ z) : dO z 11 97 (bY z 97 []) (cO z []) := bH (aA (v := aN z 1) aK gZ (DX hc)) (aA (v := aN z 2) aK jT (D8 hc)) (aA (v := aN z 7) aK lD (UW hc))
theorem UY {z : dZ} (hc : bZ z) : dO z 12 33 (bY z 33 []) (cO z []) := bH (aA (v := aN z 1) aK gZ (DY hc)) (aA (v := aN z 2) aK jT (D9 hc)) (bK (v := aN z 6) aK lC hc.1 (UX hc))
theorem alC {z : dZ} (hc : bZ z) : dO z 13 1 (bY z 1 []) (cO z []) := bH (aA (v := aN z 1) aK gZ (UT hc)) (aA (v := aN z 2) aK jT (UV hc)) (aA (v := aN z 5) aK kZ (UY hc))
theorem UZ {z : dZ} (hc : bZ z) : dO z 7 254 (bY z 254 []) (cO z [0]) := bM (aA (v := aN z 0) aK fP (LK hc))
theorem U1 {z : dZ} (hc : bZ z) : dO z 8 126 (bY z 126 []) (cO z [0]) := bF (aA (v := aN z 0) aK fP (DR hc)) (aA (v := aN z 7) aK lD (UZ hc))
theorem U2 {z : dZ} (hc : bZ z) : dO z 9 62 (bY z 62 []) (cO z [0]) := bF (aA (v := aN z 0) aK fP (DT hc)) (bK (v := aN z 6) aK lC hc.1 (U1 hc))
theorem alD {z : dZ} (hc : bZ z) : dO z 10 30 (bY z 30 []) (cO z [0]) := bF (aA (v := aN z 0) aK fP (UR hc)) (aA (v := aN z 5) aK kZ (U2 hc))
theorem EC {z : dZ} (hc : bZ z) : dO z 8 238 (bY z 238 []) (cO z []) := bF (aA (v := aN z 0) aK fP (vN hc)) (aA (v := aN z 4) aK oZ (UZ hc))
theorem ED {z : dZ} (hc : bZ z) : dO z 9 110 (bY z 110 []) (cO z []) := bH (aA (v := aN z 0) aK fP (vO hc)) (aA (v := aN z 4) aK oZ (U1 hc)) (aA (v := aN z 7) aK lD (EC hc))
theorem EE {z : dZ} (hc : bZ z) : dO z 10 46 (bY z 46 []) (cO z []) := bH (aA (v := aN z 0) aK fP (vP hc)) (aA (v := aN z 4) aK oZ (U2 hc)) (bK (v := aN z 6) aK lC hc.1 (ED hc))
theorem U3 {z : dZ} (hc : bZ z) : dO z 11 14 (bY z 14 []) (cO z []) := bH (aA (v := aN z 0) aK fP (DU hc)) (aA (v := aN z 4) aK oZ (alD hc)) (aA (v := aN z 5) aK kZ (EE hc))
theorem EF {z : dZ} (hc : bZ z) : dO z 9 230 (bY z 230 []) (cO z []) := bF (aA (v := aN z 0) aK fP (vS hc)) (aA (v := aN z 3) aK jU (EC hc))
theorem EG {z : dZ} (hc : bZ z) : dO z 10 102 (bY z 102 []) (cO z []) := bH (aA (v := aN z 0) aK fP (vT hc)) (aA (v := aN z 3) aK jU (ED hc)) (aA (v := aN z 7) aK lD (EF hc))
theorem EH {z : dZ} (hc : bZ z) : dO z 11 38 (bY z 38 []) (cO z []) := bH (aA (v := aN z 0) aK fP (vU hc)) (aA (v := aN z 3) aK jU (EE hc)) (bK (v := aN z 6) aK lC hc.1 (EG hc))
theorem U4 {z : dZ} (hc : bZ z) : dO z 12 6 (bY z 6 []) (cO z []) := bH (aA (v := aN z 0) aK fP (DV hc)) (aA (v := aN z 3) aK jU (U3 hc)) (aA (v := aN z 5) aK kZ (EH hc))
theorem U5 {z : dZ} (hc : bZ z) : dO z 10 226 (bY z 226 []) (cO z []) := bF (aA (v := aN z 0) aK fP (DW hc)) (aA (v := aN z 2) aK jT (EF hc))
theorem U6 {z : dZ} (hc : bZ z) : dO z 11 98 (bY z 98 []) (cO z []) := bH (aA (v := aN z 0) aK fP (DX hc)) (aA (v := aN z 2) aK jT (EG hc)) (aA (v := aN z 7) aK lD (U5 hc))
theorem U7 {z : dZ} (hc : bZ z) : dO z 12 34 (bY z 34 []) (cO z []) := bH (aA (v := aN z 0) aK fP (DY hc)) (aA (v := aN z 2) aK jT (EH hc)) (bK (v := aN z 6) aK lC hc.1 (U6 hc))
theorem alE {z : dZ} (hc : bZ z) : dO z 13 2 (bY z 2 []) (cO z []) := bH (aA (v := aN z 0) aK fP (UT hc)) (aA (v := aN z 2) aK jT (U4 hc)) (aA (v := aN z 5) aK kZ (U7 hc))
theorem U8 {z : dZ} (hc : bZ z) : dO z 9 236 (bY z 236 []) (cO z []) := bF (aA (v := aN z 0) aK fP (DZ hc)) (aA (v := aN z 1) aK gZ (EC hc))
theorem U9 {z : dZ} (hc : bZ z) : dO z 10 108 (bY z 108 []) (cO z []) := bH (aA (v := aN z 0) aK fP (D5 hc)) (aA (v := aN z 1) aK gZ (ED hc)) (aA (v := aN z 7) aK lD (U8 hc))
theorem VA {z : dZ} (hc : bZ z) : dO z 11 44 (bY z 44 []) (cO z []) := bH (aA (v := aN z 0) aK fP (D6 hc)) (aA (v := aN z 1) aK gZ (EE hc)) (bK (v := aN z 6) aK lC hc.1 (U9 hc))
theorem alF {z : dZ} (hc : bZ z) : dO z 12 12 (bY z 12 []) (cO z []) := bH (aA (v := aN z 0) aK fP (UU hc)) (aA (v := aN z 1) aK gZ (U3 hc)) (aA (v := aN z 5) aK kZ (VA hc))
theorem VB {z : dZ} (hc : bZ z) : dO z 10 228 (bY z 228 []) (cO z []) := bH (aA (v := aN z 0) aK fP (D7 hc)) (aA (v := aN z 1) aK gZ (EF hc)) (aA (v := aN z 3) aK jU (U8 hc))
theorem VC {z : dZ} (hc : bZ z) : dO z 11 100 (bY z 100 []) (cO z []) := iI (aA (v := aN z 0) aK fP (D8 hc)) (aA (v := aN z 1) aK gZ (EG hc)) (aA (v := aN z 3) aK jU (U9 hc)) (aA (v := aN z 7) aK lD (VB hc))
theorem VD {z : dZ} (hc : bZ z) : dO z 12 36 (bY z 36 []) (cO z []) := iI (aA (v := aN z 0) aK fP (D9 hc)) (aA (v := aN z 1) aK gZ (EH hc)) (aA (v := aN z 3) aK jU (VA hc)) (bK (v := aN z 6) aK lC hc.1 (VC hc))
theorem alG {z : dZ} (hc : bZ z) : dO z 13 4 (bY z 4 []) (cO z []) := iI (aA (v := aN z 0) aK fP (UV hc)) (aA (v := aN z 1) aK gZ (U4 hc)) (aA (v := aN z 3) aK jU (alF hc)) (aA (v := aN z 5) aK kZ (VD hc))
theorem alH {z : dZ} (hc : bZ z) : dO z 11 224 (bY z 224 []) (cO z []) := bH (aA (v := aN z 0) aK fP (UW hc)) (aA (v := aN z 1) aK gZ (U5 hc)) (aA (v := aN z 2) aK jT (VB hc))
theorem alI {z : dZ} (hc : bZ z) : dO z 12 96 (bY z 96 []) (cO z []) := iI (aA (v := aN z 0) aK fP (UX hc)) (aA (v := aN z 1) aK gZ (U6 hc)) (aA (v := aN z 2) aK jT (VC hc)) (aA (v := aN z 7) aK lD (alH hc))
theorem alJ {z : dZ} (hc : bZ z) : dO z 13 32 (bY z 32 []) (cO z []) := iI (aA (v := aN z 0) aK fP (UY hc)) (aA (v := aN z 1) aK gZ (U7 hc)) (aA (v := aN z 2) aK jT (VD hc)) (bK (v := aN z 6) aK lC hc.1 (alI hc))
theorem alK {z : dZ} (hc : bZ z) : dO z 14 0 (bY z 0 []) (cO z []) := iI (aA (v := aN z 0) aK fP (alC hc)) (aA (v := aN z 1) aK gZ (alE hc)) (aA (v := aN z 2) aK jT (alG hc)) (aA (v := aN z 5) aK kZ (alJ hc))
theorem alL (z0 : Int) (z2 : Nat) (z3 : Nat) (z4 : Bool) (z5 : List Int) (hc : bZ (z0, z2, z3, z4, z5)) {st : St} (hl : st.t.length = 363) (et : rG [1, 5, 6, 7, 8] 363 st.t = (.any :: .nil :: .any :: .any :: .any :: .int .i64 z0 :: .ptr 1 0 :: .fl .f32 z2 :: .fl .f32 z3 :: (fE 354 []))) (eh : st.h = [.at z4 (.int .u8 z5), .at true (.as 1 [.nil, .sl 2 0 1]), .at true (.fl .f32 [0])]) {μ0 : Mu} {h0 : H} {w0 : World} {Q : Exit → Act → World → Prop} (hQ : ∀ μ a w, Inv μ0 h0 w0 μ (⟨(.any :: .nil :: .any :: .any :: .any :: .int .i64 z0 :: .ptr 1 0 :: .fl .f32 z2 :: .fl .f32 z3 :: (fE 20 (.sl 3 0 ((fC 1 2 (dq []) true [0] true [z2, fop .add .f32 z2 1073741824]).1) :: .bool true :: (fE 332 [])))), [.at z4 (.int .u8 z5), .at true (.as 1 [.nil, .sl 2 0 1]), .at true (.fl .f32 [0]), .at true (.fl .f32 ((fC 1 2 (dq []) true [0] true [z2, fop .add .f32 z2 1073741824]).2))]⟩ : St) a w → Q .normal a w) {μ : Mu} {a : Act} {w : World} (hi : Inv μ0 h0 w0 μ st a w) : (Code.region 28 jF true).wp Try.prog Q a w :=
  told (L0 := uZ 14 0) (T0 := bY (z0, z2, z3, z4, z5) 0 []) (H0 := cO (z0, z2, z3, z4, z5) []) [1, 5, 6, 7, 8, 29, 30] mixed (by kernel_rfl : jF.size = 14) (by kernel_rfl) hl (et.trans (by kernel_rfl)) (eh.trans (by kernel_rfl)) rfl (alK hc) hQ hi
set_option maxRecDepth 100000 in
theorem avZ : vC Try.prog 28 jF true af4 := by
  intro μ0 h0 w0 st st' hg Q hQ μ a w hi
  unfold af4 at hg
  split at hg
  case h_2 => cases hg
  rename_i hl_
  have hl_ := of_decide_eq_true hl_
  split at hg
  case h_2 => cases hg
  rename_i e1_
  split at hg
  case h_2 => cases hg
  rename_i z0 e5_
  split at hg
  case h_2 => cases hg
  rename_i e6_
  split at hg
  case h_2 => cases hg
  rename_i z2 e7_
  split at hg
  case h_2 => cases hg
  rename_i z3 e8_
  split at hg
  case h_2 => cases hg
  rename_i z4 z5 eh_
  have hg := Option.some.inj hg
  have hc := congrArg Prod.fst hg
  have hg := congrArg Prod.snd hg
  dsimp only at hc hg
  subst hg
  obtain ⟨hc, hc1⟩ := Bool.and_eq_true_iff.mp hc
  have hc0 := hc
  exact alL z0 z2 z3 z4 z5 ⟨hc0, hc1⟩ hl_ ((qH (T0 := (.any :: .nil :: .any :: .any :: .any :: .int .i64 z0 :: .ptr 1 0 :: .fl .f32 z2 :: .fl .f32 z3 :: (fE 354 []))) (fun i hi => by
    simp only [List.mem_cons, List.not_mem_nil, or_false] at hi
    rcases hi with rfl | rfl | rfl | rfl | rfl
    · exact e1_.trans rfl
    · exact e5_.trans rfl
    · exact e6_.trans rfl
    · exact e7_.trans rfl
    · exact e8_.trans rfl)).trans (by kernel_rfl)) eh_ hQ hi
noncomputable def vV : GsA := fun i => if i = 28 then some (tu1 af4) else none
theorem aC3 : (jL (codeOf Try.f3)).filter (fun p => (vV p.1).isSome) = [(28, jF, true)] := by kernel_rfl
theorem av1 : qA Try.prog vV (codeOf Try.f3) := by
  refine qJ _ fun p hp g hg => ?_
  have h : p ∈ (jL (codeOf Try.f3)).filter (fun p => (vV p.1).isSome) := List.mem_filter.2 ⟨hp, by rw [hg]; rfl⟩
  rw [aC3] at h
  simp only [List.mem_cons, List.not_mem_nil, or_false] at h
  rcases h with rfl
  · cases hg; exact yT avZ
def sG (n5 : Int) (en : Nat) (a8 : Nat) (wn : Nat) (i23 : Int) (rw0 : Bool) (l0 : List Int) (l2 : List (Nat × Nat)) : St := ⟨(.any :: .nil :: .any :: .any :: .any :: .int .i64 n5 :: .ptr 1 0 :: .fl .f32 en :: .fl .f32 a8 :: (fE 9 (.sl 2 0 wn :: .any :: .any :: .any :: .any :: .int .i64 i23 :: (fE 339 [])))), [.at rw0 (.int .u8 l0), .at true (.as 1 [.nil, .sl 3 0 1]), .at true (.cx .f32 l2), .at true (.fl .f32 [0])]⟩
abbrev aC4 : Option (List Nat × List Nat) := some ([1, 5, 6, 7, 8, 18, 23], [1, 4, 5, 6, 7, 8])
noncomputable def sH {R : Type} (N M : Nat) (s : St) (K : X → St → Option R) : Option R := pO 1 aC4 (fun st K => pU ty zZ NJ vV N 1 (oD [true, true, true, true, true, true, true, true, true, true, true, true, true, false, true, false, false] Try.f3) st K) M s K
noncomputable def NK {R : Type} (N : Nat) (K : X → St → Option R) : X → St → Option R := rF 0 (adT zZ NJ vV N 1 (oD [true, true, true, true, true, true, true, true, true, true, true, true, true, true] Try.f3) (K))
def sJ (n5 : Int) (en : Nat) (a8 : Nat) (rw0 : Bool) (l0 : List Int) : St := ⟨(.any :: .nil :: .any :: .any :: .bool false :: .int .i64 n5 :: .ptr 1 0 :: .fl .f32 en :: .fl .f32 a8 :: (fE 354 [])), [.at rw0 (.int .u8 l0), .at true (.as 1 [.nil, .sl 2 0 1]), .at true (.fl .f32 [0])]⟩
def LM (n5 : Int) (en : Nat) (a8 : Nat) (rw0 : Bool) (l0 : List Int) : St := ⟨(.any :: .nil :: .any :: .any :: .any :: .int .i64 n5 :: .ptr 1 0 :: .fl .f32 en :: .fl .f32 a8 :: (fE 354 [])), [.at rw0 (.int .u8 l0), .at true (.as 1 [.nil, .sl 2 0 1]), .at true (.fl .f32 [0])]⟩
theorem aqD (N : Nat) (n : Nat) (r : Bool) (l : List Int) : uQ ty zZ NJ vV N Try.f3 [.sl 0 0 n, .nil] [.at r (.int .u8 l)]
    = (match qG n 0 with | true => yB r l | false => (match atOk 0 [] 40 with | true => (match decide (l.length = n ∧ n < 2147483648) with | true => (match decide ((dn []) = 0) with | true => (match atOk 0 [] 41 with | true => (match isS (qC 1 (dE []) true [0]) with | true => (match isS (tZ 1 true [0]) with | true => (match isS (qC ((dV 1 true [0]).1) (dE []) true ((dV 1 true [0]).2)) with | true => (match isS (tZ ((dV 1 true [0]).1) true ((dV 1 true [0]).2)) with | true => (match isS (uV 1 (dE []) true [0]) with | true => (match isS (zN 1 (dE []) true [0]) with | true => (match !(yO 1 (dE []) true [0]) with | true => zB r l | false => (match isS (qB 1 true [0]) with | true => (match !(pJ 1 true [0]) with | true => zB r l | false => (match isS (KQ ((dV ((dV 1 true [0]).1) true ((dV 1 true [0]).2)).1) 1 true ((dV ((dV 1 true [0]).1) true ((dV 1 true [0]).2)).2) true [0]) with | true => (match !(BR ((dV ((dV 1 true [0]).1) true ((dV 1 true [0]).2)).1) 1 true ((dV ((dV 1 true [0]).1) true ((dV 1 true [0]).2)).2) true [0]) with | true => zB r l | false => (match (((fG 1 (dE []) true [0]).1 : Nat) : Int) != (IntKind.i64.wrap ((dn []) + 1)) with | true => zB r l | false => (match ltB ((eX 1 (dE []) true [0]).1) 0 with | true => zB r l | false => (match ltB ((eX 1 (dE []) true [0]).2) 0 with | true => zB r l | false => (match gtD (r8G (fop .add .f32 ((eX 1 (dE []) true [0]).1) ((eX 1 (dE []) true [0]).2)) 1065353216) 4562254508917369340 with | true => zB r l | false => (match gtD (r8G ((eX 1 (dE []) true [0]).1) ((eX ((dV 1 true [0]).1) (dE []) true ((dV 1 true [0]).2)).1)) 4562254508917369340 with | true => zB r l | false => (match gtD (r8G ((eX 1 (dE []) true [0]).2) ((eX ((dV 1 true [0]).1) (dE []) true ((dV 1 true [0]).2)).2)) 4562254508917369340 with | true => zB r l | false => (match (dn []) == 0 with | true => (match FloatKind.f32.format.order ((eX 1 (dE []) true [0]).1) 1065353216 != some .eq with | true => zB r l | false => (match pwB 0 0 with | true => (match pwB 1065353216 0 with | true => (match pwB 1065353216 0 with | true => (match fF .f32 (fop .add .f32 1065353216 (pwN 1065353216 0)) .f64 with | some c1 => (match gtD (r8G (pwN 0 0) (fop .mul .f32 ((eX 1 (dE []) true [0]).2) (pwN 1065353216 0))) (fop .mul .f64 4562254508917369340 c1) with | true => zB r l | false => sH N N (sG (dn []) (dE []) ((eX 1 (dE []) true [0]).1) ((fG 1 (dE []) true [0]).1) 0 r l ((fG 1 (dE []) true [0]).2)) (NK N (oM Try.f3 1))) | none => none) | false => none) | false => none) | false => none)) | false => (match pwB 0 0 with | true => (match pwB 1065353216 0 with | true => (match pwB 1065353216 0 with | true => (match fF .f32 (fop .add .f32 1065353216 (pwN 1065353216 0)) .f64 with | some c2 => (match gtD (r8G (pwN 0 0) (fop .mul .f32 ((eX 1 (dE []) true [0]).2) (pwN 1065353216 0))) (fop .mul .f64 4562254508917369340 c2) with | true => zB r l | false => sH N N (sG (dn []) (dE []) ((eX 1 (dE []) true [0]).1) ((fG 1 (dE []) true [0]).1) 0 r l ((fG 1 (dE []) true [0]).2)) (NK N (oM Try.f3 1))) | none => none) | false => none) | false => none) | false => none))))))))) | false => none)) | false => none)) | false => none) | false => none) | false => none) | false => none) | false => none) | false => none) | false => none) | false => none) | false => none) | false => none)) := by
  kernel_rfl
theorem abG {R : Type} (N M : Nat) (K : X → St → Option R) (n5 : Int) (en : Nat) (a8 : Nat) (wn : Nat) (i23 : Int) (rw0 : Bool) (l0 : List Int) (l2 : List (Nat × Nat)) : sH N (M + 1) (sG n5 en a8 wn i23 rw0 l0 l2) K
    = (match decide ((i23 : Int) ≤ n5) with | true => (match decide (0 ≤ (i23 : Int) ∧ (i23 : Int) < 1) with | true => (match [0][0 + (i23).toNat * 1]? with | some e1 => (match decide (0 ≤ (i23 : Int) ∧ (i23 : Int) < ((wn : Nat) : Int)) with | true => (match l2[0 + (i23).toNat * 1]? with | some (e2, e3) => (match decide (0 ≤ (i23 : Int) ∧ (i23 : Int) < ((wn : Nat) : Int)) with | true => (match l2[0 + (i23).toNat * 1]? with | some (e4, e5) => (match ltB e1 en with | true => (match FloatKind.f32.format.order e5 0 != some .eq with | true => K .ret (sJ n5 en a8 rw0 l0) | false => (match gtD (r8G (fop .mul .f32 e2 e2) (fop .sub .f32 en e1)) 4562254508917369340 with | true => K .ret (sJ n5 en a8 rw0 l0) | false => (match gtB e1 en with | true => (match FloatKind.f32.format.order e2 0 != some .eq with | true => K .ret (sJ n5 en a8 rw0 l0) | false => (match gtD (r8G (fop .mul .f32 e5 e5) (fop .sub .f32 e1 en)) 4562254508917369340 with | true => K .ret (sJ n5 en a8 rw0 l0) | false => (match decide ((i23 : Int) > 0) with | true => none | false => sH N M (sG n5 en a8 wn (IntKind.i64.wrap (i23 + 1)) rw0 l0 l2) K))) | false => (match decide ((i23 : Int) > 0) with | true => none | false => sH N M (sG n5 en a8 wn (IntKind.i64.wrap (i23 + 1)) rw0 l0 l2) K)))) | false => (match gtB e1 en with | true => (match FloatKind.f32.format.order e2 0 != some .eq with | true => K .ret (sJ n5 en a8 rw0 l0) | false => (match gtD (r8G (fop .mul .f32 e5 e5) (fop .sub .f32 e1 en)) 4562254508917369340 with | true => K .ret (sJ n5 en a8 rw0 l0) | false => (match decide ((i23 : Int) > 0) with | true => none | false => sH N M (sG n5 en a8 wn (IntKind.i64.wrap (i23 + 1)) rw0 l0 l2) K))) | false => (match decide ((i23 : Int) > 0) with | true => none | false => sH N M (sG n5 en a8 wn (IntKind.i64.wrap (i23 + 1)) rw0 l0 l2) K))) | none => none) | false => none) | none => none) | false => none) | none => none) | false => none) | false => K (.exit 0) (LM n5 en a8 rw0 l0)) := by
  kernel_rfl
theorem alM (N : Nat) (n5 : Int) (en : Nat) (a8 : Nat) (rw0 : Bool) (l0 : List Int) : NK N (oM Try.f3 1) (.exit 0) (LM n5 en a8 rw0 l0)
    = (match (atOk 0 [] 42) && (isS (qZ 1 2 (dq []) true [0] true [en, fop .add .f32 en 1073741824])) with | true => (match isS (KZ 1 en (e2W en) true [0]) with | true => (match (((fC 1 2 (dq []) true [0] true [en, fop .add .f32 en 1073741824]).1 : Nat) : Int) != 2 with | true => zB rw0 l0 | false => (match decide (0 ≤ (0 : Int) ∧ (0 : Int) < (((fC 1 2 (dq []) true [0] true [en, fop .add .f32 en 1073741824]).1 : Nat) : Int)) with | true => (match ((fC 1 2 (dq []) true [0] true [en, fop .add .f32 en 1073741824]).2)[0]? with | some e1 => (match FloatKind.f32.format.order e1 a8 != some .eq with | true => zB rw0 l0 | false => (match ltB ((lZ 1 en (e2W en) true [0]).2) a8 with | true => zB rw0 l0 | false => (match decide (0 ≤ (1 : Int) ∧ (1 : Int) < (((fC 1 2 (dq []) true [0] true [en, fop .add .f32 en 1073741824]).1 : Nat) : Int)) with | true => (match ((fC 1 2 (dq []) true [0] true [en, fop .add .f32 en 1073741824]).2)[1]? with | some e2 => (match ltB ((lZ 1 en (e2W en) true [0]).2) e2 with | true => zB rw0 l0 | false => (match ltB ((lZ 1 en (e2W en) true [0]).1) en with | true => zB rw0 l0 | false => (match gtB ((lZ 1 en (e2W en) true [0]).1) (e2W en) with | true => zB rw0 l0 | false => (match n5 == 0 with | true => yB rw0 l0 | false => (match atOk 0 [] 43 with | true => none | false => none))))) | none => none) | false => none))) | none => none) | false => none)) | false => none) | false => none) := by
  kernel_rfl
end
end Go.Proofs.Ytpjoapgfdjfbdaa.Ab

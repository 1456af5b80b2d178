/- What the proof names: lemmas and words, merged by a program from its parts. No condition. -/
import Derived.Test.YtpjoapgfdjfbdaaZ2
import Derived.Test.YtpjoapgfdjfbdaaZ4
namespace Go.Proofs.Ytpjoapgfdjfbdaa.Ab
set_option linter.unusedVariables false
set_option linter.unusedSimpArgs false
open Go
noncomputable section
def NL : Ann := ⟨fun r => if r = 17 then some ([1, 5, 6, 7, 8, 18, 23], [1, 4, 5, 6, 7, 8]) else none, fun _ _ => .quiet⟩
noncomputable def AB : Fns := gX [(4, aa7), (5, gAt), (6, rs0), (7, (gOr zO gSs)), (8, (gOr KP gTs)), (9, (gOr zM gWn)), (10, (gOr BO gWa)), (11, (gOr uD gVs)), (12, (gOr KU ao7)), (13, gT gG8), (14, agO), (16, (gOr LG gSh)), (17, (gOr LC gBt)), (18, ao6)]
theorem aO : ∀ f, FnT Try.prog f (AB f) := (aC (k := 4) MZ (aC (k := 5) aiB (aC (k := 6) akY (aC (k := 7) (FnT.or zG zL) (aC (k := 8) (FnT.or NC ZO) (aC (k := 9) (FnT.or zF zJ) (aC (k := 10) (FnT.or BP JS) (aC (k := 11) (FnT.or tY nY) (aC (k := 12) (FnT.or ND ZP) (aC (k := 13) ZU (aC (k := 14) JR (aC (k := 16) (FnT.or NF ZT) (aC (k := 17) (FnT.or NE ZR) (aC (k := 18) ZN bJ))))))))))))))
noncomputable def jG : Array Oper := (yU (codeOf Try.f3) 28).getD #[]
def af5 (st : St) : Option (Bool × St) := (match decide (st.t.length = 363) with | true => (match nth st.t 1 with | .sl 0 0 z1 => (match nth st.t 5 with | .int .i64 z2 => (match nth st.t 6 with | .ptr 1 0 => (match nth st.t 7 with | .fl .f32 z4 => (match nth st.t 8 with | .fl .f32 z5 => (match st.h with | [.at z6 (.int .u8 z7), .at true (.as 1 [.nil, .sl 2 0 1]), .at true (.fl .f32 [0])] => some ((atOk z1 z7 42) && (isS (qZ 1 2 (IntKind.i64.wrap (1 + (atF z7 42 8))) true [0] true [z4, fop .add .f32 z4 1073741824])), ⟨(.any :: .sl 0 0 z1 :: .any :: .any :: .any :: .int .i64 z2 :: .ptr 1 0 :: .fl .f32 z4 :: .fl .f32 z5 :: (fE 20 (.sl 3 0 ((fC 1 2 (IntKind.i64.wrap (1 + (atF z7 42 8))) true [0] true [z4, fop .add .f32 z4 1073741824]).1) :: .bool true :: (fE 332 [])))), [.at z6 (.int .u8 z7), .at true (.as 1 [.nil, .sl 2 0 1]), .at true (.fl .f32 [0]), .at true (.fl .f32 ((fC 1 2 (IntKind.i64.wrap (1 + (atF z7 42 8))) true [0] true [z4, fop .add .f32 z4 1073741824]).2))]⟩) | _ => none) | _ => none) | _ => none) | _ => none) | _ => none) | _ => none) | false => none)
abbrev dY := Nat × Int × Nat × Nat × Bool × List Int
abbrev NM (z : dY) : Nat := z.1
abbrev aiM (z : dY) : Int := z.2.1
abbrev jB (z : dY) : Nat := z.2.2.1
abbrev aiN (z : dY) : Nat := z.2.2.2.1
abbrev aiO (z : dY) : Bool := z.2.2.2.2.1
abbrev nH (z : dY) : List Int := z.2.2.2.2.2
def aJC (z : dY) : List V := (.any :: .sl 0 0 (NM z) :: .any :: .any :: .any :: .int .i64 (aiM z) :: .ptr 1 0 :: .fl .f32 (jB z) :: .fl .f32 (aiN z) :: (fE 354 []))
def aJD (z : dY) : H := [.at (aiO z) (.int .u8 (nH z)), .at true (.as 1 [.nil, .sl 2 0 1]), .at true (.fl .f32 [0])]
theorem fQ : (jG[0]?).map iG = some (.load 27 (.tmp 6), some 256, none) := by kernel_rfl
theorem iC : (jG[1]?).map iG = some (.move (.tmp 7), some 257, none) := by kernel_rfl
theorem jV : (jG[2]?).map iG = some (.move (.tmp 7), some 258, none) := by kernel_rfl
theorem jW : (jG[3]?).map iG = some (.binOp .add 29 (.tmp 258) (.const (.float .f32 1073741824)) 29, some 259, none) := by kernel_rfl
theorem o5 : (jG[4]?).map iG = some (.buildSlice 25 2 #[(0, .tmp 257), (1, .tmp 259)], some 260, none) := by kernel_rfl
theorem lF : (jG[5]?).map iG = some (.move (.tmp 1), some 261, none) := by kernel_rfl
theorem lG : (jG[6]?).map iG = some (.call ⟨.value (.func 5), #[.tmp 261, .const (.int .i64 42), .const (.int .i64 8)], #[22, 2, 2]⟩, some 262, none) := by kernel_rfl
theorem lH : (jG[7]?).map iG = some (.binOp .add 2 (.const (.int .i64 1)) (.tmp 262) 2, some 263, none) := by kernel_rfl
theorem aqE : (jG[8]?).map iG = some (.call ⟨.value (.func 16), #[.tmp 256, .tmp 260, .tmp 263], #[27, 25, 2]⟩, some 264, none) := by kernel_rfl
theorem aqF : (jG[9]?).map iG = some (.move (.tmp 264), some 255, none) := by kernel_rfl
theorem VE : (jG[10]?).map iG = some (.extract (.tmp 255) 0, some 265, none) := by kernel_rfl
theorem EI : (jG[11]?).map iG = some (.extract (.tmp 255) 1, some 266, none) := by kernel_rfl
theorem VF : (jG[12]?).map iG = some (.assign (.tmp 265), some 29, none) := by kernel_rfl
theorem alN : (jG[13]?).map iG = some (.assign (.tmp 266), some 30, none) := by kernel_rfl
def aP (z : dY) : Nat → V
  | 0 => .g [.nil, .sl 2 0 1]
  | 1 => .fl .f32 (jB z)
  | 2 => .fl .f32 (jB z)
  | 3 => .fl .f32 (fop .add .f32 (jB z) 1073741824)
  | 4 => .sl 3 0 2
  | 5 => .sl 0 0 (NM z)
  | 6 => .int .i64 (atF (nH z) 42 8)
  | 7 => .int .i64 (IntKind.i64.wrap (1 + (atF (nH z) 42 8)))
  | 8 => .tup [.a (.sl 4 0 ((fC 1 2 (IntKind.i64.wrap (1 + (atF (nH z) 42 8))) true [0] true [(jB z), fop .add .f32 (jB z) 1073741824]).1)), .a (.bool true)]
  | 9 => .tup [.a (.sl 4 0 ((fC 1 2 (IntKind.i64.wrap (1 + (atF (nH z) 42 8))) true [0] true [(jB z), fop .add .f32 (jB z) 1073741824]).1)), .a (.bool true)]
  | 10 => .sl 4 0 ((fC 1 2 (IntKind.i64.wrap (1 + (atF (nH z) 42 8))) true [0] true [(jB z), fop .add .f32 (jB z) 1073741824]).1)
  | 11 => .bool true
  | 12 => .sl 4 0 ((fC 1 2 (IntKind.i64.wrap (1 + (atF (nH z) 42 8))) true [0] true [(jB z), fop .add .f32 (jB z) 1073741824]).1)
  | 13 => .bool true
  | _ => .any
def cZ (z : dY) (k : Nat) (l : List (Nat × V)) : List V := uJ l (uJ (an5 k [(0, 256), (1, 257), (2, 258), (3, 259), (4, 260), (5, 261), (6, 262), (7, 263), (8, 264), (9, 255), (10, 265), (11, 266), (12, 29), (13, 30)] (aP z)) (aJC z))
def dA (z : dY) : Prop := (atOk (NM z) (nH z) 42) = true ∧ (isS (qZ 1 2 (IntKind.i64.wrap (1 + (atF (nH z) 42 8))) true [0] true [(jB z), fop .add .f32 (jB z) 1073741824])) = true
abbrev dP (z : dY) (m k : Nat) (t : List V) (h : H) : Prop := nO Try.prog jG (Q5 [1, 5, 6, 7, 8, 29, 30] 3 (⟨(.any :: .sl 0 0 (NM z) :: .any :: .any :: .any :: .int .i64 (aiM z) :: .ptr 1 0 :: .fl .f32 (jB z) :: .fl .f32 (aiN z) :: (fE 20 (.sl 3 0 ((fC 1 2 (IntKind.i64.wrap (1 + (atF (nH z) 42 8))) true [0] true [(jB z), fop .add .f32 (jB z) 1073741824]).1) :: .bool true :: (fE 332 [])))), [.at (aiO z) (.int .u8 (nH z)), .at true (.as 1 [.nil, .sl 2 0 1]), .at true (.fl .f32 [0]), .at true (.fl .f32 ((fC 1 2 (IntKind.i64.wrap (1 + (atF (nH z) 42 8))) true [0] true [(jB z), fop .add .f32 (jB z) 1073741824]).2))]⟩ : St)) m (uZ 14 k) t h
def av2 (z : dY) : Nat → B
  | 0 => .at true (.fl .f32 [(jB z), fop .add .f32 (jB z) 1073741824])
  | 1 => .at true (.fl .f32 ((fC 1 2 (IntKind.i64.wrap (1 + (atF (nH z) 42 8))) true [0] true [(jB z), fop .add .f32 (jB z) 1073741824]).2))
  | _ => .gone
def dB (z : dY) (l : List Nat) : H := aJD z ++ l.map (av2 z)
theorem aqG {z : dY} (hc : dA z) : dP z 0 16383 (cZ z 16383 []) (dB z [0, 1]) := ⟨by kernel_rfl, [0, 1, 2, 4], by decide, by decide, by kernel_rfl, by kernel_rfl⟩
theorem abH {z : dY} (hc : dA z) : dP z 1 8191 (cZ z 8191 []) (dB z [0, 1]) := bM (aA (v := aP z 13) aO alN (aqG hc))
theorem abI {z : dY} (hc : dA z) : dP z 2 4095 (cZ z 4095 []) (dB z [0, 1]) := bM (aA (v := aP z 12) aO VF (abH hc))
theorem aqH {z : dY} (hc : dA z) : dP z 2 6143 (cZ z 6143 []) (dB z [0, 1]) := bM (aA (v := aP z 11) aO EI (abH hc))
theorem aqI {z : dY} (hc : dA z) : dP z 3 2047 (cZ z 2047 []) (dB z [0, 1]) := bF (aA (v := aP z 11) aO EI (abI hc)) (aA (v := aP z 12) aO VF (aqH hc))
theorem aqJ {z : dY} (hc : dA z) : dP z 3 3071 (cZ z 3071 []) (dB z [0, 1]) := bM (aA (v := aP z 10) aO VE (abI hc))
theorem aqK {z : dY} (hc : dA z) : dP z 4 1023 (cZ z 1023 []) (dB z [0, 1]) := bF (aA (v := aP z 10) aO VE (aqI hc)) (aA (v := aP z 11) aO EI (aqJ hc))
theorem aqL {z : dY} (hc : dA z) : dP z 5 511 (cZ z 511 []) (dB z [0, 1]) := bM (aA (v := aP z 9) aO aqF (aqK hc))
theorem LP {z : dY} (hc : dA z) : dP z 6 255 (cZ z 255 []) (dB z [0]) := bM (bK (v := aP z 8) aO aqE hc.2 (aqL hc))
theorem EJ {z : dY} (hc : dA z) : dP z 7 127 (cZ z 127 []) (dB z [0]) := bM (aA (v := aP z 7) aO lH (LP hc))
theorem EK {z : dY} (hc : dA z) : dP z 8 63 (cZ z 63 []) (dB z [0]) := bM (bK (v := aP z 6) aO lG hc.1 (EJ hc))
theorem VG {z : dY} (hc : dA z) : dP z 9 31 (cZ z 31 []) (dB z [0]) := bM (aA (v := aP z 5) aO lF (EK hc))
theorem vW {z : dY} (hc : dA z) : dP z 7 239 (cZ z 239 []) (dB z []) := bM (aA (v := aP z 4) aO o5 (LP hc))
theorem vX {z : dY} (hc : dA z) : dP z 8 111 (cZ z 111 []) (dB z []) := bF (aA (v := aP z 4) aO o5 (EJ hc)) (aA (v := aP z 7) aO lH (vW hc))
theorem vY {z : dY} (hc : dA z) : dP z 9 47 (cZ z 47 []) (dB z []) := bF (aA (v := aP z 4) aO o5 (EK hc)) (bK (v := aP z 6) aO lG hc.1 (vX hc))
theorem EL {z : dY} (hc : dA z) : dP z 10 15 (cZ z 15 []) (dB z []) := bF (aA (v := aP z 4) aO o5 (VG hc)) (aA (v := aP z 5) aO lF (vY hc))
theorem vZ {z : dY} (hc : dA z) : dP z 8 231 (cZ z 231 []) (dB z []) := bM (aA (v := aP z 3) aO jW (vW hc))
theorem wB {z : dY} (hc : dA z) : dP z 9 103 (cZ z 103 []) (dB z []) := bF (aA (v := aP z 3) aO jW (vX hc)) (aA (v := aP z 7) aO lH (vZ hc))
theorem wC {z : dY} (hc : dA z) : dP z 10 39 (cZ z 39 []) (dB z []) := bF (aA (v := aP z 3) aO jW (vY hc)) (bK (v := aP z 6) aO lG hc.1 (wB hc))
theorem EM {z : dY} (hc : dA z) : dP z 11 7 (cZ z 7 []) (dB z []) := bF (aA (v := aP z 3) aO jW (EL hc)) (aA (v := aP z 5) aO lF (wC hc))
theorem EN {z : dY} (hc : dA z) : dP z 9 227 (cZ z 227 []) (dB z []) := bM (aA (v := aP z 2) aO jV (vZ hc))
theorem EO {z : dY} (hc : dA z) : dP z 10 99 (cZ z 99 []) (dB z []) := bF (aA (v := aP z 2) aO jV (wB hc)) (aA (v := aP z 7) aO lH (EN hc))
theorem EP {z : dY} (hc : dA z) : dP z 11 35 (cZ z 35 []) (dB z []) := bF (aA (v := aP z 2) aO jV (wC hc)) (bK (v := aP z 6) aO lG hc.1 (EO hc))
theorem VH {z : dY} (hc : dA z) : dP z 12 3 (cZ z 3 []) (dB z []) := bF (aA (v := aP z 2) aO jV (EM hc)) (aA (v := aP z 5) aO lF (EP hc))
theorem EQ {z : dY} (hc : dA z) : dP z 8 237 (cZ z 237 []) (dB z []) := bM (aA (v := aP z 1) aO iC (vW hc))
theorem ER {z : dY} (hc : dA z) : dP z 9 109 (cZ z 109 []) (dB z []) := bF (aA (v := aP z 1) aO iC (vX hc)) (aA (v := aP z 7) aO lH (EQ hc))
theorem ES {z : dY} (hc : dA z) : dP z 10 45 (cZ z 45 []) (dB z []) := bF (aA (v := aP z 1) aO iC (vY hc)) (bK (v := aP z 6) aO lG hc.1 (ER hc))
theorem VI {z : dY} (hc : dA z) : dP z 11 13 (cZ z 13 []) (dB z []) := bF (aA (v := aP z 1) aO iC (EL hc)) (aA (v := aP z 5) aO lF (ES hc))
theorem ET {z : dY} (hc : dA z) : dP z 9 229 (cZ z 229 []) (dB z []) := bF (aA (v := aP z 1) aO iC (vZ hc)) (aA (v := aP z 3) aO jW (EQ hc))
theorem EU {z : dY} (hc : dA z) : dP z 10 101 (cZ z 101 []) (dB z []) := bH (aA (v := aP z 1) aO iC (wB hc)) (aA (v := aP z 3) aO jW (ER hc)) (aA (v := aP z 7) aO lH (ET hc))
theorem EW {z : dY} (hc : dA z) : dP z 11 37 (cZ z 37 []) (dB z []) := bH (aA (v := aP z 1) aO iC (wC hc)) (aA (v := aP z 3) aO jW (ES hc)) (bK (v := aP z 6) aO lG hc.1 (EU hc))
theorem VJ {z : dY} (hc : dA z) : dP z 12 5 (cZ z 5 []) (dB z []) := bH (aA (v := aP z 1) aO iC (EM hc)) (aA (v := aP z 3) aO jW (VI hc)) (aA (v := aP z 5) aO lF (EW hc))
theorem VK {z : dY} (hc : dA z) : dP z 10 225 (cZ z 225 []) (dB z []) := bF (aA (v := aP z 1) aO iC (EN hc)) (aA (v := aP z 2) aO jV (ET hc))
theorem VL {z : dY} (hc : dA z) : dP z 11 97 (cZ z 97 []) (dB z []) := bH (aA (v := aP z 1) aO iC (EO hc)) (aA (v := aP z 2) aO jV (EU hc)) (aA (v := aP z 7) aO lH (VK hc))
theorem VM {z : dY} (hc : dA z) : dP z 12 33 (cZ z 33 []) (dB z []) := bH (aA (v := aP z 1) aO iC (EP hc)) (aA (v := aP z 2) aO jV (EW hc)) (bK (v := aP z 6) aO lG hc.1 (VL hc))
theorem alO {z : dY} (hc : dA z) : dP z 13 1 (cZ z 1 []) (dB z []) := bH (aA (v := aP z 1) aO iC (VH hc)) (aA (v := aP z 2) aO jV (VJ hc)) (aA (v := aP z 5) aO lF (VM hc))
theorem VN {z : dY} (hc : dA z) : dP z 7 254 (cZ z 254 []) (dB z [0]) := bM (aA (v := aP z 0) aO fQ (LP hc))
theorem VO {z : dY} (hc : dA z) : dP z 8 126 (cZ z 126 []) (dB z [0]) := bF (aA (v := aP z 0) aO fQ (EJ hc)) (aA (v := aP z 7) aO lH (VN hc))
theorem VP {z : dY} (hc : dA z) : dP z 9 62 (cZ z 62 []) (dB z [0]) := bF (aA (v := aP z 0) aO fQ (EK hc)) (bK (v := aP z 6) aO lG hc.1 (VO hc))
theorem alP {z : dY} (hc : dA z) : dP z 10 30 (cZ z 30 []) (dB z [0]) := bF (aA (v := aP z 0) aO fQ (VG hc)) (aA (v := aP z 5) aO lF (VP hc))
theorem EX {z : dY} (hc : dA z) : dP z 8 238 (cZ z 238 []) (dB z []) := bF (aA (v := aP z 0) aO fQ (vW hc)) (aA (v := aP z 4) aO o5 (VN hc))
theorem EY {z : dY} (hc : dA z) : dP z 9 110 (cZ z 110 []) (dB z []) := bH (aA (v := aP z 0) aO fQ (vX hc)) (aA (v := aP z 4) aO o5 (VO hc)) (aA (v := aP z 7) aO lH (EX hc))
theorem EZ {z : dY} (hc : dA z) : dP z 10 46 (cZ z 46 []) (dB z []) := bH (aA (v := aP z 0) aO fQ (vY hc)) (aA (v := aP z 4) aO o5 (VP hc)) (bK (v := aP z 6) aO lG hc.1 (EY hc))
theorem VQ {z : dY} (hc : dA z) : dP z 11 14 (cZ z 14 []) (dB z []) := bH (aA (v := aP z 0) aO fQ (EL hc)) (aA (v := aP z 4) aO o5 (alP hc)) (aA (v := aP z 5) aO lF (EZ hc))
theorem E5 {z : dY} (hc : dA z) : dP z 9 230 (cZ z 230 []) (dB z []) := bF (aA (v := aP z 0) aO fQ (vZ hc)) (aA (v := aP z 3) aO jW (EX hc))
theorem E8 {z : dY} (hc : dA z) : dP z 10 102 (cZ z 102 []) (dB z []) := bH (aA (v := aP z 0) aO fQ (wB hc)) (aA (v := aP z 3) aO jW (EY hc)) (aA (v := aP z 7) aO lH (E5 hc))
theorem FB {z : dY} (hc : dA z) : dP z 11 38 (cZ z 38 []) (dB z []) := bH (aA (v := aP z 0) aO fQ (wC hc)) (aA (v := aP z 3) aO jW (EZ hc)) (bK (v := aP z 6) aO lG hc.1 (E8 hc))
theorem VR {z : dY} (hc : dA z) : dP z 12 6 (cZ z 6 []) (dB z []) := bH (aA (v := aP z 0) aO fQ (EM hc)) (aA (v := aP z 3) aO jW (VQ hc)) (aA (v := aP z 5) aO lF (FB hc))
theorem VS {z : dY} (hc : dA z) : dP z 10 226 (cZ z 226 []) (dB z []) := bF (aA (v := aP z 0) aO fQ (EN hc)) (aA (v := aP z 2) aO jV (E5 hc))
theorem VT {z : dY} (hc : dA z) : dP z 11 98 (cZ z 98 []) (dB z []) := bH (aA (v := aP z 0) aO fQ (EO hc)) (aA (v := aP z 2) aO jV (E8 hc)) (aA (v := aP z 7) aO lH (VS hc))
theorem VU {z : dY} (hc : dA z) : dP z 12 34 (cZ z 34 []) (dB z []) := bH (aA (v := aP z 0) aO fQ (EP hc)) (aA (v := aP z 2) aO jV (FB hc)) (bK (v := aP z 6) aO lG hc.1 (VT hc))
theorem alQ {z : dY} (hc : dA z) : dP z 13 2 (cZ z 2 []) (dB z []) := bH (aA (v := aP z 0) aO fQ (VH hc)) (aA (v := aP z 2) aO jV (VR hc)) (aA (v := aP z 5) aO lF (VU hc))
theorem VV {z : dY} (hc : dA z) : dP z 9 236 (cZ z 236 []) (dB z []) := bF (aA (v := aP z 0) aO fQ (EQ hc)) (aA (v := aP z 1) aO iC (EX hc))
theorem VW {z : dY} (hc : dA z) : dP z 10 108 (cZ z 108 []) (dB z []) := bH (aA (v := aP z 0) aO fQ (ER hc)) (aA (v := aP z 1) aO iC (EY hc)) (aA (v := aP z 7) aO lH (VV hc))
theorem VX {z : dY} (hc : dA z) : dP z 11 44 (cZ z 44 []) (dB z []) := bH (aA (v := aP z 0) aO fQ (ES hc)) (aA (v := aP z 1) aO iC (EZ hc)) (bK (v := aP z 6) aO lG hc.1 (VW hc))
theorem alR {z : dY} (hc : dA z) : dP z 12 12 (cZ z 12 []) (dB z []) := bH (aA (v := aP z 0) aO fQ (VI hc)) (aA (v := aP z 1) aO iC (VQ hc)) (aA (v := aP z 5) aO lF (VX hc))
theorem VY {z : dY} (hc : dA z) : dP z 10 228 (cZ z 228 []) (dB z []) := bH (aA (v := aP z 0) aO fQ (ET hc)) (aA (v := aP z 1) aO iC (E5 hc)) (aA (v := aP z 3) aO jW (VV hc))
theorem VZ {z : dY} (hc : dA z) : dP z 11 100 (cZ z 100 []) (dB z []) := iI (aA (v := aP z 0) aO fQ (EU hc)) (aA (v := aP z 1) aO iC (E8 hc)) (aA (v := aP z 3) aO jW (VW hc)) (aA (v := aP z 7) aO lH (VY hc))
theorem V3 {z : dY} (hc : dA z) : dP z 12 36 (cZ z 36 []) (dB z []) := iI (aA (v := aP z 0) aO fQ (EW hc)) (aA (v := aP z 1) aO iC (FB hc)) (aA (v := aP z 3) aO jW (VX hc)) (bK (v := aP z 6) aO lG hc.1 (VZ hc))
theorem alS {z : dY} (hc : dA z) : dP z 13 4 (cZ z 4 []) (dB z []) := iI (aA (v := aP z 0) aO fQ (VJ hc)) (aA (v := aP z 1) aO iC (VR hc)) (aA (v := aP z 3) aO jW (alR hc)) (aA (v := aP z 5) aO lF (V3 hc))
theorem alT {z : dY} (hc : dA z) : dP z 11 224 (cZ z 224 []) (dB z []) := bH (aA (v := aP z 0) aO fQ (VK hc)) (aA (v := aP z 1) aO iC (VS hc)) (aA (v := aP z 2) aO jV (VY hc))
theorem alU {z : dY} (hc : dA z) : dP z 12 96 (cZ z 96 []) (dB z []) := iI (aA (v := aP z 0) aO fQ (VL hc)) (aA (v := aP z 1) aO iC (VT hc)) (aA (v := aP z 2) aO jV (VZ hc)) (aA (v := aP z 7) aO lH (alT hc))
theorem alV {z : dY} (hc : dA z) : dP z 13 32 (cZ z 32 []) (dB z []) := iI (aA (v := aP z 0) aO fQ (VM hc)) (aA (v := aP z 1) aO iC (VU hc)) (aA (v := aP z 2) aO jV (V3 hc)) (bK (v := aP z 6) aO lG hc.1 (alU hc))
theorem alW {z : dY} (hc : dA z) : dP z 14 0 (cZ z 0 []) (dB z []) := iI (aA (v := aP z 0) aO fQ (alO hc)) (aA (v := aP z 1) aO iC (alQ hc)) (aA (v := aP z 2) aO jV (alS hc)) (aA (v := aP z 5) aO lF (alV hc))
theorem alX (z1 : Nat) (z2 : Int) (z4 : Nat) (z5 : Nat) (z6 : Bool) (z7 : List Int) (hc : dA (z1, z2, z4, z5, z6, z7)) {st : St} (hl : st.t.length = 363) (et : rG [1, 5, 6, 7, 8] 363 st.t = (.any :: .sl 0 0 z1 :: .any :: .any :: .any :: .int .i64 z2 :: .ptr 1 0 :: .fl .f32 z4 :: .fl .f32 z5 :: (fE 354 []))) (eh : st.h = [.at z6 (.int .u8 z7), .at true (.as 1 [.nil, .sl 2 0 1]), .at true (.fl .f32 [0])]) {μ0 : Mu} {h0 : H} {w0 : World} {Q : Exit → Act → World → Prop} (hQ : ∀ μ a w, Inv μ0 h0 w0 μ (⟨(.any :: .sl 0 0 z1 :: .any :: .any :: .any :: .int .i64 z2 :: .ptr 1 0 :: .fl .f32 z4 :: .fl .f32 z5 :: (fE 20 (.sl 3 0 ((fC 1 2 (IntKind.i64.wrap (1 + (atF z7 42 8))) true [0] true [z4, fop .add .f32 z4 1073741824]).1) :: .bool true :: (fE 332 [])))), [.at z6 (.int .u8 z7), .at true (.as 1 [.nil, .sl 2 0 1]), .at true (.fl .f32 [0]), .at true (.fl .f32 ((fC 1 2 (IntKind.i64.wrap (1 + (atF z7 42 8))) true [0] true [z4, fop .add .f32 z4 1073741824]).2))]⟩ : St) a w → Q .normal a w) {μ : Mu} {a : Act} {w : World} (hi : Inv μ0 h0 w0 μ st a w) : (Code.region 28 jG true).wp Try.prog Q a w :=
  told (L0 := uZ 14 0) (T0 := cZ (z1, z2, z4, z5, z6, z7) 0 []) (H0 := dB (z1, z2, z4, z5, z6, z7) []) [1, 5, 6, 7, 8, 29, 30] mixed (by kernel_rfl : jG.size = 14) (by kernel_rfl) hl (et.trans (by kernel_rfl)) (eh.trans (by kernel_rfl)) rfl (alW hc) hQ hi
set_option maxRecDepth 100000 in
theorem av3 : vC Try.prog 28 jG true af5 := by
  intro μ0 h0 w0 st st' hg Q hQ μ a w hi
  unfold af5 at hg
  split at hg
  case h_2 => cases hg
  rename_i hl_
  have hl_ := of_decide_eq_true hl_
  split at hg
  case h_2 => cases hg
  rename_i z1 e1_
  split at hg
  case h_2 => cases hg
  rename_i z2 e5_
  split at hg
  case h_2 => cases hg
  rename_i e6_
  split at hg
  case h_2 => cases hg
  rename_i z4 e7_
  split at hg
  case h_2 => cases hg
  rename_i z5 e8_
  split at hg
  case h_2 => cases hg
  rename_i z6 z7 eh_
  have hg := Option.some.inj hg
  have hc := congrArg Prod.fst hg
  have hg := congrArg Prod.snd hg
  dsimp only at hc hg
  subst hg
  obtain ⟨hc, hc1⟩ := Bool.and_eq_true_iff.mp hc
  have hc0 := hc
  exact alX z1 z2 z4 z5 z6 z7 ⟨hc0, hc1⟩ hl_ ((qH (T0 := (.any :: .sl 0 0 z1 :: .any :: .any :: .any :: .int .i64 z2 :: .ptr 1 0 :: .fl .f32 z4 :: .fl .f32 z5 :: (fE 354 []))) (fun i hi => by
    simp only [List.mem_cons, List.not_mem_nil, or_false] at hi
    rcases hi with rfl | rfl | rfl | rfl | rfl
    · exact e1_.trans rfl
    · exact e5_.trans rfl
    · exact e6_.trans rfl
    · exact e7_.trans rfl
    · exact e8_.trans rfl)).trans (by kernel_rfl)) eh_ hQ hi
noncomputable def wE : GsA := fun i => if i = 28 then some (tu1 af5) else none
theorem aC5 : (jL (codeOf Try.f3)).filter (fun p => (wE p.1).isSome) = [(28, jG, true)] := by kernel_rfl
theorem av4 : qA Try.prog wE (codeOf Try.f3) := by
  refine qJ _ fun p hp g hg => ?_
  have h : p ∈ (jL (codeOf Try.f3)).filter (fun p => (wE p.1).isSome) := List.mem_filter.2 ⟨hp, by rw [hg]; rfl⟩
  rw [aC5] at h
  simp only [List.mem_cons, List.not_mem_nil, or_false] at h
  rcases h with rfl
  · cases hg; exact yT av3
def sK (mo : Nat) (n5 : Int) (en : Nat) (a8 : Nat) (wn : Nat) (i23 : Int) (rw0 : Bool) (l0 : List Int) (l2 : List (Nat × Nat)) : St := ⟨(.any :: .sl 0 0 mo :: .any :: .any :: .any :: .int .i64 n5 :: .ptr 1 0 :: .fl .f32 en :: .fl .f32 a8 :: (fE 9 (.sl 2 0 wn :: .any :: .any :: .any :: .any :: .int .i64 i23 :: (fE 339 [])))), [.at rw0 (.int .u8 l0), .at true (.as 1 [.nil, .sl 3 0 1]), .at true (.cx .f32 l2), .at true (.fl .f32 [0])]⟩
abbrev aC6 : Option (List Nat × List Nat) := some ([1, 5, 6, 7, 8, 18, 23], [1, 4, 5, 6, 7, 8])
noncomputable def sO {R : Type} (N M : Nat) (s : St) (K : X → St → Option R) : Option R := pO 1 aC6 (fun st K => pU ty AB NL wE N 1 (oD [true, true, true, true, true, true, true, true, true, true, true, true, true, false, true, false, false] Try.f3) st K) M s K
noncomputable def NP {R : Type} (N : Nat) (K : X → St → Option R) : X → St → Option R := rF 0 (adT AB NL wE N 1 (oD [true, true, true, true, true, true, true, true, true, true, true, true, true, true] Try.f3) (K))
def sQ (mo : Nat) (n5 : Int) (en : Nat) (a8 : Nat) (rw0 : Bool) (l0 : List Int) : St := ⟨(.any :: .sl 0 0 mo :: .any :: .any :: .bool false :: .int .i64 n5 :: .ptr 1 0 :: .fl .f32 en :: .fl .f32 a8 :: (fE 354 [])), [.at rw0 (.int .u8 l0), .at true (.as 1 [.nil, .sl 2 0 1]), .at true (.fl .f32 [0])]⟩
def LQ (mo : Nat) (n5 : Int) (en : Nat) (a8 : Nat) (rw0 : Bool) (l0 : List Int) : St := ⟨(.any :: .sl 0 0 mo :: .any :: .any :: .any :: .int .i64 n5 :: .ptr 1 0 :: .fl .f32 en :: .fl .f32 a8 :: (fE 354 [])), [.at rw0 (.int .u8 l0), .at true (.as 1 [.nil, .sl 2 0 1]), .at true (.fl .f32 [0])]⟩
theorem aJE (N : Nat) (m : Nat) (r : Bool) (l : List Int) : uQ ty AB NL wE N Try.f3 [.nil, .sl 0 0 m] [.at r (.int .u8 l)]
    = (match qG 0 m with | true => yB r l | false => (match atOk m l 40 with | true => (match decide ((dn l) = 0) with | true => (match atOk m l 41 with | true => (match isS (qC 1 (dE l) true [0]) with | true => (match isS (tZ 1 true [0]) with | true => (match isS (qC ((dV 1 true [0]).1) (dE l) true ((dV 1 true [0]).2)) with | true => (match isS (tZ ((dV 1 true [0]).1) true ((dV 1 true [0]).2)) with | true => (match isS (uV 1 (dE l) true [0]) with | true => (match isS (zN 1 (dE l) true [0]) with | true => (match !(yO 1 (dE l) true [0]) with | true => zB r l | false => (match isS (qB 1 true [0]) with | true => (match !(pJ 1 true [0]) with | true => zB r l | false => (match isS (KQ ((dV ((dV 1 true [0]).1) true ((dV 1 true [0]).2)).1) 1 true ((dV ((dV 1 true [0]).1) true ((dV 1 true [0]).2)).2) true [0]) with | true => (match !(BR ((dV ((dV 1 true [0]).1) true ((dV 1 true [0]).2)).1) 1 true ((dV ((dV 1 true [0]).1) true ((dV 1 true [0]).2)).2) true [0]) with | true => zB r l | false => (match (((fG 1 (dE l) true [0]).1 : Nat) : Int) != (IntKind.i64.wrap ((dn l) + 1)) with | true => zB r l | false => (match ltB ((eX 1 (dE l) true [0]).1) 0 with | true => zB r l | false => (match ltB ((eX 1 (dE l) true [0]).2) 0 with | true => zB r l | false => (match gtD (r8G (fop .add .f32 ((eX 1 (dE l) true [0]).1) ((eX 1 (dE l) true [0]).2)) 1065353216) 4562254508917369340 with | true => zB r l | false => (match gtD (r8G ((eX 1 (dE l) true [0]).1) ((eX ((dV 1 true [0]).1) (dE l) true ((dV 1 true [0]).2)).1)) 4562254508917369340 with | true => zB r l | false => (match gtD (r8G ((eX 1 (dE l) true [0]).2) ((eX ((dV 1 true [0]).1) (dE l) true ((dV 1 true [0]).2)).2)) 4562254508917369340 with | true => zB r l | false => (match (dn l) == 0 with | true => (match FloatKind.f32.format.order ((eX 1 (dE l) true [0]).1) 1065353216 != some .eq with | true => zB r l | false => (match pwB 0 0 with | true => (match pwB 1065353216 0 with | true => (match pwB 1065353216 0 with | true => (match fF .f32 (fop .add .f32 1065353216 (pwN 1065353216 0)) .f64 with | some c1 => (match gtD (r8G (pwN 0 0) (fop .mul .f32 ((eX 1 (dE l) true [0]).2) (pwN 1065353216 0))) (fop .mul .f64 4562254508917369340 c1) with | true => zB r l | false => sO N N (sK m (dn l) (dE l) ((eX 1 (dE l) true [0]).1) ((fG 1 (dE l) true [0]).1) 0 r l ((fG 1 (dE l) true [0]).2)) (NP N (oM Try.f3 1))) | none => none) | false => none) | false => none) | false => none)) | false => (match pwB 0 0 with | true => (match pwB 1065353216 0 with | true => (match pwB 1065353216 0 with | true => (match fF .f32 (fop .add .f32 1065353216 (pwN 1065353216 0)) .f64 with | some c2 => (match gtD (r8G (pwN 0 0) (fop .mul .f32 ((eX 1 (dE l) true [0]).2) (pwN 1065353216 0))) (fop .mul .f64 4562254508917369340 c2) with | true => zB r l | false => sO N N (sK m (dn l) (dE l) ((eX 1 (dE l) true [0]).1) ((fG 1 (dE l) true [0]).1) 0 r l ((fG 1 (dE l) true [0]).2)) (NP N (oM Try.f3 1))) | none => none) | false => none) | false => none) | false => none))))))))) | false => none)) | false => none)) | false => none) | false => none) | false => none) | false => none) | false => none) | false => none) | false => none) | false => none) | false => none)) := by
  kernel_rfl
theorem abJ {R : Type} (N M : Nat) (K : X → St → Option R) (mo : Nat) (n5 : Int) (en : Nat) (a8 : Nat) (wn : Nat) (i23 : Int) (rw0 : Bool) (l0 : List Int) (l2 : List (Nat × Nat)) : sO N (M + 1) (sK mo n5 en a8 wn i23 rw0 l0 l2) K
    = (match decide ((i23 : Int) ≤ n5) with | true => (match decide (0 ≤ (i23 : Int) ∧ (i23 : Int) < 1) with | true => (match [0][0 + (i23).toNat * 1]? with | some e1 => (match decide (0 ≤ (i23 : Int) ∧ (i23 : Int) < ((wn : Nat) : Int)) with | true => (match l2[0 + (i23).toNat * 1]? with | some (e2, e3) => (match decide (0 ≤ (i23 : Int) ∧ (i23 : Int) < ((wn : Nat) : Int)) with | true => (match l2[0 + (i23).toNat * 1]? with | some (e4, e5) => (match ltB e1 en with | true => (match FloatKind.f32.format.order e5 0 != some .eq with | true => K .ret (sQ mo n5 en a8 rw0 l0) | false => (match gtD (r8G (fop .mul .f32 e2 e2) (fop .sub .f32 en e1)) 4562254508917369340 with | true => K .ret (sQ mo n5 en a8 rw0 l0) | false => (match gtB e1 en with | true => (match FloatKind.f32.format.order e2 0 != some .eq with | true => K .ret (sQ mo n5 en a8 rw0 l0) | false => (match gtD (r8G (fop .mul .f32 e5 e5) (fop .sub .f32 e1 en)) 4562254508917369340 with | true => K .ret (sQ mo n5 en a8 rw0 l0) | false => (match decide ((i23 : Int) > 0) with | true => none | false => sO N M (sK mo n5 en a8 wn (IntKind.i64.wrap (i23 + 1)) rw0 l0 l2) K))) | false => (match decide ((i23 : Int) > 0) with | true => none | false => sO N M (sK mo n5 en a8 wn (IntKind.i64.wrap (i23 + 1)) rw0 l0 l2) K)))) | false => (match gtB e1 en with | true => (match FloatKind.f32.format.order e2 0 != some .eq with | true => K .ret (sQ mo n5 en a8 rw0 l0) | false => (match gtD (r8G (fop .mul .f32 e5 e5) (fop .sub .f32 e1 en)) 4562254508917369340 with | true => K .ret (sQ mo n5 en a8 rw0 l0) | false => (match decide ((i23 : Int) > 0) with | true => none | false => sO N M (sK mo n5 en a8 wn (IntKind.i64.wrap (i23 + 1)) rw0 l0 l2) K))) | false => (match decide ((i23 : Int) > 0) with | true => none | false => sO N M (sK mo n5 en a8 wn (IntKind.i64.wrap (i23 + 1)) rw0 l0 l2) K))) | none => none) | false => none) | none => none) | false => none) | none => none) | false => none) | false => K (.exit 0) (LQ mo n5 en a8 rw0 l0)) := by
  kernel_rfl
theorem alY (N : Nat) (mo : Nat) (n5 : Int) (en : Nat) (a8 : Nat) (rw0 : Bool) (l0 : List Int) : NP N (oM Try.f3 1) (.exit 0) (LQ mo n5 en a8 rw0 l0)
    = (match (atOk mo l0 42) && (isS (qZ 1 2 (dq l0) true [0] true [en, fop .add .f32 en 1073741824])) with | true => (match isS (KZ 1 en (e2W en) true [0]) with | true => (match (((fC 1 2 (dq l0) true [0] true [en, fop .add .f32 en 1073741824]).1 : Nat) : Int) != 2 with | true => zB rw0 l0 | false => (match decide (0 ≤ (0 : Int) ∧ (0 : Int) < (((fC 1 2 (dq l0) true [0] true [en, fop .add .f32 en 1073741824]).1 : Nat) : Int)) with | true => (match ((fC 1 2 (dq l0) true [0] true [en, fop .add .f32 en 1073741824]).2)[0]? with | some e1 => (match FloatKind.f32.format.order e1 a8 != some .eq with | true => zB rw0 l0 | false => (match ltB ((lZ 1 en (e2W en) true [0]).2) a8 with | true => zB rw0 l0 | false => (match decide (0 ≤ (1 : Int) ∧ (1 : Int) < (((fC 1 2 (dq l0) true [0] true [en, fop .add .f32 en 1073741824]).1 : Nat) : Int)) with | true => (match ((fC 1 2 (dq l0) true [0] true [en, fop .add .f32 en 1073741824]).2)[1]? with | some e2 => (match ltB ((lZ 1 en (e2W en) true [0]).2) e2 with | true => zB rw0 l0 | false => (match ltB ((lZ 1 en (e2W en) true [0]).1) en with | true => zB rw0 l0 | false => (match gtB ((lZ 1 en (e2W en) true [0]).1) (e2W en) with | true => zB rw0 l0 | false => (match n5 == 0 with | true => yB rw0 l0 | false => (match atOk mo l0 43 with | true => none | false => none))))) | none => none) | false => none))) | none => none) | false => none)) | false => none) | false => none) := by
  kernel_rfl
end
end Go.Proofs.Ytpjoapgfdjfbdaa.Ab

/- What the proof names: lemmas and words, merged by a program from its parts. No condition. -/
import Derived.Test.YtpjoapgfdjfbdaaZ3
namespace Go.Proofs.Ytpjoapgfdjfbdaa.Ab
set_option linter.unusedVariables false
set_option linter.unusedSimpArgs false
open Go
def akC : Ann := ⟨fun r => if r = 6 then some ([6, 8, 9, 84, 85, 86], [6, 9]) else none, fun _ _ => .quiet⟩
noncomputable def acT : Fns := gX [(11, gVs), (25, gT (gF1 iH)), (45, gSN), (22, aoR), (61, aV6), (24, aeI)]
theorem aB : ∀ f, FnT Try.prog f (acT f) := (aC (k := 11) nY (aC (k := 25) uI (aC (k := 45) zI (aC (k := 22) MS (aC (k := 61) aO6 (aC (k := 24) aeJ bJ))))))
noncomputable def mD : Array Oper := (yU (codeOf Try.f46) 4).getD #[]
def asU (st : St) : Option (Bool × St) := (match decide (st.t.length = 103) with | true => (match nth st.t 3 with | .ptr 4 0 => (match nth st.t 4 with | .ptr 5 0 => (match nth st.t 6 with | .ptr 6 0 => (match nth st.t 8 with | .fl .f32 z3 => (match st.h with | [.at z4 (.fl .f32 z5), .at z6 (.fl .f32 z7), .at z8 (.fl .f32 z9), .at z10 (.fl .f32 z11), .at true (.as 1 [.sl 0 0 z13, .sl 1 0 z15]), .at true (.as 1 [.sl 2 0 z17, .sl 3 0 z19]), .at true (.as 1 [.nil, .nil])] => some ((decide (z5.length = z13 ∧ 1 ≤ z13 ∧ z13 < 2147483648)) && (decide (0 ≤ (1 : Int) ∧ (1 : Int) ≤ ((z19 : Nat) : Int) ∧ (((z19 : Nat) : Int) : Int) ≤ ((z19 : Nat) : Int))) && (decide (z7.length = z15 ∧ 1 + ((((z19 : Nat) : Int) - 1).toNat) ≤ z11.length ∧ 0 < z15 ∧ z15 < 1000 ∧ (((z19 : Nat) : Int) - 1).toNat < 1000)), ⟨(.any :: .any :: .any :: .any :: .ptr 5 0 :: .any :: .ptr 6 0 :: .any :: .fl .f32 z3 :: .ptr 7 0 :: (fE 93 [])), [.at z4 (.fl .f32 z5), .at z6 (.fl .f32 z7), .at z8 (.fl .f32 z9), .at z10 (.fl .f32 z11), .at true (.as 1 [.sl 0 0 z13, .sl 1 0 z15]), .at true (.as 1 [.sl 2 0 z17, .sl 3 0 z19]), .at true (.as 1 [.nil, .nil]), .at true (.as 1 [.sl 8 0 z13, .sl 9 0 (z15 + ((((z19 : Nat) : Int) - 1).toNat))]), .at true (.fl .f32 z5), .at true (.fl .f32 (z7 ++ (z11.drop 1).take ((((z19 : Nat) : Int) - 1).toNat)))]⟩) | _ => none) | _ => none) | _ => none) | _ => none) | _ => none) | false => none)
abbrev bG := Nat × Bool × List Nat × Bool × List Nat × Bool × List Nat × Bool × List Nat × Nat × Nat × Nat × Nat
abbrev ayJ (z : bG) : Nat := z.1
abbrev ayK (z : bG) : Bool := z.2.1
abbrev SH (z : bG) : List Nat := z.2.2.1
abbrev ayL (z : bG) : Bool := z.2.2.2.1
abbrev SI (z : bG) : List Nat := z.2.2.2.2.1
abbrev ayM (z : bG) : Bool := z.2.2.2.2.2.1
abbrev ayN (z : bG) : List Nat := z.2.2.2.2.2.2.1
abbrev ayO (z : bG) : Bool := z.2.2.2.2.2.2.2.1
abbrev SK (z : bG) : List Nat := z.2.2.2.2.2.2.2.2.1
abbrev eH (z : bG) : Nat := z.2.2.2.2.2.2.2.2.2.1
abbrev eY (z : bG) : Nat := z.2.2.2.2.2.2.2.2.2.2.1
abbrev aoU (z : bG) : Nat := z.2.2.2.2.2.2.2.2.2.2.2.1
abbrev eU (z : bG) : Nat := z.2.2.2.2.2.2.2.2.2.2.2.2
def aV7 (z : bG) : List V := (.any :: .any :: .any :: .ptr 4 0 :: .ptr 5 0 :: .any :: .ptr 6 0 :: .any :: .fl .f32 (ayJ z) :: (fE 94 []))
def aV8 (z : bG) : H := [.at (ayK z) (.fl .f32 (SH z)), .at (ayL z) (.fl .f32 (SI z)), .at (ayM z) (.fl .f32 (ayN z)), .at (ayO z) (.fl .f32 (SK z)), .at true (.as 1 [.sl 0 0 (eH z), .sl 1 0 (eY z)]), .at true (.as 1 [.sl 2 0 (aoU z), .sl 3 0 (eU z)]), .at true (.as 1 [.nil, .nil])]
theorem iM : (mD[0]?).map iG = some (.fieldAddr 27 (.tmp 3) 0, some 72, none) := by kernel_rfl
theorem iO : (mD[1]?).map iG = some (.load 25 (.tmp 72), some 73, none) := by kernel_rfl
theorem iP : (mD[2]?).map iG = some (.call ⟨.value (.func 22), #[.tmp 73], #[25]⟩, some 74, none) := by kernel_rfl
theorem gB : (mD[3]?).map iG = some (.fieldAddr 27 (.tmp 3) 1, some 75, none) := by kernel_rfl
theorem gG : (mD[4]?).map iG = some (.load 25 (.tmp 75), some 76, none) := by kernel_rfl
theorem iQ : (mD[5]?).map iG = some (.fieldAddr 27 (.tmp 4) 1, some 77, none) := by kernel_rfl
theorem iR : (mD[6]?).map iG = some (.load 25 (.tmp 77), some 78, none) := by kernel_rfl
theorem iU : (mD[7]?).map iG = some (.slice 25 (.tmp 78) (some (.const (.int .i64 1))) none none, some 79, none) := by kernel_rfl
theorem qV : (mD[8]?).map iG = some (.buildSlice 92 2 #[(0, .tmp 76), (1, .tmp 79)], some 80, none) := by kernel_rfl
theorem rY : (mD[9]?).map iG = some (.call ⟨.value (.func 61), #[.tmp 80], #[92]⟩, some 81, none) := by kernel_rfl
theorem oC : (mD[10]?).map iG = some (.build 27 #[(0, .tmp 74), (1, .tmp 81)], some 82, none) := by kernel_rfl
theorem eF : (mD[11]?).map iG = some (.alloc 27, some 9, none) := by kernel_rfl
theorem qM : (mD[12]?).map iG = some (.store 27 (.tmp 9) (.tmp 82), none, none) := by kernel_rfl
def aG (z : bG) : Nat → V
  | 0 => .ptr 4 0
  | 1 => .sl 0 0 (eH z)
  | 2 => .sl 7 0 (eH z)
  | 3 => .ptr 4 1
  | 4 => .sl 1 0 (eY z)
  | 5 => .ptr 5 1
  | 6 => .sl 3 0 (eU z)
  | 7 => .sl 3 1 (((((eU z) : Nat) : Int) - 1).toNat)
  | 8 => .sl 8 0 2
  | 9 => .sl 9 0 ((eY z) + (((((eU z) : Nat) : Int) - 1).toNat))
  | 10 => .g [.sl 7 0 (eH z), .sl 9 0 ((eY z) + (((((eU z) : Nat) : Int) - 1).toNat))]
  | 11 => .ptr 10 0
  | 12 => V.no
  | _ => .any
def aY (z : bG) (k : Nat) (l : List (Nat × V)) : List V := uJ l (uJ (an5 k [(0, 72), (1, 73), (2, 74), (3, 75), (4, 76), (5, 77), (6, 78), (7, 79), (8, 80), (9, 81), (10, 82), (11, 9)] (aG z)) (aV7 z))
def aZ (z : bG) : Prop := (decide ((SH z).length = (eH z) ∧ 1 ≤ (eH z) ∧ (eH z) < 2147483648)) = true ∧ (decide (0 ≤ (1 : Int) ∧ (1 : Int) ≤ (((eU z) : Nat) : Int) ∧ ((((eU z) : Nat) : Int) : Int) ≤ (((eU z) : Nat) : Int))) = true ∧ (decide ((SI z).length = (eY z) ∧ 1 + (((((eU z) : Nat) : Int) - 1).toNat) ≤ (SK z).length ∧ 0 < (eY z) ∧ (eY z) < 1000 ∧ ((((eU z) : Nat) : Int) - 1).toNat < 1000)) = true
abbrev bD (z : bG) (m k : Nat) (t : List V) (h : H) : Prop := nO Try.prog mD (Q5 [4, 6, 8, 9] 7 (⟨(.any :: .any :: .any :: .any :: .ptr 5 0 :: .any :: .ptr 6 0 :: .any :: .fl .f32 (ayJ z) :: .ptr 7 0 :: (fE 93 [])), [.at (ayK z) (.fl .f32 (SH z)), .at (ayL z) (.fl .f32 (SI z)), .at (ayM z) (.fl .f32 (ayN z)), .at (ayO z) (.fl .f32 (SK z)), .at true (.as 1 [.sl 0 0 (eH z), .sl 1 0 (eY z)]), .at true (.as 1 [.sl 2 0 (aoU z), .sl 3 0 (eU z)]), .at true (.as 1 [.nil, .nil]), .at true (.as 1 [.sl 8 0 (eH z), .sl 9 0 ((eY z) + (((((eU z) : Nat) : Int) - 1).toNat))]), .at true (.fl .f32 (SH z)), .at true (.fl .f32 ((SI z) ++ ((SK z).drop 1).take (((((eU z) : Nat) : Int) - 1).toNat)))]⟩ : St)) m (uZ 13 k) t h
def aHM (z : bG) : Nat → B
  | 0 => .at true (.fl .f32 (SH z))
  | 1 => .at true (.as 1 [.sl 1 0 (eY z), .sl 3 1 (((((eU z) : Nat) : Int) - 1).toNat)])
  | 2 => .at true (.fl .f32 ((SI z) ++ ((SK z).drop 1).take (((((eU z) : Nat) : Int) - 1).toNat)))
  | 3 => .at true (.as 1 [.sl 7 0 (eH z), .sl 9 0 ((eY z) + (((((eU z) : Nat) : Int) - 1).toNat))])
  | 4 => .at true (.as 1 [.nil, .nil])
  | 5 => .at true (.as 1 [.sl 7 0 (eH z), .sl 10 0 ((eY z) + (((((eU z) : Nat) : Int) - 1).toNat))])
  | 6 => .at true (.as 1 [.sl 8 0 (eH z), .sl 9 0 ((eY z) + (((((eU z) : Nat) : Int) - 1).toNat))])
  | 7 => .at true (.as 1 [.sl 8 0 (eH z), .sl 10 0 ((eY z) + (((((eU z) : Nat) : Int) - 1).toNat))])
  | 8 => .at true (.as 1 [.sl 9 0 (eH z), .sl 10 0 ((eY z) + (((((eU z) : Nat) : Int) - 1).toNat))])
  | _ => .gone
def bC (z : bG) (l : List Nat) : H := aV8 z ++ l.map (aHM z)
theorem aBJ {z : bG} (hc : aZ z) : bD z 0 8191 (aY z 8191 []) (bC z [0, 1, 2, 3]) := ⟨by kernel_rfl, [0, 1, 2, 3, 4, 5, 6, 10, 7, 9], by decide, by decide, by kernel_rfl, by kernel_rfl⟩
theorem ah1 {z : bG} (hc : aZ z) : bD z 1 4095 (aY z 4095 []) (bC z [0, 1, 2, 4]) := bM (aA (v := aG z 12) aB qM (aBJ hc))
theorem aBK {z : bG} (hc : aZ z) : bD z 2 2047 (aY z 2047 []) (bC z [0, 1, 2]) := bM (aA (v := aG z 11) aB eF (ah1 hc))
theorem aBL {z : bG} (hc : aZ z) : bD z 2 3071 (aY z 3071 []) (bC z [0, 1, 2, 4]) := bM (aA (v := aG z 10) aB oC (ah1 hc))
theorem aBM {z : bG} (hc : aZ z) : bD z 3 1023 (aY z 1023 []) (bC z [0, 1, 2]) := bF (aA (v := aG z 10) aB oC (aBK hc)) (aA (v := aG z 11) aB eF (aBL hc))
theorem aBN {z : bG} (hc : aZ z) : bD z 0 8191 (aY z 8191 [(9, .ptr 9 0), (81, .sl 10 0 ((eY z) + (((((eU z) : Nat) : Int) - 1).toNat))), (82, .g [.sl 7 0 (eH z), .sl 10 0 ((eY z) + (((((eU z) : Nat) : Int) - 1).toNat))])]) (bC z [0, 1, 5, 2]) := ⟨by kernel_rfl, [0, 1, 2, 3, 4, 5, 6, 9, 7, 10], by decide, by decide, by kernel_rfl, by kernel_rfl⟩
theorem aBO {z : bG} (hc : aZ z) : bD z 1 4095 (aY z 4095 [(9, .ptr 9 0), (81, .sl 10 0 ((eY z) + (((((eU z) : Nat) : Int) - 1).toNat))), (82, .g [.sl 7 0 (eH z), .sl 10 0 ((eY z) + (((((eU z) : Nat) : Int) - 1).toNat))])]) (bC z [0, 1, 4, 2]) := bM (aA (v := aG z 12) aB qM (aBN hc))
theorem aBP {z : bG} (hc : aZ z) : bD z 2 3071 (aY z 3071 [(9, .ptr 9 0), (81, .sl 10 0 ((eY z) + (((((eU z) : Nat) : Int) - 1).toNat)))]) (bC z [0, 1, 4, 2]) := bM (aA (v := .g [.sl 7 0 (eH z), .sl 10 0 ((eY z) + (((((eU z) : Nat) : Int) - 1).toNat))]) aB oC (aBO hc))
theorem aBQ {z : bG} (hc : aZ z) : bD z 3 2559 (aY z 2559 [(9, .ptr 9 0)]) (bC z [0, 1, 4]) := bM (bK (v := .sl 10 0 ((eY z) + (((((eU z) : Nat) : Int) - 1).toNat))) aB rY hc.2.2 (aBP hc))
theorem asV {z : bG} (hc : aZ z) : bD z 4 511 (aY z 511 []) (bC z [0, 1]) := bF (bK (v := aG z 9) aB rY hc.2.2 (aBM hc)) (aA (v := .ptr 9 0) aB eF (aBQ hc))
theorem asW {z : bG} (hc : aZ z) : bD z 0 8191 (aY z 8191 [(9, .ptr 8 0), (80, .sl 9 0 2), (81, .sl 10 0 ((eY z) + (((((eU z) : Nat) : Int) - 1).toNat))), (82, .g [.sl 7 0 (eH z), .sl 10 0 ((eY z) + (((((eU z) : Nat) : Int) - 1).toNat))])]) (bC z [0, 5, 1, 2]) := ⟨by kernel_rfl, [0, 1, 2, 3, 4, 5, 6, 8, 7, 10], by decide, by decide, by kernel_rfl, by kernel_rfl⟩
theorem asX {z : bG} (hc : aZ z) : bD z 1 4095 (aY z 4095 [(9, .ptr 8 0), (80, .sl 9 0 2), (81, .sl 10 0 ((eY z) + (((((eU z) : Nat) : Int) - 1).toNat))), (82, .g [.sl 7 0 (eH z), .sl 10 0 ((eY z) + (((((eU z) : Nat) : Int) - 1).toNat))])]) (bC z [0, 4, 1, 2]) := bM (aA (v := aG z 12) aB qM (asW hc))
theorem asY {z : bG} (hc : aZ z) : bD z 2 3071 (aY z 3071 [(9, .ptr 8 0), (80, .sl 9 0 2), (81, .sl 10 0 ((eY z) + (((((eU z) : Nat) : Int) - 1).toNat)))]) (bC z [0, 4, 1, 2]) := bM (aA (v := .g [.sl 7 0 (eH z), .sl 10 0 ((eY z) + (((((eU z) : Nat) : Int) - 1).toNat))]) aB oC (asX hc))
theorem asZ {z : bG} (hc : aZ z) : bD z 3 2559 (aY z 2559 [(9, .ptr 8 0), (80, .sl 9 0 2)]) (bC z [0, 4, 1]) := bM (bK (v := .sl 10 0 ((eY z) + (((((eU z) : Nat) : Int) - 1).toNat))) aB rY hc.2.2 (asY hc))
theorem O6 {z : bG} (hc : aZ z) : bD z 4 2303 (aY z 2303 [(9, .ptr 8 0)]) (bC z [0, 4]) := bM (aA (v := .sl 9 0 2) aB qV (asZ hc))
theorem O7 {z : bG} (hc : aZ z) : bD z 5 255 (aY z 255 []) (bC z [0]) := bF (aA (v := aG z 8) aB qV (asV hc)) (aA (v := .ptr 8 0) aB eF (O6 hc))
theorem O8 {z : bG} (hc : aZ z) : bD z 5 2175 (aY z 2175 [(9, .ptr 8 0)]) (bC z [0, 4]) := bM (bK (v := aG z 7) aB iU hc.2.1 (O6 hc))
theorem O9 {z : bG} (hc : aZ z) : bD z 6 127 (aY z 127 []) (bC z [0]) := bF (bK (v := aG z 7) aB iU hc.2.1 (O7 hc)) (aA (v := .ptr 8 0) aB eF (O8 hc))
theorem PD {z : bG} (hc : aZ z) : bD z 6 2111 (aY z 2111 [(9, .ptr 8 0)]) (bC z [0, 4]) := bM (aA (v := aG z 6) aB iR (O8 hc))
theorem PE {z : bG} (hc : aZ z) : bD z 7 63 (aY z 63 []) (bC z [0]) := bF (aA (v := aG z 6) aB iR (O9 hc)) (aA (v := .ptr 8 0) aB eF (PD hc))
theorem aeK {z : bG} (hc : aZ z) : bD z 7 2079 (aY z 2079 [(9, .ptr 8 0)]) (bC z [0, 4]) := bM (aA (v := aG z 5) aB iQ (PD hc))
theorem aeL {z : bG} (hc : aZ z) : bD z 8 31 (aY z 31 []) (bC z [0]) := bF (aA (v := aG z 5) aB iQ (PE hc)) (aA (v := .ptr 8 0) aB eF (aeK hc))
theorem PG {z : bG} (hc : aZ z) : bD z 5 2287 (aY z 2287 [(9, .ptr 8 0)]) (bC z [0, 4]) := bM (aA (v := aG z 4) aB gG (O6 hc))
theorem PH {z : bG} (hc : aZ z) : bD z 6 239 (aY z 239 []) (bC z [0]) := bF (aA (v := aG z 4) aB gG (O7 hc)) (aA (v := .ptr 8 0) aB eF (PG hc))
theorem PI {z : bG} (hc : aZ z) : bD z 6 2159 (aY z 2159 [(9, .ptr 8 0)]) (bC z [0, 4]) := bF (aA (v := aG z 4) aB gG (O8 hc)) (bK (v := aG z 7) aB iU hc.2.1 (PG hc))
theorem PK {z : bG} (hc : aZ z) : bD z 7 111 (aY z 111 []) (bC z [0]) := bH (aA (v := aG z 4) aB gG (O9 hc)) (bK (v := aG z 7) aB iU hc.2.1 (PH hc)) (aA (v := .ptr 8 0) aB eF (PI hc))
theorem PL {z : bG} (hc : aZ z) : bD z 7 2095 (aY z 2095 [(9, .ptr 8 0)]) (bC z [0, 4]) := bF (aA (v := aG z 4) aB gG (PD hc)) (aA (v := aG z 6) aB iR (PI hc))
theorem PM {z : bG} (hc : aZ z) : bD z 8 47 (aY z 47 []) (bC z [0]) := bH (aA (v := aG z 4) aB gG (PE hc)) (aA (v := aG z 6) aB iR (PK hc)) (aA (v := .ptr 8 0) aB eF (PL hc))
theorem aeM {z : bG} (hc : aZ z) : bD z 8 2063 (aY z 2063 [(9, .ptr 8 0)]) (bC z [0, 4]) := bF (aA (v := aG z 4) aB gG (aeK hc)) (aA (v := aG z 5) aB iQ (PL hc))
theorem aeN {z : bG} (hc : aZ z) : bD z 9 15 (aY z 15 []) (bC z [0]) := bH (aA (v := aG z 4) aB gG (aeL hc)) (aA (v := aG z 5) aB iQ (PM hc)) (aA (v := .ptr 8 0) aB eF (aeM hc))
theorem aeO {z : bG} (hc : aZ z) : bD z 6 2279 (aY z 2279 [(9, .ptr 8 0)]) (bC z [0, 4]) := bM (aA (v := aG z 3) aB gB (PG hc))
theorem aeP {z : bG} (hc : aZ z) : bD z 7 231 (aY z 231 []) (bC z [0]) := bF (aA (v := aG z 3) aB gB (PH hc)) (aA (v := .ptr 8 0) aB eF (aeO hc))
theorem aeQ {z : bG} (hc : aZ z) : bD z 7 2151 (aY z 2151 [(9, .ptr 8 0)]) (bC z [0, 4]) := bF (aA (v := aG z 3) aB gB (PI hc)) (bK (v := aG z 7) aB iU hc.2.1 (aeO hc))
theorem aeR {z : bG} (hc : aZ z) : bD z 8 103 (aY z 103 []) (bC z [0]) := bH (aA (v := aG z 3) aB gB (PK hc)) (bK (v := aG z 7) aB iU hc.2.1 (aeP hc)) (aA (v := .ptr 8 0) aB eF (aeQ hc))
theorem aeS {z : bG} (hc : aZ z) : bD z 8 2087 (aY z 2087 [(9, .ptr 8 0)]) (bC z [0, 4]) := bF (aA (v := aG z 3) aB gB (PL hc)) (aA (v := aG z 6) aB iR (aeQ hc))
theorem aeT {z : bG} (hc : aZ z) : bD z 9 39 (aY z 39 []) (bC z [0]) := bH (aA (v := aG z 3) aB gB (PM hc)) (aA (v := aG z 6) aB iR (aeR hc)) (aA (v := .ptr 8 0) aB eF (aeS hc))
theorem as1 {z : bG} (hc : aZ z) : bD z 9 2055 (aY z 2055 [(9, .ptr 8 0)]) (bC z [0, 4]) := bF (aA (v := aG z 3) aB gB (aeM hc)) (aA (v := aG z 5) aB iQ (aeS hc))
theorem as2 {z : bG} (hc : aZ z) : bD z 10 7 (aY z 7 []) (bC z [0]) := bH (aA (v := aG z 3) aB gB (aeN hc)) (aA (v := aG z 5) aB iQ (aeT hc)) (aA (v := .ptr 8 0) aB eF (as1 hc))
theorem as3 {z : bG} (hc : aZ z) : bD z 0 8191 (aY z 8191 [(74, .sl 8 0 (eH z)), (80, .sl 7 0 2), (82, .g [.sl 8 0 (eH z), .sl 9 0 ((eY z) + (((((eU z) : Nat) : Int) - 1).toNat))])]) (bC z [1, 0, 2, 6]) := ⟨by kernel_rfl, [0, 1, 2, 3, 4, 5, 6, 10, 8, 9], by decide, by decide, by kernel_rfl, by kernel_rfl⟩
theorem aeU {z : bG} (hc : aZ z) : bD z 1 4095 (aY z 4095 [(74, .sl 8 0 (eH z)), (80, .sl 7 0 2), (82, .g [.sl 8 0 (eH z), .sl 9 0 ((eY z) + (((((eU z) : Nat) : Int) - 1).toNat))])]) (bC z [1, 0, 2, 4]) := bM (aA (v := aG z 12) aB qM (as3 hc))
theorem as4 {z : bG} (hc : aZ z) : bD z 2 2047 (aY z 2047 [(74, .sl 8 0 (eH z)), (80, .sl 7 0 2), (82, .g [.sl 8 0 (eH z), .sl 9 0 ((eY z) + (((((eU z) : Nat) : Int) - 1).toNat))])]) (bC z [1, 0, 2]) := bM (aA (v := aG z 11) aB eF (aeU hc))
theorem as5 {z : bG} (hc : aZ z) : bD z 2 3071 (aY z 3071 [(74, .sl 8 0 (eH z)), (80, .sl 7 0 2)]) (bC z [1, 0, 2, 4]) := bM (aA (v := .g [.sl 8 0 (eH z), .sl 9 0 ((eY z) + (((((eU z) : Nat) : Int) - 1).toNat))]) aB oC (aeU hc))
theorem as6 {z : bG} (hc : aZ z) : bD z 3 1023 (aY z 1023 [(74, .sl 8 0 (eH z)), (80, .sl 7 0 2)]) (bC z [1, 0, 2]) := bF (aA (v := .g [.sl 8 0 (eH z), .sl 9 0 ((eY z) + (((((eU z) : Nat) : Int) - 1).toNat))]) aB oC (as4 hc)) (aA (v := aG z 11) aB eF (as5 hc))
theorem as7 {z : bG} (hc : aZ z) : bD z 0 8191 (aY z 8191 [(9, .ptr 9 0), (74, .sl 8 0 (eH z)), (80, .sl 7 0 2), (81, .sl 10 0 ((eY z) + (((((eU z) : Nat) : Int) - 1).toNat))), (82, .g [.sl 8 0 (eH z), .sl 10 0 ((eY z) + (((((eU z) : Nat) : Int) - 1).toNat))])]) (bC z [1, 0, 7, 2]) := ⟨by kernel_rfl, [0, 1, 2, 3, 4, 5, 6, 9, 8, 10], by decide, by decide, by kernel_rfl, by kernel_rfl⟩
theorem as8 {z : bG} (hc : aZ z) : bD z 1 4095 (aY z 4095 [(9, .ptr 9 0), (74, .sl 8 0 (eH z)), (80, .sl 7 0 2), (81, .sl 10 0 ((eY z) + (((((eU z) : Nat) : Int) - 1).toNat))), (82, .g [.sl 8 0 (eH z), .sl 10 0 ((eY z) + (((((eU z) : Nat) : Int) - 1).toNat))])]) (bC z [1, 0, 4, 2]) := bM (aA (v := aG z 12) aB qM (as7 hc))
theorem as9 {z : bG} (hc : aZ z) : bD z 2 3071 (aY z 3071 [(9, .ptr 9 0), (74, .sl 8 0 (eH z)), (80, .sl 7 0 2), (81, .sl 10 0 ((eY z) + (((((eU z) : Nat) : Int) - 1).toNat)))]) (bC z [1, 0, 4, 2]) := bM (aA (v := .g [.sl 8 0 (eH z), .sl 10 0 ((eY z) + (((((eU z) : Nat) : Int) - 1).toNat))]) aB oC (as8 hc))
theorem atA {z : bG} (hc : aZ z) : bD z 3 2559 (aY z 2559 [(9, .ptr 9 0), (74, .sl 8 0 (eH z)), (80, .sl 7 0 2)]) (bC z [1, 0, 4]) := bM (bK (v := .sl 10 0 ((eY z) + (((((eU z) : Nat) : Int) - 1).toNat))) aB rY hc.2.2 (as9 hc))
theorem atB {z : bG} (hc : aZ z) : bD z 4 511 (aY z 511 [(74, .sl 8 0 (eH z)), (80, .sl 7 0 2)]) (bC z [1, 0]) := bF (bK (v := aG z 9) aB rY hc.2.2 (as6 hc)) (aA (v := .ptr 9 0) aB eF (atA hc))
theorem atC {z : bG} (hc : aZ z) : bD z 0 8191 (aY z 8191 [(9, .ptr 8 0), (74, .sl 9 0 (eH z)), (80, .sl 7 0 2), (81, .sl 10 0 ((eY z) + (((((eU z) : Nat) : Int) - 1).toNat))), (82, .g [.sl 9 0 (eH z), .sl 10 0 ((eY z) + (((((eU z) : Nat) : Int) - 1).toNat))])]) (bC z [1, 8, 0, 2]) := ⟨by kernel_rfl, [0, 1, 2, 3, 4, 5, 6, 8, 9, 10], by decide, by decide, by kernel_rfl, by kernel_rfl⟩
theorem atD {z : bG} (hc : aZ z) : bD z 1 4095 (aY z 4095 [(9, .ptr 8 0), (74, .sl 9 0 (eH z)), (80, .sl 7 0 2), (81, .sl 10 0 ((eY z) + (((((eU z) : Nat) : Int) - 1).toNat))), (82, .g [.sl 9 0 (eH z), .sl 10 0 ((eY z) + (((((eU z) : Nat) : Int) - 1).toNat))])]) (bC z [1, 4, 0, 2]) := bM (aA (v := aG z 12) aB qM (atC hc))
theorem atE {z : bG} (hc : aZ z) : bD z 2 3071 (aY z 3071 [(9, .ptr 8 0), (74, .sl 9 0 (eH z)), (80, .sl 7 0 2), (81, .sl 10 0 ((eY z) + (((((eU z) : Nat) : Int) - 1).toNat)))]) (bC z [1, 4, 0, 2]) := bM (aA (v := .g [.sl 9 0 (eH z), .sl 10 0 ((eY z) + (((((eU z) : Nat) : Int) - 1).toNat))]) aB oC (atD hc))
theorem atG {z : bG} (hc : aZ z) : bD z 3 2559 (aY z 2559 [(9, .ptr 8 0), (74, .sl 9 0 (eH z)), (80, .sl 7 0 2)]) (bC z [1, 4, 0]) := bM (bK (v := .sl 10 0 ((eY z) + (((((eU z) : Nat) : Int) - 1).toNat))) aB rY hc.2.2 (atE hc))
theorem aeV {z : bG} (hc : aZ z) : bD z 4 2555 (aY z 2555 [(9, .ptr 8 0), (80, .sl 7 0 2)]) (bC z [1, 4]) := bM (bK (v := .sl 9 0 (eH z)) aB iP hc.1 (atG hc))
theorem aeW {z : bG} (hc : aZ z) : bD z 5 507 (aY z 507 [(80, .sl 7 0 2)]) (bC z [1]) := bF (bK (v := .sl 8 0 (eH z)) aB iP hc.1 (atB hc)) (aA (v := .ptr 8 0) aB eF (aeV hc))
theorem atH {z : bG} (hc : aZ z) : bD z 0 8191 (aY z 8191 [(9, .ptr 7 0), (74, .sl 8 0 (eH z)), (80, .sl 9 0 2), (81, .sl 10 0 ((eY z) + (((((eU z) : Nat) : Int) - 1).toNat))), (82, .g [.sl 8 0 (eH z), .sl 10 0 ((eY z) + (((((eU z) : Nat) : Int) - 1).toNat))])]) (bC z [7, 0, 1, 2]) := ⟨by kernel_rfl, [0, 1, 2, 3, 4, 5, 6, 7, 8, 10], by decide, by decide, by kernel_rfl, by kernel_rfl⟩
theorem atI {z : bG} (hc : aZ z) : bD z 1 4095 (aY z 4095 [(9, .ptr 7 0), (74, .sl 8 0 (eH z)), (80, .sl 9 0 2), (81, .sl 10 0 ((eY z) + (((((eU z) : Nat) : Int) - 1).toNat))), (82, .g [.sl 8 0 (eH z), .sl 10 0 ((eY z) + (((((eU z) : Nat) : Int) - 1).toNat))])]) (bC z [4, 0, 1, 2]) := bM (aA (v := aG z 12) aB qM (atH hc))
theorem atJ {z : bG} (hc : aZ z) : bD z 2 3071 (aY z 3071 [(9, .ptr 7 0), (74, .sl 8 0 (eH z)), (80, .sl 9 0 2), (81, .sl 10 0 ((eY z) + (((((eU z) : Nat) : Int) - 1).toNat)))]) (bC z [4, 0, 1, 2]) := bM (aA (v := .g [.sl 8 0 (eH z), .sl 10 0 ((eY z) + (((((eU z) : Nat) : Int) - 1).toNat))]) aB oC (atI hc))
theorem atK {z : bG} (hc : aZ z) : bD z 3 2559 (aY z 2559 [(9, .ptr 7 0), (74, .sl 8 0 (eH z)), (80, .sl 9 0 2)]) (bC z [4, 0, 1]) := bM (bK (v := .sl 10 0 ((eY z) + (((((eU z) : Nat) : Int) - 1).toNat))) aB rY hc.2.2 (atJ hc))
theorem PN {z : bG} (hc : aZ z) : bD z 4 2303 (aY z 2303 [(9, .ptr 7 0), (74, .sl 8 0 (eH z))]) (bC z [4, 0]) := bM (aA (v := .sl 9 0 2) aB qV (atK hc))
theorem atL {z : bG} (hc : aZ z) : bD z 0 8191 (aY z 8191 [(9, .ptr 7 0), (74, .sl 9 0 (eH z)), (81, .sl 10 0 ((eY z) + (((((eU z) : Nat) : Int) - 1).toNat))), (82, .g [.sl 9 0 (eH z), .sl 10 0 ((eY z) + (((((eU z) : Nat) : Int) - 1).toNat))])]) (bC z [8, 1, 0, 2]) := ⟨by kernel_rfl, [0, 1, 2, 3, 4, 5, 6, 7, 9, 10], by decide, by decide, by kernel_rfl, by kernel_rfl⟩
theorem atM {z : bG} (hc : aZ z) : bD z 1 4095 (aY z 4095 [(9, .ptr 7 0), (74, .sl 9 0 (eH z)), (81, .sl 10 0 ((eY z) + (((((eU z) : Nat) : Int) - 1).toNat))), (82, .g [.sl 9 0 (eH z), .sl 10 0 ((eY z) + (((((eU z) : Nat) : Int) - 1).toNat))])]) (bC z [4, 1, 0, 2]) := bM (aA (v := aG z 12) aB qM (atL hc))
theorem atN {z : bG} (hc : aZ z) : bD z 2 3071 (aY z 3071 [(9, .ptr 7 0), (74, .sl 9 0 (eH z)), (81, .sl 10 0 ((eY z) + (((((eU z) : Nat) : Int) - 1).toNat)))]) (bC z [4, 1, 0, 2]) := bM (aA (v := .g [.sl 9 0 (eH z), .sl 10 0 ((eY z) + (((((eU z) : Nat) : Int) - 1).toNat))]) aB oC (atM hc))
theorem atO {z : bG} (hc : aZ z) : bD z 3 2559 (aY z 2559 [(9, .ptr 7 0), (74, .sl 9 0 (eH z))]) (bC z [4, 1, 0]) := bM (bK (v := .sl 10 0 ((eY z) + (((((eU z) : Nat) : Int) - 1).toNat))) aB rY hc.2.2 (atN hc))
theorem aeX {z : bG} (hc : aZ z) : bD z 4 2555 (aY z 2555 [(9, .ptr 7 0)]) (bC z [4, 1]) := bM (bK (v := .sl 9 0 (eH z)) aB iP hc.1 (atO hc))
theorem BD {z : bG} (hc : aZ z) : bD z 5 2299 (aY z 2299 [(9, .ptr 7 0)]) (bC z [4]) := bF (bK (v := .sl 8 0 (eH z)) aB iP hc.1 (PN hc)) (aA (v := aG z 8) aB qV (aeX hc))
theorem PO {z : bG} (hc : aZ z) : bD z 6 251 (aY z 251 []) (bC z []) := bH (bK (v := aG z 2) aB iP hc.1 (O7 hc)) (aA (v := .sl 7 0 2) aB qV (aeW hc)) (aA (v := .ptr 7 0) aB eF (BD hc))
theorem PP {z : bG} (hc : aZ z) : bD z 5 2175 (aY z 2175 [(9, .ptr 7 0), (74, .sl 8 0 (eH z))]) (bC z [4, 0]) := bM (bK (v := aG z 7) aB iU hc.2.1 (PN hc))
theorem BF {z : bG} (hc : aZ z) : bD z 6 2171 (aY z 2171 [(9, .ptr 7 0)]) (bC z [4]) := bF (bK (v := .sl 8 0 (eH z)) aB iP hc.1 (PP hc)) (bK (v := aG z 7) aB iU hc.2.1 (BD hc))
theorem PR {z : bG} (hc : aZ z) : bD z 7 123 (aY z 123 []) (bC z []) := bH (bK (v := aG z 2) aB iP hc.1 (O9 hc)) (bK (v := aG z 7) aB iU hc.2.1 (PO hc)) (aA (v := .ptr 7 0) aB eF (BF hc))
theorem PS {z : bG} (hc : aZ z) : bD z 6 2111 (aY z 2111 [(9, .ptr 7 0), (74, .sl 8 0 (eH z))]) (bC z [4, 0]) := bM (aA (v := aG z 6) aB iR (PP hc))
theorem BG {z : bG} (hc : aZ z) : bD z 7 2107 (aY z 2107 [(9, .ptr 7 0)]) (bC z [4]) := bF (bK (v := .sl 8 0 (eH z)) aB iP hc.1 (PS hc)) (aA (v := aG z 6) aB iR (BF hc))
theorem PT {z : bG} (hc : aZ z) : bD z 8 59 (aY z 59 []) (bC z []) := bH (bK (v := aG z 2) aB iP hc.1 (PE hc)) (aA (v := aG z 6) aB iR (PR hc)) (aA (v := .ptr 7 0) aB eF (BG hc))
theorem aeY {z : bG} (hc : aZ z) : bD z 7 2079 (aY z 2079 [(9, .ptr 7 0), (74, .sl 8 0 (eH z))]) (bC z [4, 0]) := bM (aA (v := aG z 5) aB iQ (PS hc))
theorem PV {z : bG} (hc : aZ z) : bD z 8 2075 (aY z 2075 [(9, .ptr 7 0)]) (bC z [4]) := bF (bK (v := .sl 8 0 (eH z)) aB iP hc.1 (aeY hc)) (aA (v := aG z 5) aB iQ (BG hc))
theorem aeZ {z : bG} (hc : aZ z) : bD z 9 27 (aY z 27 []) (bC z []) := bH (bK (v := aG z 2) aB iP hc.1 (aeL hc)) (aA (v := aG z 5) aB iQ (PT hc)) (aA (v := .ptr 7 0) aB eF (PV hc))
theorem PW {z : bG} (hc : aZ z) : bD z 5 2287 (aY z 2287 [(9, .ptr 7 0), (74, .sl 8 0 (eH z))]) (bC z [4, 0]) := bM (aA (v := aG z 4) aB gG (PN hc))
theorem BH {z : bG} (hc : aZ z) : bD z 6 2283 (aY z 2283 [(9, .ptr 7 0)]) (bC z [4]) := bF (bK (v := .sl 8 0 (eH z)) aB iP hc.1 (PW hc)) (aA (v := aG z 4) aB gG (BD hc))
theorem PX {z : bG} (hc : aZ z) : bD z 7 235 (aY z 235 []) (bC z []) := bH (bK (v := aG z 2) aB iP hc.1 (PH hc)) (aA (v := aG z 4) aB gG (PO hc)) (aA (v := .ptr 7 0) aB eF (BH hc))
theorem PY {z : bG} (hc : aZ z) : bD z 6 2159 (aY z 2159 [(9, .ptr 7 0), (74, .sl 8 0 (eH z))]) (bC z [4, 0]) := bF (aA (v := aG z 4) aB gG (PP hc)) (bK (v := aG z 7) aB iU hc.2.1 (PW hc))
theorem BI {z : bG} (hc : aZ z) : bD z 7 2155 (aY z 2155 [(9, .ptr 7 0)]) (bC z [4]) := bH (bK (v := .sl 8 0 (eH z)) aB iP hc.1 (PY hc)) (aA (v := aG z 4) aB gG (BF hc)) (bK (v := aG z 7) aB iU hc.2.1 (BH hc))
theorem P5 {z : bG} (hc : aZ z) : bD z 8 107 (aY z 107 []) (bC z []) := iI (bK (v := aG z 2) aB iP hc.1 (PK hc)) (aA (v := aG z 4) aB gG (PR hc)) (bK (v := aG z 7) aB iU hc.2.1 (PX hc)) (aA (v := .ptr 7 0) aB eF (BI hc))
theorem P6 {z : bG} (hc : aZ z) : bD z 7 2095 (aY z 2095 [(9, .ptr 7 0), (74, .sl 8 0 (eH z))]) (bC z [4, 0]) := bF (aA (v := aG z 4) aB gG (PS hc)) (aA (v := aG z 6) aB iR (PY hc))
theorem BJ {z : bG} (hc : aZ z) : bD z 8 2091 (aY z 2091 [(9, .ptr 7 0)]) (bC z [4]) := bH (bK (v := .sl 8 0 (eH z)) aB iP hc.1 (P6 hc)) (aA (v := aG z 4) aB gG (BG hc)) (aA (v := aG z 6) aB iR (BI hc))
theorem P7 {z : bG} (hc : aZ z) : bD z 9 43 (aY z 43 []) (bC z []) := iI (bK (v := aG z 2) aB iP hc.1 (PM hc)) (aA (v := aG z 4) aB gG (PT hc)) (aA (v := aG z 6) aB iR (P5 hc)) (aA (v := .ptr 7 0) aB eF (BJ hc))
theorem ae0 {z : bG} (hc : aZ z) : bD z 8 2063 (aY z 2063 [(9, .ptr 7 0), (74, .sl 8 0 (eH z))]) (bC z [4, 0]) := bF (aA (v := aG z 4) aB gG (aeY hc)) (aA (v := aG z 5) aB iQ (P6 hc))
theorem P8 {z : bG} (hc : aZ z) : bD z 9 2059 (aY z 2059 [(9, .ptr 7 0)]) (bC z [4]) := bH (bK (v := .sl 8 0 (eH z)) aB iP hc.1 (ae0 hc)) (aA (v := aG z 4) aB gG (PV hc)) (aA (v := aG z 5) aB iQ (BJ hc))
theorem ae1 {z : bG} (hc : aZ z) : bD z 10 11 (aY z 11 []) (bC z []) := iI (bK (v := aG z 2) aB iP hc.1 (aeN hc)) (aA (v := aG z 4) aB gG (aeZ hc)) (aA (v := aG z 5) aB iQ (P7 hc)) (aA (v := .ptr 7 0) aB eF (P8 hc))
theorem ae2 {z : bG} (hc : aZ z) : bD z 6 2279 (aY z 2279 [(9, .ptr 7 0), (74, .sl 8 0 (eH z))]) (bC z [4, 0]) := bM (aA (v := aG z 3) aB gB (PW hc))
theorem P9 {z : bG} (hc : aZ z) : bD z 7 2275 (aY z 2275 [(9, .ptr 7 0)]) (bC z [4]) := bF (bK (v := .sl 8 0 (eH z)) aB iP hc.1 (ae2 hc)) (aA (v := aG z 3) aB gB (BH hc))
theorem ae3 {z : bG} (hc : aZ z) : bD z 8 227 (aY z 227 []) (bC z []) := bH (bK (v := aG z 2) aB iP hc.1 (aeP hc)) (aA (v := aG z 3) aB gB (PX hc)) (aA (v := .ptr 7 0) aB eF (P9 hc))
theorem ae4 {z : bG} (hc : aZ z) : bD z 7 2151 (aY z 2151 [(9, .ptr 7 0), (74, .sl 8 0 (eH z))]) (bC z [4, 0]) := bF (aA (v := aG z 3) aB gB (PY hc)) (bK (v := aG z 7) aB iU hc.2.1 (ae2 hc))
theorem QA {z : bG} (hc : aZ z) : bD z 8 2147 (aY z 2147 [(9, .ptr 7 0)]) (bC z [4]) := bH (bK (v := .sl 8 0 (eH z)) aB iP hc.1 (ae4 hc)) (aA (v := aG z 3) aB gB (BI hc)) (bK (v := aG z 7) aB iU hc.2.1 (P9 hc))
theorem ae5 {z : bG} (hc : aZ z) : bD z 9 99 (aY z 99 []) (bC z []) := iI (bK (v := aG z 2) aB iP hc.1 (aeR hc)) (aA (v := aG z 3) aB gB (P5 hc)) (bK (v := aG z 7) aB iU hc.2.1 (ae3 hc)) (aA (v := .ptr 7 0) aB eF (QA hc))
theorem ae6 {z : bG} (hc : aZ z) : bD z 8 2087 (aY z 2087 [(9, .ptr 7 0), (74, .sl 8 0 (eH z))]) (bC z [4, 0]) := bF (aA (v := aG z 3) aB gB (P6 hc)) (aA (v := aG z 6) aB iR (ae4 hc))
theorem QB {z : bG} (hc : aZ z) : bD z 9 2083 (aY z 2083 [(9, .ptr 7 0)]) (bC z [4]) := bH (bK (v := .sl 8 0 (eH z)) aB iP hc.1 (ae6 hc)) (aA (v := aG z 3) aB gB (BJ hc)) (aA (v := aG z 6) aB iR (QA hc))
theorem ae7 {z : bG} (hc : aZ z) : bD z 10 35 (aY z 35 []) (bC z []) := iI (bK (v := aG z 2) aB iP hc.1 (aeT hc)) (aA (v := aG z 3) aB gB (P7 hc)) (aA (v := aG z 6) aB iR (ae5 hc)) (aA (v := .ptr 7 0) aB eF (QB hc))
theorem atP {z : bG} (hc : aZ z) : bD z 9 2055 (aY z 2055 [(9, .ptr 7 0), (74, .sl 8 0 (eH z))]) (bC z [4, 0]) := bF (aA (v := aG z 3) aB gB (ae0 hc)) (aA (v := aG z 5) aB iQ (ae6 hc))
theorem ae8 {z : bG} (hc : aZ z) : bD z 10 2051 (aY z 2051 [(9, .ptr 7 0)]) (bC z [4]) := bH (bK (v := .sl 8 0 (eH z)) aB iP hc.1 (atP hc)) (aA (v := aG z 3) aB gB (P8 hc)) (aA (v := aG z 5) aB iQ (QB hc))
theorem atQ {z : bG} (hc : aZ z) : bD z 11 3 (aY z 3 []) (bC z []) := iI (bK (v := aG z 2) aB iP hc.1 (as2 hc)) (aA (v := aG z 3) aB gB (ae1 hc)) (aA (v := aG z 5) aB iQ (ae7 hc)) (aA (v := .ptr 7 0) aB eF (ae8 hc))
theorem aaN {z : bG} (hc : aZ z) : bD z 5 2553 (aY z 2553 [(9, .ptr 8 0), (80, .sl 7 0 2)]) (bC z [1, 4]) := bM (aA (v := aG z 1) aB iO (aeV hc))
theorem aaO {z : bG} (hc : aZ z) : bD z 6 505 (aY z 505 [(80, .sl 7 0 2)]) (bC z [1]) := bF (aA (v := aG z 1) aB iO (aeW hc)) (aA (v := .ptr 8 0) aB eF (aaN hc))
theorem aaP {z : bG} (hc : aZ z) : bD z 5 2553 (aY z 2553 [(9, .ptr 7 0)]) (bC z [4, 1]) := bM (aA (v := aG z 1) aB iO (aeX hc))
theorem yZ {z : bG} (hc : aZ z) : bD z 6 2297 (aY z 2297 [(9, .ptr 7 0)]) (bC z [4]) := bF (aA (v := aG z 1) aB iO (BD hc)) (aA (v := aG z 8) aB qV (aaP hc))
theorem JU {z : bG} (hc : aZ z) : bD z 7 249 (aY z 249 []) (bC z []) := bH (aA (v := aG z 1) aB iO (PO hc)) (aA (v := .sl 7 0 2) aB qV (aaO hc)) (aA (v := .ptr 7 0) aB eF (yZ hc))
theorem y5 {z : bG} (hc : aZ z) : bD z 7 2169 (aY z 2169 [(9, .ptr 7 0)]) (bC z [4]) := bF (aA (v := aG z 1) aB iO (BF hc)) (bK (v := aG z 7) aB iU hc.2.1 (yZ hc))
theorem JV {z : bG} (hc : aZ z) : bD z 8 121 (aY z 121 []) (bC z []) := bH (aA (v := aG z 1) aB iO (PR hc)) (bK (v := aG z 7) aB iU hc.2.1 (JU hc)) (aA (v := .ptr 7 0) aB eF (y5 hc))
theorem y7 {z : bG} (hc : aZ z) : bD z 8 2105 (aY z 2105 [(9, .ptr 7 0)]) (bC z [4]) := bF (aA (v := aG z 1) aB iO (BG hc)) (aA (v := aG z 6) aB iR (y5 hc))
theorem JW {z : bG} (hc : aZ z) : bD z 9 57 (aY z 57 []) (bC z []) := bH (aA (v := aG z 1) aB iO (PT hc)) (aA (v := aG z 6) aB iR (JV hc)) (aA (v := .ptr 7 0) aB eF (y7 hc))
theorem JX {z : bG} (hc : aZ z) : bD z 9 2073 (aY z 2073 [(9, .ptr 7 0)]) (bC z [4]) := bF (aA (v := aG z 1) aB iO (PV hc)) (aA (v := aG z 5) aB iQ (y7 hc))
theorem aaQ {z : bG} (hc : aZ z) : bD z 10 25 (aY z 25 []) (bC z []) := bH (aA (v := aG z 1) aB iO (aeZ hc)) (aA (v := aG z 5) aB iQ (JW hc)) (aA (v := .ptr 7 0) aB eF (JX hc))
theorem y8 {z : bG} (hc : aZ z) : bD z 7 2281 (aY z 2281 [(9, .ptr 7 0)]) (bC z [4]) := bF (aA (v := aG z 1) aB iO (BH hc)) (aA (v := aG z 4) aB gG (yZ hc))
theorem JY {z : bG} (hc : aZ z) : bD z 8 233 (aY z 233 []) (bC z []) := bH (aA (v := aG z 1) aB iO (PX hc)) (aA (v := aG z 4) aB gG (JU hc)) (aA (v := .ptr 7 0) aB eF (y8 hc))
theorem y9 {z : bG} (hc : aZ z) : bD z 8 2153 (aY z 2153 [(9, .ptr 7 0)]) (bC z [4]) := bH (aA (v := aG z 1) aB iO (BI hc)) (aA (v := aG z 4) aB gG (y5 hc)) (bK (v := aG z 7) aB iU hc.2.1 (y8 hc))
theorem JZ {z : bG} (hc : aZ z) : bD z 9 105 (aY z 105 []) (bC z []) := iI (aA (v := aG z 1) aB iO (P5 hc)) (aA (v := aG z 4) aB gG (JV hc)) (bK (v := aG z 7) aB iU hc.2.1 (JY hc)) (aA (v := .ptr 7 0) aB eF (y9 hc))
theorem zC {z : bG} (hc : aZ z) : bD z 9 2089 (aY z 2089 [(9, .ptr 7 0)]) (bC z [4]) := bH (aA (v := aG z 1) aB iO (BJ hc)) (aA (v := aG z 4) aB gG (y7 hc)) (aA (v := aG z 6) aB iR (y9 hc))
theorem J3 {z : bG} (hc : aZ z) : bD z 10 41 (aY z 41 []) (bC z []) := iI (aA (v := aG z 1) aB iO (P7 hc)) (aA (v := aG z 4) aB gG (JW hc)) (aA (v := aG z 6) aB iR (JZ hc)) (aA (v := .ptr 7 0) aB eF (zC hc))
theorem J4 {z : bG} (hc : aZ z) : bD z 10 2057 (aY z 2057 [(9, .ptr 7 0)]) (bC z [4]) := bH (aA (v := aG z 1) aB iO (P8 hc)) (aA (v := aG z 4) aB gG (JX hc)) (aA (v := aG z 5) aB iQ (zC hc))
theorem aaR {z : bG} (hc : aZ z) : bD z 11 9 (aY z 9 []) (bC z []) := iI (aA (v := aG z 1) aB iO (ae1 hc)) (aA (v := aG z 4) aB gG (aaQ hc)) (aA (v := aG z 5) aB iQ (J3 hc)) (aA (v := .ptr 7 0) aB eF (J4 hc))
theorem J5 {z : bG} (hc : aZ z) : bD z 8 2273 (aY z 2273 [(9, .ptr 7 0)]) (bC z [4]) := bF (aA (v := aG z 1) aB iO (P9 hc)) (aA (v := aG z 3) aB gB (y8 hc))
theorem aaS {z : bG} (hc : aZ z) : bD z 9 225 (aY z 225 []) (bC z []) := bH (aA (v := aG z 1) aB iO (ae3 hc)) (aA (v := aG z 3) aB gB (JY hc)) (aA (v := .ptr 7 0) aB eF (J5 hc))
theorem J6 {z : bG} (hc : aZ z) : bD z 9 2145 (aY z 2145 [(9, .ptr 7 0)]) (bC z [4]) := bH (aA (v := aG z 1) aB iO (QA hc)) (aA (v := aG z 3) aB gB (y9 hc)) (bK (v := aG z 7) aB iU hc.2.1 (J5 hc))
theorem aaT {z : bG} (hc : aZ z) : bD z 10 97 (aY z 97 []) (bC z []) := iI (aA (v := aG z 1) aB iO (ae5 hc)) (aA (v := aG z 3) aB gB (JZ hc)) (bK (v := aG z 7) aB iU hc.2.1 (aaS hc)) (aA (v := .ptr 7 0) aB eF (J6 hc))
theorem J7 {z : bG} (hc : aZ z) : bD z 10 2081 (aY z 2081 [(9, .ptr 7 0)]) (bC z [4]) := bH (aA (v := aG z 1) aB iO (QB hc)) (aA (v := aG z 3) aB gB (zC hc)) (aA (v := aG z 6) aB iR (J6 hc))
theorem aaU {z : bG} (hc : aZ z) : bD z 11 33 (aY z 33 []) (bC z []) := iI (aA (v := aG z 1) aB iO (ae7 hc)) (aA (v := aG z 3) aB gB (J3 hc)) (aA (v := aG z 6) aB iR (aaT hc)) (aA (v := .ptr 7 0) aB eF (J7 hc))
theorem aaV {z : bG} (hc : aZ z) : bD z 11 2049 (aY z 2049 [(9, .ptr 7 0)]) (bC z [4]) := bH (aA (v := aG z 1) aB iO (ae8 hc)) (aA (v := aG z 3) aB gB (J4 hc)) (aA (v := aG z 5) aB iQ (J7 hc))
theorem aoV {z : bG} (hc : aZ z) : bD z 12 1 (aY z 1 []) (bC z []) := iI (aA (v := aG z 1) aB iO (atQ hc)) (aA (v := aG z 3) aB gB (aaR hc)) (aA (v := aG z 5) aB iQ (aaU hc)) (aA (v := .ptr 7 0) aB eF (aaV hc))
theorem aoW {z : bG} (hc : aZ z) : bD z 6 2552 (aY z 2552 [(9, .ptr 8 0), (80, .sl 7 0 2)]) (bC z [1, 4]) := bM (aA (v := aG z 0) aB iM (aaN hc))
theorem aoX {z : bG} (hc : aZ z) : bD z 7 504 (aY z 504 [(80, .sl 7 0 2)]) (bC z [1]) := bF (aA (v := aG z 0) aB iM (aaO hc)) (aA (v := .ptr 8 0) aB eF (aoW hc))
theorem aoY {z : bG} (hc : aZ z) : bD z 6 2552 (aY z 2552 [(9, .ptr 7 0)]) (bC z [4, 1]) := bM (aA (v := aG z 0) aB iM (aaP hc))
theorem J8 {z : bG} (hc : aZ z) : bD z 7 2296 (aY z 2296 [(9, .ptr 7 0)]) (bC z [4]) := bF (aA (v := aG z 0) aB iM (yZ hc)) (aA (v := aG z 8) aB qV (aoY hc))
theorem aaW {z : bG} (hc : aZ z) : bD z 8 248 (aY z 248 []) (bC z []) := bH (aA (v := aG z 0) aB iM (JU hc)) (aA (v := .sl 7 0 2) aB qV (aoX hc)) (aA (v := .ptr 7 0) aB eF (J8 hc))
theorem J9 {z : bG} (hc : aZ z) : bD z 8 2168 (aY z 2168 [(9, .ptr 7 0)]) (bC z [4]) := bF (aA (v := aG z 0) aB iM (y5 hc)) (bK (v := aG z 7) aB iU hc.2.1 (J8 hc))
theorem aaX {z : bG} (hc : aZ z) : bD z 9 120 (aY z 120 []) (bC z []) := bH (aA (v := aG z 0) aB iM (JV hc)) (bK (v := aG z 7) aB iU hc.2.1 (aaW hc)) (aA (v := .ptr 7 0) aB eF (J9 hc))
theorem KA {z : bG} (hc : aZ z) : bD z 9 2104 (aY z 2104 [(9, .ptr 7 0)]) (bC z [4]) := bF (aA (v := aG z 0) aB iM (y7 hc)) (aA (v := aG z 6) aB iR (J9 hc))
theorem aaY {z : bG} (hc : aZ z) : bD z 10 56 (aY z 56 []) (bC z []) := bH (aA (v := aG z 0) aB iM (JW hc)) (aA (v := aG z 6) aB iR (aaX hc)) (aA (v := .ptr 7 0) aB eF (KA hc))
theorem aaZ {z : bG} (hc : aZ z) : bD z 10 2072 (aY z 2072 [(9, .ptr 7 0)]) (bC z [4]) := bF (aA (v := aG z 0) aB iM (JX hc)) (aA (v := aG z 5) aB iQ (KA hc))
theorem aoZ {z : bG} (hc : aZ z) : bD z 11 24 (aY z 24 []) (bC z []) := bH (aA (v := aG z 0) aB iM (aaQ hc)) (aA (v := aG z 5) aB iQ (aaY hc)) (aA (v := .ptr 7 0) aB eF (aaZ hc))
theorem KC {z : bG} (hc : aZ z) : bD z 8 2280 (aY z 2280 [(9, .ptr 7 0)]) (bC z [4]) := bF (aA (v := aG z 0) aB iM (y8 hc)) (aA (v := aG z 4) aB gG (J8 hc))
theorem aa0 {z : bG} (hc : aZ z) : bD z 9 232 (aY z 232 []) (bC z []) := bH (aA (v := aG z 0) aB iM (JY hc)) (aA (v := aG z 4) aB gG (aaW hc)) (aA (v := .ptr 7 0) aB eF (KC hc))
theorem KD {z : bG} (hc : aZ z) : bD z 9 2152 (aY z 2152 [(9, .ptr 7 0)]) (bC z [4]) := bH (aA (v := aG z 0) aB iM (y9 hc)) (aA (v := aG z 4) aB gG (J9 hc)) (bK (v := aG z 7) aB iU hc.2.1 (KC hc))
theorem aa1 {z : bG} (hc : aZ z) : bD z 10 104 (aY z 104 []) (bC z []) := iI (aA (v := aG z 0) aB iM (JZ hc)) (aA (v := aG z 4) aB gG (aaX hc)) (bK (v := aG z 7) aB iU hc.2.1 (aa0 hc)) (aA (v := .ptr 7 0) aB eF (KD hc))
theorem KE {z : bG} (hc : aZ z) : bD z 10 2088 (aY z 2088 [(9, .ptr 7 0)]) (bC z [4]) := bH (aA (v := aG z 0) aB iM (zC hc)) (aA (v := aG z 4) aB gG (KA hc)) (aA (v := aG z 6) aB iR (KD hc))
theorem aa2 {z : bG} (hc : aZ z) : bD z 11 40 (aY z 40 []) (bC z []) := iI (aA (v := aG z 0) aB iM (J3 hc)) (aA (v := aG z 4) aB gG (aaY hc)) (aA (v := aG z 6) aB iR (aa1 hc)) (aA (v := .ptr 7 0) aB eF (KE hc))
theorem aa3 {z : bG} (hc : aZ z) : bD z 11 2056 (aY z 2056 [(9, .ptr 7 0)]) (bC z [4]) := bH (aA (v := aG z 0) aB iM (J4 hc)) (aA (v := aG z 4) aB gG (aaZ hc)) (aA (v := aG z 5) aB iQ (KE hc))
theorem ao0 {z : bG} (hc : aZ z) : bD z 12 8 (aY z 8 []) (bC z []) := iI (aA (v := aG z 0) aB iM (aaR hc)) (aA (v := aG z 4) aB gG (aoZ hc)) (aA (v := aG z 5) aB iQ (aa2 hc)) (aA (v := .ptr 7 0) aB eF (aa3 hc))
theorem aa4 {z : bG} (hc : aZ z) : bD z 9 2272 (aY z 2272 [(9, .ptr 7 0)]) (bC z [4]) := bF (aA (v := aG z 0) aB iM (J5 hc)) (aA (v := aG z 3) aB gB (KC hc))
theorem ao1 {z : bG} (hc : aZ z) : bD z 10 224 (aY z 224 []) (bC z []) := bH (aA (v := aG z 0) aB iM (aaS hc)) (aA (v := aG z 3) aB gB (aa0 hc)) (aA (v := .ptr 7 0) aB eF (aa4 hc))
theorem aa5 {z : bG} (hc : aZ z) : bD z 10 2144 (aY z 2144 [(9, .ptr 7 0)]) (bC z [4]) := bH (aA (v := aG z 0) aB iM (J6 hc)) (aA (v := aG z 3) aB gB (KD hc)) (bK (v := aG z 7) aB iU hc.2.1 (aa4 hc))
theorem ao2 {z : bG} (hc : aZ z) : bD z 11 96 (aY z 96 []) (bC z []) := iI (aA (v := aG z 0) aB iM (aaT hc)) (aA (v := aG z 3) aB gB (aa1 hc)) (bK (v := aG z 7) aB iU hc.2.1 (ao1 hc)) (aA (v := .ptr 7 0) aB eF (aa5 hc))
theorem aa6 {z : bG} (hc : aZ z) : bD z 11 2080 (aY z 2080 [(9, .ptr 7 0)]) (bC z [4]) := bH (aA (v := aG z 0) aB iM (J7 hc)) (aA (v := aG z 3) aB gB (KE hc)) (aA (v := aG z 6) aB iR (aa5 hc))
theorem ao3 {z : bG} (hc : aZ z) : bD z 12 32 (aY z 32 []) (bC z []) := iI (aA (v := aG z 0) aB iM (aaU hc)) (aA (v := aG z 3) aB gB (aa2 hc)) (aA (v := aG z 6) aB iR (ao2 hc)) (aA (v := .ptr 7 0) aB eF (aa6 hc))
theorem ao4 {z : bG} (hc : aZ z) : bD z 12 2048 (aY z 2048 [(9, .ptr 7 0)]) (bC z [4]) := bH (aA (v := aG z 0) aB iM (aaV hc)) (aA (v := aG z 3) aB gB (aa3 hc)) (aA (v := aG z 5) aB iQ (aa6 hc))
theorem ao5 {z : bG} (hc : aZ z) : bD z 13 0 (aY z 0 []) (bC z []) := iI (aA (v := aG z 0) aB iM (aoV hc)) (aA (v := aG z 3) aB gB (ao0 hc)) (aA (v := aG z 5) aB iQ (ao3 hc)) (aA (v := .ptr 7 0) aB eF (ao4 hc))
theorem atS (z3 : Nat) (z4 : Bool) (z5 : List Nat) (z6 : Bool) (z7 : List Nat) (z8 : Bool) (z9 : List Nat) (z10 : Bool) (z11 : List Nat) (z13 : Nat) (z15 : Nat) (z17 : Nat) (z19 : Nat) (hc : aZ (z3, z4, z5, z6, z7, z8, z9, z10, z11, z13, z15, z17, z19)) {st : St} (hl : st.t.length = 103) (et : rG [3, 4, 6, 8] 103 st.t = (.any :: .any :: .any :: .ptr 4 0 :: .ptr 5 0 :: .any :: .ptr 6 0 :: .any :: .fl .f32 z3 :: (fE 94 []))) (eh : st.h = [.at z4 (.fl .f32 z5), .at z6 (.fl .f32 z7), .at z8 (.fl .f32 z9), .at z10 (.fl .f32 z11), .at true (.as 1 [.sl 0 0 z13, .sl 1 0 z15]), .at true (.as 1 [.sl 2 0 z17, .sl 3 0 z19]), .at true (.as 1 [.nil, .nil])]) {μ0 : Mu} {h0 : H} {w0 : World} {Q : Exit → Act → World → Prop} (hQ : ∀ μ a w, Inv μ0 h0 w0 μ (⟨(.any :: .any :: .any :: .any :: .ptr 5 0 :: .any :: .ptr 6 0 :: .any :: .fl .f32 z3 :: .ptr 7 0 :: (fE 93 [])), [.at z4 (.fl .f32 z5), .at z6 (.fl .f32 z7), .at z8 (.fl .f32 z9), .at z10 (.fl .f32 z11), .at true (.as 1 [.sl 0 0 z13, .sl 1 0 z15]), .at true (.as 1 [.sl 2 0 z17, .sl 3 0 z19]), .at true (.as 1 [.nil, .nil]), .at true (.as 1 [.sl 8 0 z13, .sl 9 0 (z15 + ((((z19 : Nat) : Int) - 1).toNat))]), .at true (.fl .f32 z5), .at true (.fl .f32 (z7 ++ (z11.drop 1).take ((((z19 : Nat) : Int) - 1).toNat)))]⟩ : St) a w → Q .normal a w) {μ : Mu} {a : Act} {w : World} (hi : Inv μ0 h0 w0 μ st a w) : (Code.region 4 mD true).wp Try.prog Q a w :=
  told (L0 := uZ 13 0) (T0 := aY (z3, z4, z5, z6, z7, z8, z9, z10, z11, z13, z15, z17, z19) 0 []) (H0 := bC (z3, z4, z5, z6, z7, z8, z9, z10, z11, z13, z15, z17, z19) []) [4, 6, 8, 9] mixed (by kernel_rfl : mD.size = 13) (by kernel_rfl) hl (et.trans (by kernel_rfl)) (eh.trans (by kernel_rfl)) rfl (ao5 hc) hQ hi
set_option maxRecDepth 100000 in
theorem aHN : vC Try.prog 4 mD true asU := by
  intro μ0 h0 w0 st st' hg Q hQ μ a w hi
  unfold asU at hg
  split at hg
  case h_2 => cases hg
  rename_i hl_
  have hl_ := of_decide_eq_true hl_
  split at hg
  case h_2 => cases hg
  rename_i e3_
  split at hg
  case h_2 => cases hg
  rename_i e4_
  split at hg
  case h_2 => cases hg
  rename_i e6_
  split at hg
  case h_2 => cases hg
  rename_i z3 e8_
  split at hg
  case h_2 => cases hg
  rename_i z4 z5 z6 z7 z8 z9 z10 z11 z13 z15 z17 z19 eh_
  have hg := Option.some.inj hg
  have hc := congrArg Prod.fst hg
  have hg := congrArg Prod.snd hg
  dsimp only at hc hg
  subst hg
  obtain ⟨hc, hc2⟩ := Bool.and_eq_true_iff.mp hc
  obtain ⟨hc, hc1⟩ := Bool.and_eq_true_iff.mp hc
  have hc0 := hc
  exact atS z3 z4 z5 z6 z7 z8 z9 z10 z11 z13 z15 z17 z19 ⟨hc0, hc1, hc2⟩ hl_ ((qH (T0 := (.any :: .any :: .any :: .ptr 4 0 :: .ptr 5 0 :: .any :: .ptr 6 0 :: .any :: .fl .f32 z3 :: (fE 94 []))) (fun i hi => by
    simp only [List.mem_cons, List.not_mem_nil, or_false] at hi
    rcases hi with rfl | rfl | rfl | rfl
    · exact e3_.trans rfl
    · exact e4_.trans rfl
    · exact e6_.trans rfl
    · exact e8_.trans rfl)).trans (by kernel_rfl)) eh_ hQ hi
noncomputable def QC : GsA := fun i => if i = 4 then some (tu1 asU) else none
theorem aHO : (jL (codeOf Try.f46)).filter (fun p => (QC p.1).isSome) = [(4, mD, true)] := by kernel_rfl
theorem aBR : qA Try.prog QC (codeOf Try.f46) := by
  refine qJ _ fun p hp g hg => ?_
  have h : p ∈ (jL (codeOf Try.f46)).filter (fun p => (QC p.1).isSome) := List.mem_filter.2 ⟨hp, by rw [hg]; rfl⟩
  rw [aHO] at h
  simp only [List.mem_cons, List.not_mem_nil, or_false] at h
  rcases h with rfl
  · cases hg; exact yT aHN
def acU (by8 : Nat) (t84n : Nat) (t85 : Int) (t86 : Int) (rw0 : Bool) (l0 : List Nat) (rw1 : Bool) (l1 : List Nat) (rw2 : Bool) (l2 : List Nat) (rw3 : Bool) (l3 : List Nat) (b5_0n : Nat) (b5_1n : Nat) (l6 : List Nat) (l7 : List Nat) : St := ⟨(fE 6 (.ptr 4 0 :: .any :: .fl .f32 by8 :: .ptr 5 0 :: (fE 74 (.sl 2 0 t84n :: .int .i64 t85 :: .int .i64 t86 :: (fE 16 []))))), [.at rw0 (.fl .f32 l0), .at rw1 (.fl .f32 l1), .at rw2 (.fl .f32 l2), .at rw3 (.fl .f32 l3), .at true (.as 1 [.nil, .nil]), .at true (.as 1 [.sl 6 0 b5_0n, .sl 7 0 b5_1n]), .at true (.fl .f32 l6), .at true (.fl .f32 l7)]⟩
abbrev aO7 : Option (List Nat × List Nat) := some ([6, 8, 9, 84, 85, 86], [6, 9])
noncomputable def acV {R : Type} (N M : Nat) (s : St) (K : X → St → Option R) : Option R := pO 4 aO7 (fun st K => pU ty acT akC QC N 4 (oD [true, true, true, true, false, true, false, false] Try.f46) st K) M s K
noncomputable def acW {R : Type} (N : Nat) (K : X → St → Option R) : X → St → Option R := rF 0 (adT acT akC QC N 4 (oD [true, true, true, true, true] Try.f46) (K))
def ZJ (rw0 : Bool) (l0 : List Nat) (rw1 : Bool) (l1 : List Nat) (rw2 : Bool) (l2 : List Nat) (rw3 : Bool) (l3 : List Nat) (b5_0n : Nat) (b5_1n : Nat) (l6 : List Nat) (l7 : List Nat) : St := ⟨(fE 6 (.ptr 4 0 :: .any :: .any :: .ptr 5 0 :: (fE 93 []))), [.at rw0 (.fl .f32 l0), .at rw1 (.fl .f32 l1), .at rw2 (.fl .f32 l2), .at rw3 (.fl .f32 l3), .at true (.as 1 [.nil, .nil]), .at true (.as 1 [.sl 6 0 b5_0n, .sl 7 0 b5_1n]), .at true (.fl .f32 l6), .at true (.fl .f32 l7)]⟩
theorem aO8 (N : Nat) (n : Nat) (m : Nat) (q : Nat) (k : Nat) (g : Nat) (r0 : Bool) (l0 : List Nat) (r1 : Bool) (l1 : List Nat) (r2 : Bool) (l2 : List Nat) (r3 : Bool) (l3 : List Nat) : uQ ty acT akC QC N Try.f46 [.g [.sl 0 0 n, .sl 1 0 m], .g [.sl 2 0 q, .sl 3 0 k], .fl .f32 g] [.at r0 (.fl .f32 l0), .at r1 (.fl .f32 l1), .at r2 (.fl .f32 l2), .at r3 (.fl .f32 l3)]
    = (match decide (l0.length = n ∧ n < 2147483648 ∧ l1.length = m ∧ m < 2147483648) with | true => (match !(vsB l0 l1) with | true => some (.tup [.g [.nil, .nil], .a (.bool false)], [.at r0 (.fl .f32 l0), .at r1 (.fl .f32 l1), .at r2 (.fl .f32 l2), .at r3 (.fl .f32 l3)]) | false => (match decide (l2.length = q ∧ q < 2147483648 ∧ l3.length = k ∧ k < 2147483648) with | true => (match !(vsB l2 l3) with | true => some (.tup [.g [.nil, .nil], .a (.bool false)], [.at r0 (.fl .f32 l0), .at r1 (.fl .f32 l1), .at r2 (.fl .f32 l2), .at r3 (.fl .f32 l3)]) | false => (match !(iH g) with | true => some (.tup [.g [.nil, .nil], .a (.bool false)], [.at r0 (.fl .f32 l0), .at r1 (.fl .f32 l1), .at r2 (.fl .f32 l2), .at r3 (.fl .f32 l3)]) | false => (match ltB g 0 || eqB g 0 with | true => some (.tup [.g [.nil, .nil], .a (.bool false)], [.at r0 (.fl .f32 l0), .at r1 (.fl .f32 l1), .at r2 (.fl .f32 l2), .at r3 (.fl .f32 l3)]) | false => (match ((n : Nat) : Int) == 0 with | true => some (.tup [.g [.nil, .nil], .a (.bool false)], [.at r0 (.fl .f32 l0), .at r1 (.fl .f32 l1), .at r2 (.fl .f32 l2), .at r3 (.fl .f32 l3)]) | false => (match ((q : Nat) : Int) == 0 with | true => some (.tup [.g [.nil, .nil], .a (.bool false)], [.at r0 (.fl .f32 l0), .at r1 (.fl .f32 l1), .at r2 (.fl .f32 l2), .at r3 (.fl .f32 l3)]) | false => (match decide (0 ≤ (((n : Nat) : Int) : Int) ∧ (((n : Nat) : Int) : Int) < ((m : Nat) : Int)) with | true => (match l1[0 + (((n : Nat) : Int)).toNat * 1]? with | some e1 => (match decide (0 ≤ (0 : Int) ∧ (0 : Int) < ((k : Nat) : Int)) with | true => (match l3[0]? with | some e2 => (match decide (e1 < 4294967296 ∧ e2 < 4294967296) with | true => (match !(sN e1 e2) with | true => some (.tup [.g [.nil, .nil], .a (.bool false)], [.at r0 (.fl .f32 l0), .at r1 (.fl .f32 l1), .at r2 (.fl .f32 l2), .at r3 (.fl .f32 l3)]) | false => (match decide (0 ≤ (IntKind.i64.wrap (((n : Nat) : Int) - 1) : Int) ∧ (IntKind.i64.wrap (((n : Nat) : Int) - 1) : Int) < ((n : Nat) : Int)) with | true => (match l0[0 + (IntKind.i64.wrap (((n : Nat) : Int) - 1)).toNat * 1]? with | some e3 => (match decide (0 ≤ (0 : Int) ∧ (0 : Int) < ((q : Nat) : Int)) with | true => (match l2[0]? with | some e4 => (match (decide (l0.length = n ∧ 1 ≤ n ∧ n < 2147483648)) && (decide (0 ≤ (1 : Int) ∧ (1 : Int) ≤ ((k : Nat) : Int) ∧ (((k : Nat) : Int) : Int) ≤ ((k : Nat) : Int))) && (decide (l1.length = m ∧ 1 + ((((k : Nat) : Int) - 1).toNat) ≤ l3.length ∧ 0 < m ∧ m < 1000 ∧ (((k : Nat) : Int) - 1).toNat < 1000)) with | true => acV N N (acU (fop .sub .f32 (fop .add .f32 e3 g) e4) q ((q : Nat) : Int) 0 r0 l0 r1 l1 r2 l2 r3 l3 n (m + ((((k : Nat) : Int) - 1).toNat)) l0 (l1 ++ (l3.drop 1).take ((((k : Nat) : Int) - 1).toNat))) (acW N (oM Try.f46 4)) | false => none) | none => none) | false => none) | none => none) | false => none)) | false => none) | none => none) | false => none) | none => none) | false => none)))))) | false => none)) | false => none) := by
  kernel_rfl
theorem ah2 {R : Type} (N M : Nat) (K : X → St → Option R) (by8 : Nat) (t84n : Nat) (t85 : Int) (t86 : Int) (rw0 : Bool) (l0 : List Nat) (rw1 : Bool) (l1 : List Nat) (rw2 : Bool) (l2 : List Nat) (rw3 : Bool) (l3 : List Nat) (b5_0n : Nat) (b5_1n : Nat) (l6 : List Nat) (l7 : List Nat) : acV N (M + 1) (acU by8 t84n t85 t86 rw0 l0 rw1 l1 rw2 l2 rw3 l3 b5_0n b5_1n l6 l7) K
    = (match decide ((t86 : Int) < t85) with | true => (match decide (0 ≤ (t86 : Int) ∧ (t86 : Int) < ((t84n : Nat) : Int)) with | true => (match l2[0 + (t86).toNat * 1]? with | some e1 => (match zH true b5_0n 1 l6.length 1 (b5_0n + 1) 4 with | true => acV N M (acU by8 t84n t85 (IntKind.i64.wrap (t86 + 1)) rw0 l0 rw1 l1 rw2 l2 rw3 l3 (b5_0n + 1) b5_1n (l6 ++ [fop .add .f32 e1 by8]) l7) K | false => none) | none => none) | false => none) | false => K (.exit 0) (ZJ rw0 l0 rw1 l1 rw2 l2 rw3 l3 b5_0n b5_1n l6 l7)) := by
  kernel_rfl
theorem atT (N : Nat) (rw0 : Bool) (l0 : List Nat) (rw1 : Bool) (l1 : List Nat) (rw2 : Bool) (l2 : List Nat) (rw3 : Bool) (l3 : List Nat) (b5_0n : Nat) (b5_1n : Nat) (l6 : List Nat) (l7 : List Nat) : acW N (oM Try.f46 4) (.exit 0) (ZJ rw0 l0 rw1 l1 rw2 l2 rw3 l3 b5_0n b5_1n l6 l7)
    = (match decide (l6.length = b5_0n ∧ b5_0n < 2147483648 ∧ l7.length = b5_1n ∧ b5_1n < 2147483648) with | true => (match vsB l6 l7 with | true => some (.tup [.g [.sl 4 0 b5_0n, .sl 5 0 b5_1n], .a (.bool true)], [.at rw0 (.fl .f32 l0), .at rw1 (.fl .f32 l1), .at rw2 (.fl .f32 l2), .at rw3 (.fl .f32 l3), .at true (.fl .f32 l6), .at true (.fl .f32 l7)]) | false => some (.tup [.g [.nil, .nil], .a (.bool false)], [.at rw0 (.fl .f32 l0), .at rw1 (.fl .f32 l1), .at rw2 (.fl .f32 l2), .at rw3 (.fl .f32 l3)])) | false => none) := by
  kernel_rfl
def w32 (l : List Nat) : Bool := l.all fun x => decide (x < 4294967296)
def jBy (e0 e2 : List Nat) (g : Nat) : Nat := fop .sub .f32 (fop .add .f32 (e0.getD (e0.length - 1) 0) g) (e2.getD 0 0)
def jE (e0 e2 : List Nat) (g : Nat) : List Nat := e0 ++ e2.map (fun x => fop .add .f32 x (jBy e0 e2 g))
def jM (m1 m3 : List Nat) : List Nat := m1 ++ m3.drop 1
def jOk (e0 m1 e2 m3 : List Nat) (g : Nat) : Bool := agJ g && (sN (m1.getD e0.length 0) (m3.getD 0 0) && vsB (jE e0 e2 g) (jM m1 m3))
def atU (e0 m1 e2 m3 : List Nat) : Bool := vsB e0 m1 && (vsB e2 m3 && (decide (1 ≤ e0.length) && (decide (1 ≤ e2.length) && (w32 m1 && w32 m3))))
theorem QD {l : List Nat} (h : w32 l = true) {i : Nat} (hi : i < l.length) : l.getD i 0 < 4294967296 := by
  have := aGI h hi
  exact of_decide_eq_true this
theorem akD {e m : List Nat} (h : vsB e m = true) : e.length < 12 ∧ m.length = e.length + 1 := by
  unfold vsB at h
  simp only [Bool.and_eq_true, decide_eq_true_eq] at h
  exact ⟨h.1, h.2.1⟩
theorem aO9 {e0 m1 e2 m3 : List Nat} (h : atU e0 m1 e2 m3 = true) : vsB e0 m1 = true ∧ vsB e2 m3 = true ∧ 1 ≤ e0.length ∧ 1 ≤ e2.length ∧ w32 m1 = true ∧ w32 m3 = true := by
  unfold atU at h
  simp only [Bool.and_eq_true, decide_eq_true_eq] at h
  exact h
theorem map_range (l : List Nat) (f : Nat → Nat) : (List.range' 0 l.length).map (fun i => f (l.getD i 0)) = l.map f := by
  apply List.ext_getElem?
  intro i
  by_cases h : i < l.length
  · simp [h, List.getD_eq_getElem?_getD]
  · simp [h]
theorem ah3 {g : Nat} : (agJ g = true → iH g = true ∧ (ltB g 0 || eqB g 0) = false) ∧ (agJ g = false → iH g = true → (ltB g 0 || eqB g 0) = true) := by
  have hn := aNQ g
  refine ⟨fun h => ?_, fun h hf => ?_⟩
  · rw [h] at hn
    cases hf : iH g with
    | false => rw [hf] at hn; cases hn
    | true => rw [hf] at hn; exact ⟨rfl, hn⟩
  · rw [h, hf] at hn
    exact hn
def aV9 : GT := fun vs h => match vs, h with
  | [.g [.sl 0 0 n, .sl 1 0 m], .g [.sl 2 0 q, .sl 3 0 k], .fl .f32 g], [.at r0 (.fl .f32 l0), .at r1 (.fl .f32 l1), .at r2 (.fl .f32 l2), .at r3 (.fl .f32 l3)] =>
    .ite (decide (l0.length = n ∧ l1.length = m ∧ l2.length = q ∧ l3.length = k)) (.ite (atU l0 l1 l2 l3) (.ite (jOk l0 l1 l2 l3 g) (.ret (.tup [.g [.sl 4 0 (jE l0 l2 g).length, .sl 5 0 (jM l1 l3).length], .a (.bool true)]) [.at r0 (.fl .f32 l0), .at r1 (.fl .f32 l1), .at r2 (.fl .f32 l2), .at r3 (.fl .f32 l3), .at true (.fl .f32 (jE l0 l2 g)), .at true (.fl .f32 (jM l1 l3))]) (.ret (.tup [.g [.nil, .nil], .a (.bool false)]) [.at r0 (.fl .f32 l0), .at r1 (.fl .f32 l1), .at r2 (.fl .f32 l2), .at r3 (.fl .f32 l3)])) .no) .no
  | _, _ => .no
theorem aWA : FnT Try.prog 46 aV9 := by
  refine AX abV aB mixed Try.func46 rfl rfl akC QC aBR fun vs h v h' e => ?_
  unfold aV9 at e
  split at e
  case h_2 => exact (T.no_inv e).elim
  rename_i n m q k g r0 l0 r1 l1 r2 l2 r3 l3
  obtain ⟨hd, e1⟩ := T.pre_inv e
  obtain ⟨hp, e2⟩ := T.pre_inv e1
  clear e e1
  obtain ⟨rfl, rfl, rfl, rfl⟩ := of_decide_eq_true hd
  clear hd
  obtain ⟨v1, v2, b1, b2, w1, w3⟩ := aO9 hp
  have a1 := akD v1
  have a2 := akD v2
  refine ⟨l2.length + 1, Eq.trans (aO8 _ l0.length l1.length l2.length l3.length g r0 l0 r1 l1 r2 l2 r3 l3) (Eq.trans ?_ e2)⟩
  clear e2 hp
  show _ = (match jOk l0 l1 l2 l3 g with | true => some (V.tup [.g [.sl 4 0 (jE l0 l2 g).length, .sl 5 0 (jM l1 l3).length], .a (.bool true)], ([.at r0 (.fl .f32 l0), .at r1 (.fl .f32 l1), .at r2 (.fl .f32 l2), .at r3 (.fl .f32 l3), .at true (.fl .f32 (jE l0 l2 g)), .at true (.fl .f32 (jM l1 l3))] : H)) | false => some (V.tup [.g [.nil, .nil], .a (.bool false)], ([.at r0 (.fl .f32 l0), .at r1 (.fl .f32 l1), .at r2 (.fl .f32 l2), .at r3 (.fl .f32 l3)] : H)))
  unfold jOk
  have hwl : IntKind.i64.wrap (((l0.length : Nat) : Int) - 1) = ((l0.length - 1 : Nat) : Int) := by rw [kP (by omega) (by omega)]; omega
  have ix1 : 0 + ((l0.length - 1 : Nat) : Int).toNat * 1 = l0.length - 1 := ix
  rw [show (decide (l0.length = l0.length ∧ l0.length < 2147483648 ∧ l1.length = l1.length ∧ l1.length < 2147483648)) = true from decide_eq_true (by omega)]
  rw [show (!(vsB l0 l1)) = false from by rw [v1]; rfl]
  rw [show (decide (l2.length = l2.length ∧ l2.length < 2147483648 ∧ l3.length = l3.length ∧ l3.length < 2147483648)) = true from decide_eq_true (by omega)]
  rw [show (!(vsB l2 l3)) = false from by rw [v2]; rfl]
  cases hg : agJ g with
  | false =>
    cases hf : iH g with
    | false => rfl
    | true => rw [ah3.2 hg hf]; rfl
  | true =>
  obtain ⟨hf, hlt⟩ := ah3.1 hg
  rw [hf, hlt, Bool.not_true, Bool.true_and]
  rw [show (((l0.length : Nat) : Int) == 0) = false from beq_eq_false_iff_ne.mpr (by omega)]
  rw [show (((l2.length : Nat) : Int) == 0) = false from beq_eq_false_iff_ne.mpr (by omega)]
  rw [show (decide (0 ≤ (((l0.length : Nat) : Int) : Int) ∧ (((l0.length : Nat) : Int) : Int) < ((l1.length : Nat) : Int))) = true from decide_eq_true (by omega)]
  rw [show l1[0 + (((l0.length : Nat) : Int)).toNat * 1]? = some (l1.getD l0.length 0) from by rw [ix]; exact iY (by omega)]
  dsimp only
  rw [show (decide (0 ≤ (0 : Int) ∧ (0 : Int) < ((l3.length : Nat) : Int))) = true from decide_eq_true (by omega)]
  rw [show l3[0]? = some (l3.getD 0 0) from by exact iY (by omega)]
  dsimp only
  rw [show (decide ((l1.getD l0.length 0) < 4294967296 ∧ (l3.getD 0 0) < 4294967296)) = true from decide_eq_true ⟨QD w1 (by omega), QD w3 (by omega)⟩]
  cases hs : sN (l1.getD l0.length 0) (l3.getD 0 0) with
  | false => rfl
  | true =>
  rw [Bool.not_true, Bool.true_and]
  rw [show (decide (0 ≤ (IntKind.i64.wrap (((l0.length : Nat) : Int) - 1) : Int) ∧ (IntKind.i64.wrap (((l0.length : Nat) : Int) - 1) : Int) < ((l0.length : Nat) : Int))) = true from by rw [hwl]; exact decide_eq_true (by omega)]
  rw [show l0[0 + (IntKind.i64.wrap (((l0.length : Nat) : Int) - 1)).toNat * 1]? = some (l0.getD (l0.length - 1) 0) from by rw [hwl, ix1]; exact iY (by omega)]
  dsimp only
  rw [show (decide (0 ≤ (0 : Int) ∧ (0 : Int) < ((l2.length : Nat) : Int))) = true from decide_eq_true (by omega)]
  rw [show l2[0]? = some (l2.getD 0 0) from by exact iY (by omega)]
  dsimp only
  rw [show ((decide (l0.length = l0.length ∧ 1 ≤ l0.length ∧ l0.length < 2147483648)) && (decide (0 ≤ (1 : Int) ∧ (1 : Int) ≤ ((l3.length : Nat) : Int) ∧ (((l3.length : Nat) : Int) : Int) ≤ ((l3.length : Nat) : Int))) && (decide (l1.length = l1.length ∧ 1 + ((((l3.length : Nat) : Int) - 1).toNat) ≤ l3.length ∧ 0 < l1.length ∧ l1.length < 1000 ∧ (((l3.length : Nat) : Int) - 1).toNat < 1000))) = true from by
    rw [decide_eq_true (show l0.length = l0.length ∧ 1 ≤ l0.length ∧ l0.length < 2147483648 from ⟨rfl, by omega, by omega⟩), decide_eq_true (show 0 ≤ (1 : Int) ∧ (1 : Int) ≤ ((l3.length : Nat) : Int) ∧ (((l3.length : Nat) : Int) : Int) ≤ ((l3.length : Nat) : Int) by omega), decide_eq_true (show l1.length = l1.length ∧ 1 + ((((l3.length : Nat) : Int) - 1).toNat) ≤ l3.length ∧ 0 < l1.length ∧ l1.length < 1000 ∧ (((l3.length : Nat) : Int) - 1).toNat < 1000 by omega)]
    rfl]
  have hy : (l3.drop 1).take ((((l3.length : Nat) : Int) - 1).toNat) = l3.drop 1 := List.take_of_length_le (by rw [List.length_drop]; omega)
  rw [hy]
  have hX : l1.length + ((((l3.length : Nat) : Int) - 1).toNat) = (l1 ++ l3.drop 1).length := by rw [List.length_append, List.length_drop]; omega
  rw [hX]
  have hc := aFP l2.length (fun i (o : List Nat) => o ++ [fop .add .f32 (l2.getD i 0) (jBy l0 l2 g)]) (fun M i o => acV (l2.length + 1) M (acU (jBy l0 l2 g) l2.length ((l2.length : Nat) : Int) (i : Int) r0 l0 r1 l1 r2 l2 r3 l3 o.length (l1 ++ l3.drop 1).length o (l1 ++ l3.drop 1)) (acW (l2.length + 1) (oM Try.f46 4)))
    (fun o => match vsB o (l1 ++ l3.drop 1) with | true => some (.tup [.g [.sl 4 0 o.length, .sl 5 0 (l1 ++ l3.drop 1).length], .a (.bool true)], [.at r0 (.fl .f32 l0), .at r1 (.fl .f32 l1), .at r2 (.fl .f32 l2), .at r3 (.fl .f32 l3), .at true (.fl .f32 o), .at true (.fl .f32 (l1 ++ l3.drop 1))]) | false => some ((.tup [.g [.nil, .nil], .a (.bool false)]), [.at r0 (.fl .f32 l0), .at r1 (.fl .f32 l1), .at r2 (.fl .f32 l2), .at r3 (.fl .f32 l3)])) (fun i o => o.length = l0.length + i)
    (fun M i o hi hv => ?_) (fun M o hv => ?_) l2.length 0 l0 (by omega) (by simp) 0
  · rw [OJ, map_range l2 (fun x => fop .add .f32 x (jBy l0 l2 g)), show l2.length + 1 + 0 = l2.length + 1 by omega] at hc
    exact hc
  · refine ⟨?_, by simp; omega⟩
    simp only [ah2, dlt hi, din hi, ix, iY hi, apc (rfl : o.length = o.length) (show o.length < 2147483648 by omega) (show 4 ≤ 16 by omega), wr (show i < 2147483648 by omega)]
    rw [show o.length + 1 = (o ++ [fop .add .f32 (l2.getD i 0) (jBy l0 l2 g)]).length by simp]
  · have hd : decide (o.length = o.length ∧ o.length < 2147483648 ∧ (l1 ++ l3.drop 1).length = (l1 ++ l3.drop 1).length ∧ (l1 ++ l3.drop 1).length < 2147483648) = true := decide_eq_true ⟨rfl, by omega, rfl, by rw [← hX]; omega⟩
    rw [ah2, dge (Nat.le_refl _)]
    show acW _ _ (.exit 0) (ZJ r0 l0 r1 l1 r2 l2 r3 l3 o.length (l1 ++ l3.drop 1).length o (l1 ++ l3.drop 1)) = _
    rw [atT, hd]
    all_goals (cases vsB o (l1 ++ l3.drop 1) <;> rfl)
def rpN (l0 l1 : List Nat) (g : Nat) : Nat → List Nat → List Nat → Option (List Nat × List Nat)
  | 0, e, m => some (e, m)
  | k + 1, e, m => match jOk e m l0 l1 g with | true => rpN l0 l1 g k (jE e l0 g) (jM m l1) | false => none
def rpG (l0 : List Nat) : Nat := fop .sub .f32 (l0.getD (l0.length - 1) 0) (l0.getD 0 0)
def rpR (l0 l1 : List Nat) (t : Int) : Option (List Nat × List Nat) := rpN l0 l1 (rpG l0) (t - 1).toNat l0 l1
def tX (l0 l1 : List Nat) (t : Int) : Bool := vsB l0 l1 && (decide (1 ≤ l0.length) && (inB t 1 5 && (sN (l1.getD 0 0) (l1.getD (l1.length - 1) 0) && (rpR l0 l1 t).isSome)))
def rpE (l0 l1 : List Nat) (t : Int) : List Nat := ((rpR l0 l1 t).getD ([], [])).1
def rpM (l0 l1 : List Nat) (t : Int) : List Nat := ((rpR l0 l1 t).getD ([], [])).2
theorem ae9 {l0 l1 : List Nat} (h : vsB l0 l1 = true) (hb : 1 ≤ l0.length) (hw : w32 l1 = true) : atU l0 l1 l0 l1 = true := by
  unfold atU
  rw [h, decide_eq_true hb, hw]
  rfl
def gRp : GT := fun vs h => match vs, h with
  | [.g [.sl 0 0 n, .sl 1 0 m], .int .i64 t], [.at r0 (.fl .f32 l0), .at r1 (.fl .f32 l1)] =>
    .ite (decide (l0.length = n ∧ n < 2147483648 ∧ l1.length = m ∧ m < 2147483648 ∧ w32 l1 = true)) (.ite (tX l0 l1 t) (.ret (.tup [.g [.sl 2 0 (rpE l0 l1 t).length, .sl 3 0 (rpM l0 l1 t).length], .a (.bool true)]) [.at r0 (.fl .f32 l0), .at r1 (.fl .f32 l1), .at true (.fl .f32 (rpE l0 l1 t)), .at true (.fl .f32 (rpM l0 l1 t))]) (.ret (.tup [.g [.nil, .nil], .a (.bool false)]) [.at r0 (.fl .f32 l0), .at r1 (.fl .f32 l1)])) .no
  | _, _ => .no
def aPA (T0 : Int) : GT := fun vs h => match vs, h with
  | [.g [.sl 0 0 n, .sl 1 0 m], .int .i64 t], [.at r0 (.fl .f32 l0), .at r1 (.fl .f32 l1)] => .ite (decide (t = T0)) (gRp [.g [.sl 0 0 n, .sl 1 0 m], .int .i64 t] [.at r0 (.fl .f32 l0), .at r1 (.fl .f32 l1)]) .no
  | _, _ => .no
noncomputable def KF : Fns := gX [(11, gVs), (43, gT gIn), (45, gSN), (22, aoR), (46, aV9)]
theorem bT : ∀ f, FnT Try.prog f (KF f) := (aC (k := 11) nY (aC (k := 43) MF (aC (k := 45) zI (aC (k := 22) MS (aC (k := 46) aWA bJ)))))
noncomputable def nM : Array Oper := (yU (codeOf Try.f18) 3).getD #[]
def atV (st : St) : Option (Bool × St) := (match decide (st.t.length = 76) with | true => (match nth st.t 1 with | .int .i64 z0 => (match nth st.t 2 with | .ptr 2 0 => (match nth st.t 4 with | .ptr 3 0 => (match st.h with | [.at z3 (.fl .f32 z4), .at z5 (.fl .f32 z6), .at true (.as 1 [.sl 0 0 z8, .sl 1 0 z10]), .at true (.as 1 [.nil, .nil])] => some ((decide (z4.length = z8 ∧ 1 ≤ z8 ∧ z8 < 2147483648)) && (decide (z6.length = z10 ∧ 1 ≤ z10 ∧ z10 < 2147483648)), ⟨(.any :: .int .i64 z0 :: .ptr 2 0 :: .any :: .ptr 3 0 :: .any :: .ptr 4 0 :: .bool true :: (fE 68 [])), [.at z3 (.fl .f32 z4), .at z5 (.fl .f32 z6), .at true (.as 1 [.sl 0 0 z8, .sl 1 0 z10]), .at true (.as 1 [.nil, .nil]), .at true (.as 1 [.sl 5 0 z8, .sl 6 0 z10]), .at true (.fl .f32 z4), .at true (.fl .f32 z6)]⟩) | _ => none) | _ => none) | _ => none) | _ => none) | false => none)
abbrev gW := Int × Bool × List Nat × Bool × List Nat × Nat × Nat
abbrev ayP (z : gW) : Int := z.1
abbrev ayQ (z : gW) : Bool := z.2.1
abbrev SL (z : gW) : List Nat := z.2.2.1
abbrev ayR (z : gW) : Bool := z.2.2.2.1
abbrev SN (z : gW) : List Nat := z.2.2.2.2.1
abbrev jO (z : gW) : Nat := z.2.2.2.2.2.1
abbrev jP (z : gW) : Nat := z.2.2.2.2.2.2
def aWB (z : gW) : List V := (.any :: .int .i64 (ayP z) :: .ptr 2 0 :: .any :: .ptr 3 0 :: (fE 71 []))
def aWC (z : gW) : H := [.at (ayQ z) (.fl .f32 (SL z)), .at (ayR z) (.fl .f32 (SN z)), .at true (.as 1 [.sl 0 0 (jO z), .sl 1 0 (jP z)]), .at true (.as 1 [.nil, .nil])]
theorem xO : (nM[0]?).map iG = some (.fieldAddr 27 (.tmp 2) 0, some 40, none) := by kernel_rfl
theorem xQ : (nM[1]?).map iG = some (.load 25 (.tmp 40), some 41, none) := by kernel_rfl
theorem xU : (nM[2]?).map iG = some (.call ⟨.value (.func 22), #[.tmp 41], #[25]⟩, some 42, none) := by kernel_rfl
theorem qX : (nM[3]?).map iG = some (.fieldAddr 27 (.tmp 2) 1, some 43, none) := by kernel_rfl
theorem qY : (nM[4]?).map iG = some (.load 25 (.tmp 43), some 44, none) := by kernel_rfl
theorem ZK : (nM[5]?).map iG = some (.call ⟨.value (.func 22), #[.tmp 44], #[25]⟩, some 45, none) := by kernel_rfl
theorem MV : (nM[6]?).map iG = some (.build 27 #[(0, .tmp 42), (1, .tmp 45)], some 46, none) := by kernel_rfl
theorem mO : (nM[7]?).map iG = some (.alloc 27, some 6, none) := by kernel_rfl
theorem ZL : (nM[8]?).map iG = some (.store 27 (.tmp 6) (.tmp 46), none, none) := by kernel_rfl
theorem ZM : (nM[9]?).map iG = some (.assign (.const (.bool true)), some 7, none) := by kernel_rfl
def fH (z : gW) : Nat → V
  | 0 => .ptr 2 0
  | 1 => .sl 0 0 (jO z)
  | 2 => .sl 4 0 (jO z)
  | 3 => .ptr 2 1
  | 4 => .sl 1 0 (jP z)
  | 5 => .sl 5 0 (jP z)
  | 6 => .g [.sl 4 0 (jO z), .sl 5 0 (jP z)]
  | 7 => .ptr 6 0
  | 8 => V.no
  | 9 => .bool true
  | _ => .any
def gI (z : gW) (k : Nat) (l : List (Nat × V)) : List V := uJ l (uJ (an5 k [(0, 40), (1, 41), (2, 42), (3, 43), (4, 44), (5, 45), (6, 46), (7, 6), (9, 7)] (fH z)) (aWB z))
def gJ (z : gW) : Prop := (decide ((SL z).length = (jO z) ∧ 1 ≤ (jO z) ∧ (jO z) < 2147483648)) = true ∧ (decide ((SN z).length = (jP z) ∧ 1 ≤ (jP z) ∧ (jP z) < 2147483648)) = true
abbrev gQ (z : gW) (m k : Nat) (t : List V) (h : H) : Prop := nO Try.prog nM (Q5 [1, 2, 4, 6, 7] 4 (⟨(.any :: .int .i64 (ayP z) :: .ptr 2 0 :: .any :: .ptr 3 0 :: .any :: .ptr 4 0 :: .bool true :: (fE 68 [])), [.at (ayQ z) (.fl .f32 (SL z)), .at (ayR z) (.fl .f32 (SN z)), .at true (.as 1 [.sl 0 0 (jO z), .sl 1 0 (jP z)]), .at true (.as 1 [.nil, .nil]), .at true (.as 1 [.sl 5 0 (jO z), .sl 6 0 (jP z)]), .at true (.fl .f32 (SL z)), .at true (.fl .f32 (SN z))]⟩ : St)) m (uZ 10 k) t h
def aHP (z : gW) : Nat → B
  | 0 => .at true (.fl .f32 (SL z))
  | 1 => .at true (.fl .f32 (SN z))
  | 2 => .at true (.as 1 [.sl 4 0 (jO z), .sl 5 0 (jP z)])
  | 3 => .at true (.as 1 [.nil, .nil])
  | 4 => .at true (.as 1 [.sl 4 0 (jO z), .sl 6 0 (jP z)])
  | 5 => .at true (.as 1 [.sl 5 0 (jO z), .sl 6 0 (jP z)])
  | _ => .gone
def gK (z : gW) (l : List Nat) : H := aWC z ++ l.map (aHP z)
theorem aBS {z : gW} (hc : gJ z) : gQ z 0 1023 (gI z 1023 []) (gK z [0, 1, 2]) := ⟨by kernel_rfl, [0, 1, 2, 3, 6, 4, 5], by decide, by decide, by kernel_rfl, by kernel_rfl⟩
theorem aBT {z : gW} (hc : gJ z) : gQ z 1 511 (gI z 511 []) (gK z [0, 1, 2]) := bM (aA (v := fH z 9) bT ZM (aBS hc))
theorem ah4 {z : gW} (hc : gJ z) : gQ z 2 255 (gI z 255 []) (gK z [0, 1, 3]) := bM (aA (v := fH z 8) bT ZL (aBT hc))
theorem aBU {z : gW} (hc : gJ z) : gQ z 3 127 (gI z 127 []) (gK z [0, 1]) := bM (aA (v := fH z 7) bT mO (ah4 hc))
theorem aBV {z : gW} (hc : gJ z) : gQ z 3 191 (gI z 191 []) (gK z [0, 1, 3]) := bM (aA (v := fH z 6) bT MV (ah4 hc))
theorem aBW {z : gW} (hc : gJ z) : gQ z 4 63 (gI z 63 []) (gK z [0, 1]) := bF (aA (v := fH z 6) bT MV (aBU hc)) (aA (v := fH z 7) bT mO (aBV hc))
theorem aBX {z : gW} (hc : gJ z) : gQ z 0 1023 (gI z 1023 [(6, .ptr 5 0), (45, .sl 6 0 (jP z)), (46, .g [.sl 4 0 (jO z), .sl 6 0 (jP z)])]) (gK z [0, 4, 1]) := ⟨by kernel_rfl, [0, 1, 2, 3, 5, 4, 6], by decide, by decide, by kernel_rfl, by kernel_rfl⟩
theorem aBY {z : gW} (hc : gJ z) : gQ z 1 511 (gI z 511 [(6, .ptr 5 0), (45, .sl 6 0 (jP z)), (46, .g [.sl 4 0 (jO z), .sl 6 0 (jP z)])]) (gK z [0, 4, 1]) := bM (aA (v := fH z 9) bT ZM (aBX hc))
theorem aBZ {z : gW} (hc : gJ z) : gQ z 2 255 (gI z 255 [(6, .ptr 5 0), (45, .sl 6 0 (jP z)), (46, .g [.sl 4 0 (jO z), .sl 6 0 (jP z)])]) (gK z [0, 3, 1]) := bM (aA (v := fH z 8) bT ZL (aBY hc))
theorem atW {z : gW} (hc : gJ z) : gQ z 3 191 (gI z 191 [(6, .ptr 5 0), (45, .sl 6 0 (jP z))]) (gK z [0, 3, 1]) := bM (aA (v := .g [.sl 4 0 (jO z), .sl 6 0 (jP z)]) bT MV (aBZ hc))
theorem afA {z : gW} (hc : gJ z) : gQ z 4 159 (gI z 159 [(6, .ptr 5 0)]) (gK z [0, 3]) := bM (bK (v := .sl 6 0 (jP z)) bT ZK hc.2 (atW hc))
theorem afB {z : gW} (hc : gJ z) : gQ z 5 31 (gI z 31 []) (gK z [0]) := bF (bK (v := fH z 5) bT ZK hc.2 (aBW hc)) (aA (v := .ptr 5 0) bT mO (afA hc))
theorem afC {z : gW} (hc : gJ z) : gQ z 5 143 (gI z 143 [(6, .ptr 5 0)]) (gK z [0, 3]) := bM (aA (v := fH z 4) bT qY (afA hc))
theorem afD {z : gW} (hc : gJ z) : gQ z 6 15 (gI z 15 []) (gK z [0]) := bF (aA (v := fH z 4) bT qY (afB hc)) (aA (v := .ptr 5 0) bT mO (afC hc))
theorem atX {z : gW} (hc : gJ z) : gQ z 6 135 (gI z 135 [(6, .ptr 5 0)]) (gK z [0, 3]) := bM (aA (v := fH z 3) bT qX (afC hc))
theorem atY {z : gW} (hc : gJ z) : gQ z 7 7 (gI z 7 []) (gK z [0]) := bF (aA (v := fH z 3) bT qX (afD hc)) (aA (v := .ptr 5 0) bT mO (atX hc))
theorem atZ {z : gW} (hc : gJ z) : gQ z 0 1023 (gI z 1023 [(6, .ptr 4 0), (42, .sl 5 0 (jO z)), (45, .sl 6 0 (jP z)), (46, .g [.sl 5 0 (jO z), .sl 6 0 (jP z)])]) (gK z [5, 0, 1]) := ⟨by kernel_rfl, [0, 1, 2, 3, 4, 5, 6], by decide, by decide, by kernel_rfl, by kernel_rfl⟩
theorem at1 {z : gW} (hc : gJ z) : gQ z 1 511 (gI z 511 [(6, .ptr 4 0), (42, .sl 5 0 (jO z)), (45, .sl 6 0 (jP z)), (46, .g [.sl 5 0 (jO z), .sl 6 0 (jP z)])]) (gK z [5, 0, 1]) := bM (aA (v := fH z 9) bT ZM (atZ hc))
theorem at6 {z : gW} (hc : gJ z) : gQ z 2 255 (gI z 255 [(6, .ptr 4 0), (42, .sl 5 0 (jO z)), (45, .sl 6 0 (jP z)), (46, .g [.sl 5 0 (jO z), .sl 6 0 (jP z)])]) (gK z [3, 0, 1]) := bM (aA (v := fH z 8) bT ZL (at1 hc))
theorem at7 {z : gW} (hc : gJ z) : gQ z 3 191 (gI z 191 [(6, .ptr 4 0), (42, .sl 5 0 (jO z)), (45, .sl 6 0 (jP z))]) (gK z [3, 0, 1]) := bM (aA (v := .g [.sl 5 0 (jO z), .sl 6 0 (jP z)]) bT MV (at6 hc))
theorem afE {z : gW} (hc : gJ z) : gQ z 4 159 (gI z 159 [(6, .ptr 4 0), (42, .sl 5 0 (jO z))]) (gK z [3, 0]) := bM (bK (v := .sl 6 0 (jP z)) bT ZK hc.2 (at7 hc))
theorem QE {z : gW} (hc : gJ z) : gQ z 5 155 (gI z 155 [(6, .ptr 4 0)]) (gK z [3]) := bM (bK (v := .sl 5 0 (jO z)) bT xU hc.1 (afE hc))
theorem afF {z : gW} (hc : gJ z) : gQ z 6 27 (gI z 27 []) (gK z []) := bF (bK (v := fH z 2) bT xU hc.1 (afB hc)) (aA (v := .ptr 4 0) bT mO (QE hc))
theorem afG {z : gW} (hc : gJ z) : gQ z 5 143 (gI z 143 [(6, .ptr 4 0), (42, .sl 5 0 (jO z))]) (gK z [3, 0]) := bM (aA (v := fH z 4) bT qY (afE hc))
theorem QF {z : gW} (hc : gJ z) : gQ z 6 139 (gI z 139 [(6, .ptr 4 0)]) (gK z [3]) := bF (bK (v := .sl 5 0 (jO z)) bT xU hc.1 (afG hc)) (aA (v := fH z 4) bT qY (QE hc))
theorem afH {z : gW} (hc : gJ z) : gQ z 7 11 (gI z 11 []) (gK z []) := bH (bK (v := fH z 2) bT xU hc.1 (afD hc)) (aA (v := fH z 4) bT qY (afF hc)) (aA (v := .ptr 4 0) bT mO (QF hc))
theorem auA {z : gW} (hc : gJ z) : gQ z 6 135 (gI z 135 [(6, .ptr 4 0), (42, .sl 5 0 (jO z))]) (gK z [3, 0]) := bM (aA (v := fH z 3) bT qX (afG hc))
theorem afI {z : gW} (hc : gJ z) : gQ z 7 131 (gI z 131 [(6, .ptr 4 0)]) (gK z [3]) := bF (bK (v := .sl 5 0 (jO z)) bT xU hc.1 (auA hc)) (aA (v := fH z 3) bT qX (QF hc))
theorem auB {z : gW} (hc : gJ z) : gQ z 8 3 (gI z 3 []) (gK z []) := bH (bK (v := fH z 2) bT xU hc.1 (atY hc)) (aA (v := fH z 3) bT qX (afH hc)) (aA (v := .ptr 4 0) bT mO (afI hc))
theorem QG {z : gW} (hc : gJ z) : gQ z 6 153 (gI z 153 [(6, .ptr 4 0)]) (gK z [3]) := bM (aA (v := fH z 1) bT xQ (QE hc))
theorem afJ {z : gW} (hc : gJ z) : gQ z 7 25 (gI z 25 []) (gK z []) := bF (aA (v := fH z 1) bT xQ (afF hc)) (aA (v := .ptr 4 0) bT mO (QG hc))
theorem QH {z : gW} (hc : gJ z) : gQ z 7 137 (gI z 137 [(6, .ptr 4 0)]) (gK z [3]) := bF (aA (v := fH z 1) bT xQ (QF hc)) (aA (v := fH z 4) bT qY (QG hc))
theorem afK {z : gW} (hc : gJ z) : gQ z 8 9 (gI z 9 []) (gK z []) := bH (aA (v := fH z 1) bT xQ (afH hc)) (aA (v := fH z 4) bT qY (afJ hc)) (aA (v := .ptr 4 0) bT mO (QH hc))
theorem afL {z : gW} (hc : gJ z) : gQ z 8 129 (gI z 129 [(6, .ptr 4 0)]) (gK z [3]) := bF (aA (v := fH z 1) bT xQ (afI hc)) (aA (v := fH z 3) bT qX (QH hc))
theorem auC {z : gW} (hc : gJ z) : gQ z 9 1 (gI z 1 []) (gK z []) := bH (aA (v := fH z 1) bT xQ (auB hc)) (aA (v := fH z 3) bT qX (afK hc)) (aA (v := .ptr 4 0) bT mO (afL hc))
theorem afM {z : gW} (hc : gJ z) : gQ z 7 152 (gI z 152 [(6, .ptr 4 0)]) (gK z [3]) := bM (aA (v := fH z 0) bT xO (QG hc))
theorem auD {z : gW} (hc : gJ z) : gQ z 8 24 (gI z 24 []) (gK z []) := bF (aA (v := fH z 0) bT xO (afJ hc)) (aA (v := .ptr 4 0) bT mO (afM hc))
theorem afN {z : gW} (hc : gJ z) : gQ z 8 136 (gI z 136 [(6, .ptr 4 0)]) (gK z [3]) := bF (aA (v := fH z 0) bT xO (QH hc)) (aA (v := fH z 4) bT qY (afM hc))
theorem auE {z : gW} (hc : gJ z) : gQ z 9 8 (gI z 8 []) (gK z []) := bH (aA (v := fH z 0) bT xO (afK hc)) (aA (v := fH z 4) bT qY (auD hc)) (aA (v := .ptr 4 0) bT mO (afN hc))
theorem auF {z : gW} (hc : gJ z) : gQ z 9 128 (gI z 128 [(6, .ptr 4 0)]) (gK z [3]) := bF (aA (v := fH z 0) bT xO (afL hc)) (aA (v := fH z 3) bT qX (afN hc))
theorem auG {z : gW} (hc : gJ z) : gQ z 10 0 (gI z 0 []) (gK z []) := bH (aA (v := fH z 0) bT xO (auC hc)) (aA (v := fH z 3) bT qX (auE hc)) (aA (v := .ptr 4 0) bT mO (auF hc))
theorem auH (z0 : Int) (z3 : Bool) (z4 : List Nat) (z5 : Bool) (z6 : List Nat) (z8 : Nat) (z10 : Nat) (hc : gJ (z0, z3, z4, z5, z6, z8, z10)) {st : St} (hl : st.t.length = 76) (et : rG [1, 2, 4] 76 st.t = (.any :: .int .i64 z0 :: .ptr 2 0 :: .any :: .ptr 3 0 :: (fE 71 []))) (eh : st.h = [.at z3 (.fl .f32 z4), .at z5 (.fl .f32 z6), .at true (.as 1 [.sl 0 0 z8, .sl 1 0 z10]), .at true (.as 1 [.nil, .nil])]) {μ0 : Mu} {h0 : H} {w0 : World} {Q : Exit → Act → World → Prop} (hQ : ∀ μ a w, Inv μ0 h0 w0 μ (⟨(.any :: .int .i64 z0 :: .ptr 2 0 :: .any :: .ptr 3 0 :: .any :: .ptr 4 0 :: .bool true :: (fE 68 [])), [.at z3 (.fl .f32 z4), .at z5 (.fl .f32 z6), .at true (.as 1 [.sl 0 0 z8, .sl 1 0 z10]), .at true (.as 1 [.nil, .nil]), .at true (.as 1 [.sl 5 0 z8, .sl 6 0 z10]), .at true (.fl .f32 z4), .at true (.fl .f32 z6)]⟩ : St) a w → Q .normal a w) {μ : Mu} {a : Act} {w : World} (hi : Inv μ0 h0 w0 μ st a w) : (Code.region 3 nM true).wp Try.prog Q a w :=
  told (L0 := uZ 10 0) (T0 := gI (z0, z3, z4, z5, z6, z8, z10) 0 []) (H0 := gK (z0, z3, z4, z5, z6, z8, z10) []) [1, 2, 4, 6, 7] mixed (by kernel_rfl : nM.size = 10) (by kernel_rfl) hl (et.trans (by kernel_rfl)) (eh.trans (by kernel_rfl)) rfl (auG hc) hQ hi
set_option maxRecDepth 100000 in
theorem aHQ : vC Try.prog 3 nM true atV := by
  intro μ0 h0 w0 st st' hg Q hQ μ a w hi
  unfold atV at hg
  split at hg
  case h_2 => cases hg
  rename_i hl_
  have hl_ := of_decide_eq_true hl_
  split at hg
  case h_2 => cases hg
  rename_i z0 e1_
  split at hg
  case h_2 => cases hg
  rename_i e2_
  split at hg
  case h_2 => cases hg
  rename_i e4_
  split at hg
  case h_2 => cases hg
  rename_i z3 z4 z5 z6 z8 z10 eh_
  have hg := Option.some.inj hg
  have hc := congrArg Prod.fst hg
  have hg := congrArg Prod.snd hg
  dsimp only at hc hg
  subst hg
  obtain ⟨hc, hc1⟩ := Bool.and_eq_true_iff.mp hc
  have hc0 := hc
  exact auH z0 z3 z4 z5 z6 z8 z10 ⟨hc0, hc1⟩ hl_ ((qH (T0 := (.any :: .int .i64 z0 :: .ptr 2 0 :: .any :: .ptr 3 0 :: (fE 71 []))) (fun i hi => by
    simp only [List.mem_cons, List.not_mem_nil, or_false] at hi
    rcases hi with rfl | rfl | rfl
    · exact e1_.trans rfl
    · exact e2_.trans rfl
    · exact e4_.trans rfl)).trans (by kernel_rfl)) eh_ hQ hi
noncomputable def BK : GsA := fun i => if i = 3 then some (tu1 atV) else none
theorem aHR : (jL (codeOf Try.f18)).filter (fun p => (BK p.1).isSome) = [(3, nM, true)] := by kernel_rfl
theorem ah5 : qA Try.prog BK (codeOf Try.f18) := by
  refine qJ _ fun p hp g hg => ?_
  have h : p ∈ (jL (codeOf Try.f18)).filter (fun p => (BK p.1).isSome) := List.mem_filter.2 ⟨hp, by rw [hg]; rfl⟩
  rw [aHR] at h
  simp only [List.mem_cons, List.not_mem_nil, or_false] at h
  rcases h with rfl
  · cases hg; exact yT aHQ
theorem aHS (N : Nat) (n : Nat) (m : Nat) (r0 : Bool) (l0 : List Nat) (r1 : Bool) (l1 : List Nat) : uQ ty KF fB BK (N + 8) Try.f18 [.g [.sl 0 0 n, .sl 1 0 m], .int .i64 1] [.at r0 (.fl .f32 l0), .at r1 (.fl .f32 l1)]
    = (match decide (l0.length = n ∧ n < 2147483648 ∧ l1.length = m ∧ m < 2147483648) with | true => (match !(vsB l0 l1) with | true => some (.tup [.g [.nil, .nil], .a (.bool false)], [.at r0 (.fl .f32 l0), .at r1 (.fl .f32 l1)]) | false => (match ((n : Nat) : Int) == 0 with | true => some (.tup [.g [.nil, .nil], .a (.bool false)], [.at r0 (.fl .f32 l0), .at r1 (.fl .f32 l1)]) | false => (match decide (0 ≤ (0 : Int) ∧ (0 : Int) < ((m : Nat) : Int)) with | true => (match l1[0]? with | some e1 => (match decide (0 ≤ (IntKind.i64.wrap (((m : Nat) : Int) - 1) : Int) ∧ (IntKind.i64.wrap (((m : Nat) : Int) - 1) : Int) < ((m : Nat) : Int)) with | true => (match l1[0 + (IntKind.i64.wrap (((m : Nat) : Int) - 1)).toNat * 1]? with | some e2 => (match decide (e1 < 4294967296 ∧ e2 < 4294967296) with | true => (match !(sN e1 e2) with | true => some (.tup [.g [.nil, .nil], .a (.bool false)], [.at r0 (.fl .f32 l0), .at r1 (.fl .f32 l1)]) | false => (match (decide (l0.length = n ∧ 1 ≤ n ∧ n < 2147483648)) && (decide (l1.length = m ∧ 1 ≤ m ∧ m < 2147483648)) with | true => some (.tup [.g [.sl 2 0 n, .sl 3 0 m], .a (.bool true)], [.at r0 (.fl .f32 l0), .at r1 (.fl .f32 l1), .at true (.fl .f32 l0), .at true (.fl .f32 l1)]) | false => none)) | false => none) | none => none) | false => none) | none => none) | false => none))) | false => none) := by
  kernel_rfl
theorem aWD {l0 l1 : List Nat} (r0 r1 : Bool) (hl0 : l0.length < 2147483648) (hl1 : l1.length < 2147483648) (w1 : w32 l1 = true) : uQ ty KF fB BK 9 Try.f18 [.g [.sl 0 0 l0.length, .sl 1 0 l1.length], .int .i64 1] [.at r0 (.fl .f32 l0), .at r1 (.fl .f32 l1)] = (match tX l0 l1 1 with | true => some (V.tup [.g [.sl 2 0 (rpE l0 l1 1).length, .sl 3 0 (rpM l0 l1 1).length], .a (.bool true)], ([.at r0 (.fl .f32 l0), .at r1 (.fl .f32 l1), .at true (.fl .f32 (rpE l0 l1 1)), .at true (.fl .f32 (rpM l0 l1 1))] : H)) | false => some (V.tup [.g [.nil, .nil], .a (.bool false)], ([.at r0 (.fl .f32 l0), .at r1 (.fl .f32 l1)] : H))) := by
  refine Eq.trans (aHS 1 l0.length l1.length r0 l0 r1 l1) ?_
  have hd0 : decide (l0.length = l0.length ∧ l0.length < 2147483648 ∧ l1.length = l1.length ∧ l1.length < 2147483648) = true := decide_eq_true ⟨rfl, hl0, rfl, hl1⟩
  rw [hd0]
  cases v1 : vsB l0 l1 with
  | false => unfold tX; rw [v1]; rfl
  | true =>
  rw [show (!true) = false from rfl]
  cases hb : decide (1 ≤ l0.length) with
  | false =>
    have hb' := of_decide_eq_false hb
    rw [show (((l0.length : Nat) : Int) == 0) = true from beq_iff_eq.mpr (by omega)]
    unfold tX
    rw [v1, hb]
    rfl
  | true =>
  have hb' := of_decide_eq_true hb
  rw [show (((l0.length : Nat) : Int) == 0) = false from beq_eq_false_iff_ne.mpr (by omega)]
  have a1 := akD v1
  have jp0 := ae9 v1 hb' w1
  have hw0 : IntKind.i64.wrap (((l0.length : Nat) : Int) - 1) = ((l0.length - 1 : Nat) : Int) := by rw [kP (by omega) (by omega)]; omega
  have hw1 : IntKind.i64.wrap (((l1.length : Nat) : Int) - 1) = ((l1.length - 1 : Nat) : Int) := by rw [kP (by omega) (by omega)]; omega
  have hi0 : 0 + (IntKind.i64.wrap (((l0.length : Nat) : Int) - 1)).toNat * 1 = l0.length - 1 := by rw [hw0]; exact ix
  have hi1 : 0 + (IntKind.i64.wrap (((l1.length : Nat) : Int) - 1)).toNat * 1 = l1.length - 1 := by rw [hw1]; exact ix
  have hin : inB (1) 1 5 = true := rfl
  rw [show (decide (0 ≤ (0 : Int) ∧ (0 : Int) < ((l1.length : Nat) : Int))) = true from decide_eq_true (by omega)]
  rw [show l1[0]? = some (l1.getD 0 0) from iY (by omega)]
  try dsimp only
  rw [show (decide (0 ≤ (IntKind.i64.wrap (((l1.length : Nat) : Int) - 1) : Int) ∧ (IntKind.i64.wrap (((l1.length : Nat) : Int) - 1) : Int) < ((l1.length : Nat) : Int))) = true from by rw [hw1]; exact decide_eq_true (by omega)]
  rw [show l1[0 + (IntKind.i64.wrap (((l1.length : Nat) : Int) - 1)).toNat * 1]? = some (l1.getD (l1.length - 1) 0) from (by rw [hi1]; exact iY (by omega))]
  try dsimp only
  rw [show (decide ((l1.getD 0 0) < 4294967296 ∧ (l1.getD (l1.length - 1) 0) < 4294967296)) = true from decide_eq_true ⟨QD w1 (by omega), QD w1 (by omega)⟩]
  cases hs : sN (l1.getD 0 0) (l1.getD (l1.length - 1) 0) with
  | false =>
    unfold tX
    rw [hs]
    simp only [Bool.false_and, Bool.and_false, Bool.not_false]
  | true =>
  rw [Bool.not_true]
  rw [show ((decide (l0.length = l0.length ∧ 1 ≤ l0.length ∧ l0.length < 2147483648)) && (decide (l1.length = l1.length ∧ 1 ≤ l1.length ∧ l1.length < 2147483648))) = true from by
    rw [decide_eq_true (show l0.length = l0.length ∧ 1 ≤ l0.length ∧ l0.length < 2147483648 from ⟨rfl, by omega, by omega⟩), decide_eq_true (show l1.length = l1.length ∧ 1 ≤ l1.length ∧ l1.length < 2147483648 from ⟨rfl, by omega, by omega⟩)]
    rfl]
  have hr : rpR l0 l1 1 = some (l0, l1) := by
    show rpN l0 l1 (rpG l0) 0 l0 l1 = _
    rfl
  unfold rpE rpM
  rw [show tX l0 l1 1 = true from by unfold tX; rw [v1, hb, hin, hs, hr]; rfl, hr]
  try rfl
theorem aPB : FnT Try.prog 18 (aPA 1) := by
  refine AX abV bT mixed Try.func18 rfl rfl fB BK ah5 fun vs h v h' e => ?_
  unfold aPA at e
  split at e
  case h_2 => exact (T.no_inv e).elim
  rename_i n m t r0 l0 r1 l1
  obtain ⟨ht, e0⟩ := T.pre_inv e
  obtain rfl := of_decide_eq_true ht
  obtain ⟨hd, e1⟩ := T.pre_inv e0
  obtain ⟨rfl, hl0, rfl, hl1, w1⟩ := of_decide_eq_true hd
  refine ⟨9, (aWD r0 r1 hl0 hl1 w1).trans ?_⟩
  rw [← e1]
  all_goals (cases tX l0 l1 1 <;> rfl)
def akE : Ann := ⟨fun r =>  none, fun r n => if r = 7 ∧ n = 15 then .grow else .quiet⟩
theorem aHT (N : Nat) (n : Nat) (m : Nat) (r0 : Bool) (l0 : List Nat) (r1 : Bool) (l1 : List Nat) : uQ ty KF akE BK (N + 8) Try.f18 [.g [.sl 0 0 n, .sl 1 0 m], .int .i64 2] [.at r0 (.fl .f32 l0), .at r1 (.fl .f32 l1)]
    = (match decide (l0.length = n ∧ n < 2147483648 ∧ l1.length = m ∧ m < 2147483648) with | true => (match !(vsB l0 l1) with | true => some (.tup [.g [.nil, .nil], .a (.bool false)], [.at r0 (.fl .f32 l0), .at r1 (.fl .f32 l1)]) | false => (match ((n : Nat) : Int) == 0 with | true => some (.tup [.g [.nil, .nil], .a (.bool false)], [.at r0 (.fl .f32 l0), .at r1 (.fl .f32 l1)]) | false => (match decide (0 ≤ (0 : Int) ∧ (0 : Int) < ((m : Nat) : Int)) with | true => (match l1[0]? with | some e1 => (match decide (0 ≤ (IntKind.i64.wrap (((m : Nat) : Int) - 1) : Int) ∧ (IntKind.i64.wrap (((m : Nat) : Int) - 1) : Int) < ((m : Nat) : Int)) with | true => (match l1[0 + (IntKind.i64.wrap (((m : Nat) : Int) - 1)).toNat * 1]? with | some e2 => (match decide (e1 < 4294967296 ∧ e2 < 4294967296) with | true => (match !(sN e1 e2) with | true => some (.tup [.g [.nil, .nil], .a (.bool false)], [.at r0 (.fl .f32 l0), .at r1 (.fl .f32 l1)]) | false => (match (decide (l0.length = n ∧ 1 ≤ n ∧ n < 2147483648)) && (decide (l1.length = m ∧ 1 ≤ m ∧ m < 2147483648)) with | true => (match decide (0 ≤ (IntKind.i64.wrap (((n : Nat) : Int) - 1) : Int) ∧ (IntKind.i64.wrap (((n : Nat) : Int) - 1) : Int) < ((n : Nat) : Int)) with | true => (match l0[0 + (IntKind.i64.wrap (((n : Nat) : Int) - 1)).toNat * 1]? with | some e3 => (match decide (0 ≤ (0 : Int) ∧ (0 : Int) < ((n : Nat) : Int)) with | true => (match l0[0]? with | some e4 => (match decide (l0.length = n ∧ l1.length = m ∧ l0.length = n ∧ l1.length = m) with | true => (match atU l0 l1 l0 l1 with | true => (match jOk l0 l1 l0 l1 (fop .sub .f32 e3 e4) with | true => some (.tup [.g [.sl 2 0 ((jE l0 l0 (fop .sub .f32 e3 e4)).length), .sl 3 0 ((jM l1 l1).length)], .a (.bool true)], [.at r0 (.fl .f32 l0), .at r1 (.fl .f32 l1), .at true (.fl .f32 (jE l0 l0 (fop .sub .f32 e3 e4))), .at true (.fl .f32 (jM l1 l1))]) | false => some (.tup [.g [.nil, .nil], .a (.bool false)], [.at r0 (.fl .f32 l0), .at r1 (.fl .f32 l1)])) | false => none) | false => none) | none => none) | false => none) | none => none) | false => none) | false => none)) | false => none) | none => none) | false => none) | none => none) | false => none))) | false => none) := by
  kernel_rfl
theorem aWE {l0 l1 : List Nat} (r0 r1 : Bool) (hl0 : l0.length < 2147483648) (hl1 : l1.length < 2147483648) (w1 : w32 l1 = true) : uQ ty KF akE BK 9 Try.f18 [.g [.sl 0 0 l0.length, .sl 1 0 l1.length], .int .i64 2] [.at r0 (.fl .f32 l0), .at r1 (.fl .f32 l1)] = (match tX l0 l1 2 with | true => some (V.tup [.g [.sl 2 0 (rpE l0 l1 2).length, .sl 3 0 (rpM l0 l1 2).length], .a (.bool true)], ([.at r0 (.fl .f32 l0), .at r1 (.fl .f32 l1), .at true (.fl .f32 (rpE l0 l1 2)), .at true (.fl .f32 (rpM l0 l1 2))] : H)) | false => some (V.tup [.g [.nil, .nil], .a (.bool false)], ([.at r0 (.fl .f32 l0), .at r1 (.fl .f32 l1)] : H))) := by
  refine Eq.trans (aHT 1 l0.length l1.length r0 l0 r1 l1) ?_
  have hd0 : decide (l0.length = l0.length ∧ l0.length < 2147483648 ∧ l1.length = l1.length ∧ l1.length < 2147483648) = true := decide_eq_true ⟨rfl, hl0, rfl, hl1⟩
  rw [hd0]
  cases v1 : vsB l0 l1 with
  | false => unfold tX; rw [v1]; rfl
  | true =>
  rw [show (!true) = false from rfl]
  cases hb : decide (1 ≤ l0.length) with
  | false =>
    have hb' := of_decide_eq_false hb
    rw [show (((l0.length : Nat) : Int) == 0) = true from beq_iff_eq.mpr (by omega)]
    unfold tX
    rw [v1, hb]
    rfl
  | true =>
  have hb' := of_decide_eq_true hb
  rw [show (((l0.length : Nat) : Int) == 0) = false from beq_eq_false_iff_ne.mpr (by omega)]
  have a1 := akD v1
  have jp0 := ae9 v1 hb' w1
  have hw0 : IntKind.i64.wrap (((l0.length : Nat) : Int) - 1) = ((l0.length - 1 : Nat) : Int) := by rw [kP (by omega) (by omega)]; omega
  have hw1 : IntKind.i64.wrap (((l1.length : Nat) : Int) - 1) = ((l1.length - 1 : Nat) : Int) := by rw [kP (by omega) (by omega)]; omega
  have hi0 : 0 + (IntKind.i64.wrap (((l0.length : Nat) : Int) - 1)).toNat * 1 = l0.length - 1 := by rw [hw0]; exact ix
  have hi1 : 0 + (IntKind.i64.wrap (((l1.length : Nat) : Int) - 1)).toNat * 1 = l1.length - 1 := by rw [hw1]; exact ix
  have hin : inB (2) 1 5 = true := rfl
  rw [show (decide (0 ≤ (0 : Int) ∧ (0 : Int) < ((l1.length : Nat) : Int))) = true from decide_eq_true (by omega)]
  rw [show l1[0]? = some (l1.getD 0 0) from iY (by omega)]
  try dsimp only
  rw [show (decide (0 ≤ (IntKind.i64.wrap (((l1.length : Nat) : Int) - 1) : Int) ∧ (IntKind.i64.wrap (((l1.length : Nat) : Int) - 1) : Int) < ((l1.length : Nat) : Int))) = true from by rw [hw1]; exact decide_eq_true (by omega)]
  rw [show l1[0 + (IntKind.i64.wrap (((l1.length : Nat) : Int) - 1)).toNat * 1]? = some (l1.getD (l1.length - 1) 0) from (by rw [hi1]; exact iY (by omega))]
  try dsimp only
  rw [show (decide ((l1.getD 0 0) < 4294967296 ∧ (l1.getD (l1.length - 1) 0) < 4294967296)) = true from decide_eq_true ⟨QD w1 (by omega), QD w1 (by omega)⟩]
  cases hs : sN (l1.getD 0 0) (l1.getD (l1.length - 1) 0) with
  | false =>
    unfold tX
    rw [hs]
    simp only [Bool.false_and, Bool.and_false, Bool.not_false]
  | true =>
  rw [Bool.not_true]
  rw [show ((decide (l0.length = l0.length ∧ 1 ≤ l0.length ∧ l0.length < 2147483648)) && (decide (l1.length = l1.length ∧ 1 ≤ l1.length ∧ l1.length < 2147483648))) = true from by
    rw [decide_eq_true (show l0.length = l0.length ∧ 1 ≤ l0.length ∧ l0.length < 2147483648 from ⟨rfl, by omega, by omega⟩), decide_eq_true (show l1.length = l1.length ∧ 1 ≤ l1.length ∧ l1.length < 2147483648 from ⟨rfl, by omega, by omega⟩)]
    rfl]
  rw [show (decide (0 ≤ (IntKind.i64.wrap (((l0.length : Nat) : Int) - 1) : Int) ∧ (IntKind.i64.wrap (((l0.length : Nat) : Int) - 1) : Int) < ((l0.length : Nat) : Int))) = true from by rw [hw0]; exact decide_eq_true (by omega)]
  rw [show l0[0 + (IntKind.i64.wrap (((l0.length : Nat) : Int) - 1)).toNat * 1]? = some (l0.getD (l0.length - 1) 0) from (by rw [hi0]; exact iY (by omega))]
  try dsimp only
  rw [show (decide (0 ≤ (0 : Int) ∧ (0 : Int) < ((l0.length : Nat) : Int))) = true from decide_eq_true (by omega)]
  rw [show l0[0]? = some (l0.getD 0 0) from iY (by omega)]
  try dsimp only
  rw [show (decide (l0.length = l0.length ∧ l1.length = l1.length ∧ l0.length = l0.length ∧ l1.length = l1.length)) = true from decide_eq_true (by omega)]
  rw [show fop .sub .f32 (l0.getD (l0.length - 1) 0) (l0.getD 0 0) = rpG l0 from rfl]
  have jp0_ : atU l0 l1 l0 l1 = true := jp0
  rw [jp0_]
  cases h1 : jOk l0 l1 l0 l1 (rpG l0) with
  | false =>
    have hr : rpR l0 l1 2 = none := by
      show rpN l0 l1 (rpG l0) 1 l0 l1 = none
      simp only [rpN, h1]
    unfold tX
    rw [hr, v1, hb]
    simp only [Option.isSome_none, Bool.and_false]
  | true =>
  have hr : rpR l0 l1 2 = some ((jE l0 l0 (rpG l0)), (jM l1 l1)) := by
    show rpN l0 l1 (rpG l0) 1 l0 l1 = _
    simp only [rpN, h1]
  unfold rpE rpM
  rw [show tX l0 l1 2 = true from by unfold tX; rw [v1, hb, hin, hs, hr]; rfl, hr]
  try rfl
theorem aPC : FnT Try.prog 18 (aPA 2) := by
  refine AX abV bT mixed Try.func18 rfl rfl akE BK ah5 fun vs h v h' e => ?_
  unfold aPA at e
  split at e
  case h_2 => exact (T.no_inv e).elim
  rename_i n m t r0 l0 r1 l1
  obtain ⟨ht, e0⟩ := T.pre_inv e
  obtain rfl := of_decide_eq_true ht
  obtain ⟨hd, e1⟩ := T.pre_inv e0
  obtain ⟨rfl, hl0, rfl, hl1, w1⟩ := of_decide_eq_true hd
  refine ⟨9, (aWE r0 r1 hl0 hl1 w1).trans ?_⟩
  rw [← e1]
  all_goals (cases tX l0 l1 2 <;> rfl)
def ao6 : GT := fun vs h => match vs, h with
  | [.g [.sl 0 0 n, .sl 1 0 m], .int .i64 t], [.at r0 (.fl .f32 l0), .at r1 (.fl .f32 l1)] => .ite (decide (t = 1 ∨ t = 2)) (gRp [.g [.sl 0 0 n, .sl 1 0 m], .int .i64 t] [.at r0 (.fl .f32 l0), .at r1 (.fl .f32 l1)]) .no
  | _, _ => .no
theorem ZN : FnT Try.prog 18 ao6 := fun vs hp v h' e => by
  have e' := e
  unfold ao6 at e'
  split at e'
  case h_2 => exact (T.no_inv e').elim
  rename_i n m t r0 l0 r1 l1
  obtain ⟨ht, e0⟩ := T.pre_inv e'
  rcases of_decide_eq_true ht with rfl | rfl
  · exact aPB _ _ _ _ e0
  · exact aPC _ _ _ _ e0
def haI (l0 : List Nat) (x : Nat) : Nat := match oI (fun e => !(gtB x e || eqB x e)) l0 0 with | some j => j | none => l0.length
def gHt : GT := fun vs h => match vs, h with
  | [.g [.sl 0 0 n, .sl 1 0 m], .fl .f32 x], [.at r0 (.fl .f32 l0), .at r1 (.fl .f32 l1)] => .ite (decide (l0.length = n ∧ n < 2147483648 ∧ l1.length = m ∧ m = n + 1)) (.ret (.fl .f32 (l1.getD (haI l0 x) 0)) [.at r0 (.fl .f32 l0), .at r1 (.fl .f32 l1)]) .no
  | _, _ => .no
def akF : Ann := ⟨fun r => if r = 2 then some ([1, 2, 5], [2, 5]) else none, fun _ _ => .quiet⟩
def acX : Fns := gX []
theorem aB0 : ∀ f, FnT Try.prog f (acX f) := bJ
def acY (x1 : Nat) (i5 : Int) (rw0 : Bool) (l0 : List Nat) (rw1 : Bool) (l1 : List Nat) (b2_0n : Nat) (b2_1n : Nat) : St := ⟨(.any :: .fl .f32 x1 :: .ptr 2 0 :: .any :: .any :: .int .i64 i5 :: (fE 21 [])), [.at rw0 (.fl .f32 l0), .at rw1 (.fl .f32 l1), .at true (.as 1 [.sl 0 0 b2_0n, .sl 1 0 b2_1n])]⟩
abbrev aPD : Option (List Nat × List Nat) := some ([1, 2, 5], [2, 5])
noncomputable def acZ {R : Type} (N M : Nat) (s : St) (K : X → St → Option R) : Option R := pO 2 aPD (fun st K => exec ty acX akF N 2 (oD [true, true, false, false, false] Try.f41) st K) M s K
noncomputable def ac0 {R : Type} (N : Nat) (K : X → St → Option R) : X → St → Option R := rF 0 (yS acX akF N 2 (oD [true, true, true] Try.f41) (K))
def MW (i5 : Int) (rw0 : Bool) (l0 : List Nat) (rw1 : Bool) (l1 : List Nat) (b2_0n : Nat) (b2_1n : Nat) : St := ⟨(.any :: .any :: .ptr 2 0 :: .any :: .any :: .int .i64 i5 :: (fE 21 [])), [.at rw0 (.fl .f32 l0), .at rw1 (.fl .f32 l1), .at true (.as 1 [.sl 0 0 b2_0n, .sl 1 0 b2_1n])]⟩
theorem aPE (N : Nat) (n : Nat) (m : Nat) (x : Nat) (r0 : Bool) (l0 : List Nat) (r1 : Bool) (l1 : List Nat) : run ty acX akF N Try.f41 [.g [.sl 0 0 n, .sl 1 0 m], .fl .f32 x] [.at r0 (.fl .f32 l0), .at r1 (.fl .f32 l1)]
    = acZ N N (acY x 0 r0 l0 r1 l1 n m) (ac0 N (mF Try.f41 2)) := by
  kernel_rfl
theorem ah6 {R : Type} (N M : Nat) (K : X → St → Option R) (x1 : Nat) (i5 : Int) (rw0 : Bool) (l0 : List Nat) (rw1 : Bool) (l1 : List Nat) (b2_0n : Nat) (b2_1n : Nat) : acZ N (M + 1) (acY x1 i5 rw0 l0 rw1 l1 b2_0n b2_1n) K
    = (match decide ((i5 : Int) < ((b2_0n : Nat) : Int)) with | true => (match decide (0 ≤ (i5 : Int) ∧ (i5 : Int) < ((b2_0n : Nat) : Int)) with | true => (match l0[0 + (i5).toNat * 1]? with | some e1 => (match gtB x1 e1 || eqB x1 e1 with | true => acZ N M (acY x1 (IntKind.i64.wrap (i5 + 1)) rw0 l0 rw1 l1 b2_0n b2_1n) K | false => K (.exit 0) (MW i5 rw0 l0 rw1 l1 b2_0n b2_1n)) | none => none) | false => none) | false => K (.exit 0) (MW i5 rw0 l0 rw1 l1 b2_0n b2_1n)) := by
  kernel_rfl
theorem auI (N : Nat) (i5 : Int) (rw0 : Bool) (l0 : List Nat) (rw1 : Bool) (l1 : List Nat) (b2_0n : Nat) (b2_1n : Nat) : ac0 N (mF Try.f41 2) (.exit 0) (MW i5 rw0 l0 rw1 l1 b2_0n b2_1n)
    = (match decide (0 ≤ (i5 : Int) ∧ (i5 : Int) < ((b2_1n : Nat) : Int)) with | true => (match l1[0 + (i5).toNat * 1]? with | some e1 => some (.fl .f32 e1, [.at rw0 (.fl .f32 l0), .at rw1 (.fl .f32 l1)]) | none => none) | false => none) := by
  kernel_rfl
theorem aWF : FnT Try.prog 41 gHt := by
  refine fnT aB0 Try.func41 rfl rfl akF fun vs h v h' e => ?_
  unfold gHt at e
  split at e
  case h_2 => exact (T.no_inv e).elim
  rename_i n m x r0 l0 r1 l1
  obtain ⟨hd, e⟩ := T.pre_inv e
  obtain ⟨rfl, rfl⟩ := T.ret_inv e
  obtain ⟨rfl, hb, hm, rfl⟩ := of_decide_eq_true hd
  refine ⟨l0.length + 1, Eq.trans (aPE _ l0.length (l0.length + 1) x r0 l0 r1 l1) ?_⟩
  have fin : ∀ j, j ≤ l0.length → ac0 (l0.length + 1) (mF Try.f41 2) (.exit 0) (MW ((j : Nat) : Int) r0 l0 r1 l1 l0.length (l0.length + 1)) = some (.fl .f32 (l1.getD j 0), [.at r0 (.fl .f32 l0), .at r1 (.fl .f32 l1)]) := by
    intro j hj
    rw [auI, din (show j < l0.length + 1 by omega), ix, iY (show j < l1.length by omega)]
  refine Eq.trans (anX l0 (fun e => !(gtB x e || eqB x e)) (fun M i => acZ (l0.length + 1) M (acY x i r0 l0 r1 l1 l0.length (l0.length + 1)) (ac0 (l0.length + 1) (mF Try.f41 2))) (fun j => some (.fl .f32 (l1.getD j 0), [.at r0 (.fl .f32 l0), .at r1 (.fl .f32 l1)])) (some (.fl .f32 (l1.getD l0.length 0), [.at r0 (.fl .f32 l0), .at r1 (.fl .f32 l1)])) (fun M i y hy => ?_) (fun M => ?_)) ?_
  · have hi := xM hy
    rw [ah6, dlt hi, din hi, ix, hy]
    dsimp only
    rw [fin i (by omega), wr (show i < 2147483648 by omega)]
    cases gtB x y || eqB x y <;> rfl
  · rw [ah6, dge (Nat.le_refl _), fin l0.length (Nat.le_refl _)]
  · unfold haI
    cases oI (fun e => !(gtB x e || eqB x e)) l0 0 <;> rfl
def gHa : GT := fun vs h => match vs, h with
  | [.g [.sl 0 0 n, .sl 1 0 m], .fl .f32 x], [.at r0 (.fl .f32 l0), .at r1 (.fl .f32 l1)] => .ite (decide (l0.length = n ∧ n < 2147483648 ∧ l1.length = m ∧ m < 2147483648) && (vsB l0 l1 && iH x)) (.ret (.tup [.a (.fl .f32 (l1.getD (haI l0 x) 0)), .a (.bool true)]) [.at r0 (.fl .f32 l0), .at r1 (.fl .f32 l1)]) .no
  | _, _ => .no
def ayS : Fns := gX [(11, gVs), (25, gT (gF1 iH)), (41, gHt)]
theorem aB1 : ∀ f, FnT Try.prog f (ayS f) := (aC (k := 11) nY (aC (k := 25) uI (aC (k := 41) aWF bJ)))
theorem aPF (N : Nat) (n : Nat) (m : Nat) (x : Nat) (r0 : Bool) (l0 : List Nat) (r1 : Bool) (l1 : List Nat) : run ty ayS fB N Try.f15 [.g [.sl 0 0 n, .sl 1 0 m], .fl .f32 x] [.at r0 (.fl .f32 l0), .at r1 (.fl .f32 l1)]
    = (match decide (l0.length = n ∧ n < 2147483648 ∧ l1.length = m ∧ m < 2147483648) with | true => (match !(vsB l0 l1) with | true => some (.tup [.a (.fl .f32 0), .a (.bool false)], [.at r0 (.fl .f32 l0), .at r1 (.fl .f32 l1)]) | false => (match !(iH x) with | true => some (.tup [.a (.fl .f32 0), .a (.bool false)], [.at r0 (.fl .f32 l0), .at r1 (.fl .f32 l1)]) | false => (match decide (l0.length = n ∧ n < 2147483648 ∧ l1.length = m ∧ m = n + 1) with | true => some (.tup [.a (.fl .f32 (l1.getD (haI l0 x) 0)), .a (.bool true)], [.at r0 (.fl .f32 l0), .at r1 (.fl .f32 l1)]) | false => none))) | false => none) := by
  kernel_rfl
theorem ayT {e m : List Nat} (h : vsB e m = true) : e.length < 12 ∧ m.length = e.length + 1 := by
  unfold vsB at h
  simp only [Bool.and_eq_true, decide_eq_true_eq] at h
  exact ⟨h.1, h.2.1⟩
theorem aHU : FnT Try.prog 15 gHa := by
  refine fnT aB1 Try.func15 rfl rfl fB fun vs h v h' e => ⟨0, ?_⟩
  unfold gHa at e
  split at e
  case h_2 => exact (T.no_inv e).elim
  rename_i n m x r0 l0 r1 l1
  obtain ⟨hd, e⟩ := T.pre_inv e
  obtain ⟨rfl, rfl⟩ := T.ret_inv e
  rw [Bool.and_eq_true, Bool.and_eq_true] at hd
  obtain ⟨hs, hv, hx⟩ := hd
  refine Eq.trans (aPF 0 n m x r0 l0 r1 l1) ?_
  obtain ⟨rfl, hb, rfl, hb2⟩ := of_decide_eq_true hs
  have hl := ayT hv
  rw [hs, hv, hx, decide_eq_true (show l0.length = l0.length ∧ l0.length < 2147483648 ∧ l1.length = l1.length ∧ l1.length = l0.length + 1 from ⟨rfl, hb, rfl, hl.2⟩)]
  try rfl
def gRv : GT := fun vs h => match vs, h with
  | [.sl 0 0 n], [.at true (.fl .f32 l)] => .ite (decide (l.length = n ∧ (n = 1 ∨ n = 2 ∨ n = 3 ∨ n = 4))) (.ret V.no [.at true (.fl .f32 l.reverse)]) .no
  | _, _ => .no
def ayU : Fns := gX []
theorem aB2 : ∀ f, FnT Try.prog f (ayU f) := bJ
theorem aPG (N : Nat) (a0 : Nat) : run ty ayU fB (N + 3) Try.f23 [.sl 0 0 1] [.at true (.fl .f32 [a0])]
    = some (V.no, [.at true (.fl .f32 [a0])]) := by
  kernel_rfl
def ayV : Fns := gX []
theorem aB3 : ∀ f, FnT Try.prog f (ayV f) := bJ
theorem aPH (N : Nat) (a0 : Nat) (a1 : Nat) : run ty ayV fB (N + 3) Try.f23 [.sl 0 0 2] [.at true (.fl .f32 [a0, a1])]
    = some (V.no, [.at true (.fl .f32 [a1, a0])]) := by
  kernel_rfl
def ayW : Fns := gX []
theorem aB4 : ∀ f, FnT Try.prog f (ayW f) := bJ
theorem aPI (N : Nat) (a0 : Nat) (a1 : Nat) (a2 : Nat) : run ty ayW fB (N + 3) Try.f23 [.sl 0 0 3] [.at true (.fl .f32 [a0, a1, a2])]
    = some (V.no, [.at true (.fl .f32 [a2, a1, a0])]) := by
  kernel_rfl
def ayX : Fns := gX []
theorem aB5 : ∀ f, FnT Try.prog f (ayX f) := bJ
theorem aPJ (N : Nat) (a0 : Nat) (a1 : Nat) (a2 : Nat) (a3 : Nat) : run ty ayX fB (N + 3) Try.f23 [.sl 0 0 4] [.at true (.fl .f32 [a0, a1, a2, a3])]
    = some (V.no, [.at true (.fl .f32 [a3, a2, a1, a0])]) := by
  kernel_rfl
theorem ayY : FnT Try.prog 23 gRv := by
  intro vs h v h' e
  unfold gRv at e
  split at e
  case h_2 => exact (T.no_inv e).elim
  rename_i n l
  obtain ⟨hd, e⟩ := T.pre_inv e
  obtain ⟨rfl, rfl⟩ := T.ret_inv e
  obtain ⟨rfl, hn⟩ := of_decide_eq_true hd
  match l, hn with
  | [a], _ => exact FnT.runs aB2 Try.func23 rfl rfl fB 3 _ _ _ _ (by rw [T.run_of]; exact aPG 0 a)
  | [a, b], _ => exact FnT.runs aB3 Try.func23 rfl rfl fB 3 _ _ _ _ (by rw [T.run_of]; exact aPH 0 a b)
  | [a, b, c], _ => exact FnT.runs aB4 Try.func23 rfl rfl fB 3 _ _ _ _ (by rw [T.run_of]; exact aPI 0 a b c)
  | [a, b, c, d], _ => exact FnT.runs aB5 Try.func23 rfl rfl fB 3 _ _ _ _ (by rw [T.run_of]; exact aPJ 0 a b c d)
  | [], h => exact absurd h (by decide)
  | a :: b :: c :: d :: e :: l, h => exact absurd h (by simp)
def tE (l : List Nat) : List Nat := l.reverse.map fun x => fop .sub .f32 0 x
def ab1 (l0 l1 : List Nat) : Bool := decide (1 ≤ l0.length ∧ l0.length ≤ 3) && (vsB l0 l1 && vsB (tE l0) l1.reverse)
def gTs : GT := fun vs h => match vs, h with
  | [.g [.sl 0 0 n, .sl 1 0 m]], [.at r0 (.fl .f32 l0), .at r1 (.fl .f32 l1)] => .ite (decide (l0.length = n ∧ n < 2147483648 ∧ l1.length = m ∧ m < 2147483648) && ab1 l0 l1) (.ret (.tup [.g [.sl 2 0 (tE l0).length, .sl 3 0 l1.reverse.length], .a (.bool true)]) [.at r0 (.fl .f32 l0), .at r1 (.fl .f32 l1), .at true (.fl .f32 (tE l0)), .at true (.fl .f32 l1.reverse)]) .no
  | _, _ => .no
def akG : Fns := gX [(11, gVs), (22, aoR), (23, gRv), (24, aeI)]
theorem aB6 : ∀ f, FnT Try.prog f (akG f) := (aC (k := 11) nY (aC (k := 22) MS (aC (k := 23) ayY (aC (k := 24) aeJ bJ))))
theorem aPK (N : Nat) (m : Nat) (r0 : Bool) (a0 : Nat) (r1 : Bool) (l1 : List Nat) : run ty akG fB (N + 4) Try.f8 [.g [.sl 0 0 1, .sl 1 0 m]] [.at r0 (.fl .f32 [a0]), .at r1 (.fl .f32 l1)]
    = (match decide ([a0].length = 1 ∧ 1 < 2147483648 ∧ l1.length = m ∧ m < 2147483648) with | true => (match !(vsB [a0] l1) with | true => some (.tup [.g [.nil, .nil], .a (.bool false)], [.at r0 (.fl .f32 [a0]), .at r1 (.fl .f32 l1)]) | false => (match decide (l1.length = m ∧ 1 ≤ m ∧ m < 2147483648) with | true => (match decide (l1.length = m ∧ (m = 1 ∨ m = 2 ∨ m = 3 ∨ m = 4)) with | true => (match decide ([fop .sub .f32 0 a0].length = 1 ∧ 1 < 2147483648 ∧ l1.reverse.length = m ∧ m < 2147483648) with | true => (match vsB [fop .sub .f32 0 a0] l1.reverse with | true => some (.tup [.g [.sl 2 0 1, .sl 3 0 m], .a (.bool true)], [.at r0 (.fl .f32 [a0]), .at r1 (.fl .f32 l1), .at true (.fl .f32 [fop .sub .f32 0 a0]), .at true (.fl .f32 l1.reverse)]) | false => some (.tup [.g [.nil, .nil], .a (.bool false)], [.at r0 (.fl .f32 [a0]), .at r1 (.fl .f32 l1)])) | false => none) | false => none) | false => none)) | false => none) := by
  kernel_rfl
theorem aYY (r0 r1 : Bool) (a0 : Nat) (l1 : List Nat) (hm : l1.length = 2) (h1 : vsB [a0] l1 = true) (h2 : vsB [fop .sub .f32 0 a0] l1.reverse = true) : run ty akG fB 4 Try.f8 [.g [.sl 0 0 1, .sl 1 0 l1.length]] [.at r0 (.fl .f32 [a0]), .at r1 (.fl .f32 l1)] = some (.tup [.g [.sl 2 0 1, .sl 3 0 l1.reverse.length], .a (.bool true)], [.at r0 (.fl .f32 [a0]), .at r1 (.fl .f32 l1), .at true (.fl .f32 [fop .sub .f32 0 a0]), .at true (.fl .f32 l1.reverse)]) := by
  refine Eq.trans (aPK 0 l1.length r0 a0 r1 l1) ?_
  have hr : l1.reverse.length = l1.length := List.length_reverse
  rw [h1, h2, decide_eq_true (show l1.length = l1.length ∧ 1 ≤ l1.length ∧ l1.length < 2147483648 by omega), decide_eq_true (show l1.length = l1.length ∧ (l1.length = 1 ∨ l1.length = 2 ∨ l1.length = 3 ∨ l1.length = 4) by omega), decide_eq_true (show [a0].length = 1 ∧ 1 < 2147483648 ∧ l1.length = l1.length ∧ l1.length < 2147483648 from ⟨rfl, by decide, rfl, by omega⟩), decide_eq_true (show [fop .sub .f32 0 a0].length = 1 ∧ 1 < 2147483648 ∧ l1.reverse.length = l1.length ∧ l1.length < 2147483648 from ⟨rfl, by decide, hr, by omega⟩), hr]
  try rfl
def akH : Fns := gX [(11, gVs), (22, aoR), (23, gRv), (24, aeI)]
theorem aB7 : ∀ f, FnT Try.prog f (akH f) := (aC (k := 11) nY (aC (k := 22) MS (aC (k := 23) ayY (aC (k := 24) aeJ bJ))))
theorem aPL (N : Nat) (m : Nat) (r0 : Bool) (a0 : Nat) (a1 : Nat) (r1 : Bool) (l1 : List Nat) : run ty akH fB (N + 4) Try.f8 [.g [.sl 0 0 2, .sl 1 0 m]] [.at r0 (.fl .f32 [a0, a1]), .at r1 (.fl .f32 l1)]
    = (match decide ([a0, a1].length = 2 ∧ 2 < 2147483648 ∧ l1.length = m ∧ m < 2147483648) with | true => (match !(vsB [a0, a1] l1) with | true => some (.tup [.g [.nil, .nil], .a (.bool false)], [.at r0 (.fl .f32 [a0, a1]), .at r1 (.fl .f32 l1)]) | false => (match decide (l1.length = m ∧ 1 ≤ m ∧ m < 2147483648) with | true => (match decide (l1.length = m ∧ (m = 1 ∨ m = 2 ∨ m = 3 ∨ m = 4)) with | true => (match decide ([fop .sub .f32 0 a1, fop .sub .f32 0 a0].length = 2 ∧ 2 < 2147483648 ∧ l1.reverse.length = m ∧ m < 2147483648) with | true => (match vsB [fop .sub .f32 0 a1, fop .sub .f32 0 a0] l1.reverse with | true => some (.tup [.g [.sl 2 0 2, .sl 3 0 m], .a (.bool true)], [.at r0 (.fl .f32 [a0, a1]), .at r1 (.fl .f32 l1), .at true (.fl .f32 [fop .sub .f32 0 a1, fop .sub .f32 0 a0]), .at true (.fl .f32 l1.reverse)]) | false => some (.tup [.g [.nil, .nil], .a (.bool false)], [.at r0 (.fl .f32 [a0, a1]), .at r1 (.fl .f32 l1)])) | false => none) | false => none) | false => none)) | false => none) := by
  kernel_rfl
theorem aYZ (r0 r1 : Bool) (a0 a1 : Nat) (l1 : List Nat) (hm : l1.length = 3) (h1 : vsB [a0, a1] l1 = true) (h2 : vsB [fop .sub .f32 0 a1, fop .sub .f32 0 a0] l1.reverse = true) : run ty akH fB 4 Try.f8 [.g [.sl 0 0 2, .sl 1 0 l1.length]] [.at r0 (.fl .f32 [a0, a1]), .at r1 (.fl .f32 l1)] = some (.tup [.g [.sl 2 0 2, .sl 3 0 l1.reverse.length], .a (.bool true)], [.at r0 (.fl .f32 [a0, a1]), .at r1 (.fl .f32 l1), .at true (.fl .f32 [fop .sub .f32 0 a1, fop .sub .f32 0 a0]), .at true (.fl .f32 l1.reverse)]) := by
  refine Eq.trans (aPL 0 l1.length r0 a0 a1 r1 l1) ?_
  have hr : l1.reverse.length = l1.length := List.length_reverse
  rw [h1, h2, decide_eq_true (show l1.length = l1.length ∧ 1 ≤ l1.length ∧ l1.length < 2147483648 by omega), decide_eq_true (show l1.length = l1.length ∧ (l1.length = 1 ∨ l1.length = 2 ∨ l1.length = 3 ∨ l1.length = 4) by omega), decide_eq_true (show [a0, a1].length = 2 ∧ 2 < 2147483648 ∧ l1.length = l1.length ∧ l1.length < 2147483648 from ⟨rfl, by decide, rfl, by omega⟩), decide_eq_true (show [fop .sub .f32 0 a1, fop .sub .f32 0 a0].length = 2 ∧ 2 < 2147483648 ∧ l1.reverse.length = l1.length ∧ l1.length < 2147483648 from ⟨rfl, by decide, hr, by omega⟩), hr]
  try rfl
def akI : Fns := gX [(11, gVs), (22, aoR), (23, gRv), (24, aeI)]
theorem aB8 : ∀ f, FnT Try.prog f (akI f) := (aC (k := 11) nY (aC (k := 22) MS (aC (k := 23) ayY (aC (k := 24) aeJ bJ))))
theorem aPM (N : Nat) (m : Nat) (r0 : Bool) (a0 : Nat) (a1 : Nat) (a2 : Nat) (r1 : Bool) (l1 : List Nat) : run ty akI fB (N + 4) Try.f8 [.g [.sl 0 0 3, .sl 1 0 m]] [.at r0 (.fl .f32 [a0, a1, a2]), .at r1 (.fl .f32 l1)]
    = (match decide ([a0, a1, a2].length = 3 ∧ 3 < 2147483648 ∧ l1.length = m ∧ m < 2147483648) with | true => (match !(vsB [a0, a1, a2] l1) with | true => some (.tup [.g [.nil, .nil], .a (.bool false)], [.at r0 (.fl .f32 [a0, a1, a2]), .at r1 (.fl .f32 l1)]) | false => (match decide (l1.length = m ∧ 1 ≤ m ∧ m < 2147483648) with | true => (match decide (l1.length = m ∧ (m = 1 ∨ m = 2 ∨ m = 3 ∨ m = 4)) with | true => (match decide ([fop .sub .f32 0 a2, fop .sub .f32 0 a1, fop .sub .f32 0 a0].length = 3 ∧ 3 < 2147483648 ∧ l1.reverse.length = m ∧ m < 2147483648) with | true => (match vsB [fop .sub .f32 0 a2, fop .sub .f32 0 a1, fop .sub .f32 0 a0] l1.reverse with | true => some (.tup [.g [.sl 2 0 3, .sl 3 0 m], .a (.bool true)], [.at r0 (.fl .f32 [a0, a1, a2]), .at r1 (.fl .f32 l1), .at true (.fl .f32 [fop .sub .f32 0 a2, fop .sub .f32 0 a1, fop .sub .f32 0 a0]), .at true (.fl .f32 l1.reverse)]) | false => some (.tup [.g [.nil, .nil], .a (.bool false)], [.at r0 (.fl .f32 [a0, a1, a2]), .at r1 (.fl .f32 l1)])) | false => none) | false => none) | false => none)) | false => none) := by
  kernel_rfl
theorem aY0 (r0 r1 : Bool) (a0 a1 a2 : Nat) (l1 : List Nat) (hm : l1.length = 4) (h1 : vsB [a0, a1, a2] l1 = true) (h2 : vsB [fop .sub .f32 0 a2, fop .sub .f32 0 a1, fop .sub .f32 0 a0] l1.reverse = true) : run ty akI fB 4 Try.f8 [.g [.sl 0 0 3, .sl 1 0 l1.length]] [.at r0 (.fl .f32 [a0, a1, a2]), .at r1 (.fl .f32 l1)] = some (.tup [.g [.sl 2 0 3, .sl 3 0 l1.reverse.length], .a (.bool true)], [.at r0 (.fl .f32 [a0, a1, a2]), .at r1 (.fl .f32 l1), .at true (.fl .f32 [fop .sub .f32 0 a2, fop .sub .f32 0 a1, fop .sub .f32 0 a0]), .at true (.fl .f32 l1.reverse)]) := by
  refine Eq.trans (aPM 0 l1.length r0 a0 a1 a2 r1 l1) ?_
  have hr : l1.reverse.length = l1.length := List.length_reverse
  rw [h1, h2, decide_eq_true (show l1.length = l1.length ∧ 1 ≤ l1.length ∧ l1.length < 2147483648 by omega), decide_eq_true (show l1.length = l1.length ∧ (l1.length = 1 ∨ l1.length = 2 ∨ l1.length = 3 ∨ l1.length = 4) by omega), decide_eq_true (show [a0, a1, a2].length = 3 ∧ 3 < 2147483648 ∧ l1.length = l1.length ∧ l1.length < 2147483648 from ⟨rfl, by decide, rfl, by omega⟩), decide_eq_true (show [fop .sub .f32 0 a2, fop .sub .f32 0 a1, fop .sub .f32 0 a0].length = 3 ∧ 3 < 2147483648 ∧ l1.reverse.length = l1.length ∧ l1.length < 2147483648 from ⟨rfl, by decide, hr, by omega⟩), hr]
  try rfl
theorem ZO : FnT Try.prog 8 gTs := by
  intro vs h v h' e
  unfold gTs at e
  split at e
  case h_2 => exact (T.no_inv e).elim
  rename_i n m r0 l0 r1 l1
  obtain ⟨hd, e⟩ := T.pre_inv e
  obtain ⟨rfl, rfl⟩ := T.ret_inv e
  unfold ab1 at hd
  simp only [Bool.and_eq_true] at hd
  obtain ⟨hs, hn, h1, h2⟩ := hd
  obtain ⟨rfl, hb, rfl, hb2⟩ := of_decide_eq_true hs
  have hn := of_decide_eq_true hn
  have hm := (ayT h1).2
  clear hs e
  match l0, hn, hm, h1, h2 with
  | [a0], _, hm, h1, h2 => exact FnT.runs aB6 Try.func8 rfl rfl fB 4 _ _ _ _ (by rw [T.run_of]; exact aYY _ _ _ _ hm h1 h2)
  | [a0, a1], _, hm, h1, h2 => exact FnT.runs aB7 Try.func8 rfl rfl fB 4 _ _ _ _ (by rw [T.run_of]; exact aYZ _ _ _ _ _ hm h1 h2)
  | [a0, a1, a2], _, hm, h1, h2 => exact FnT.runs aB8 Try.func8 rfl rfl fB 4 _ _ _ _ (by rw [T.run_of]; exact aY0 _ _ _ _ _ _ hm h1 h2)
  | [], h, _, _, _ => exact absurd h.1 (by decide)
  | a :: b :: c :: d :: l, h, _, _, _ => exact absurd h.2 (by simp)
def I7 (l l' : List Nat) : Bool := decide (l = l') && w32 l
def aPN : GT := fun vs h => match vs, h with
  | [.sl 0 0 n, .sl 1 0 m, .fn g], [.at r0 (.fl .f32 l0), .at r1 (.fl .f32 l1)] => if g = 45 then .ite (decide (l0.length = n ∧ n < 2147483648 ∧ l1.length = m ∧ m < 2147483648) && I7 l0 l1) (.ret (.bool true) [.at r0 (.fl .f32 l0), .at r1 (.fl .f32 l1)]) .no else .no
  | _, _ => .no
def akJ : Ann := ⟨fun r => if r = 4 then some ([1, 2, 15, 16, 17], [6]) else none, fun _ _ => .quiet⟩
def ac1 : Fns := gX [(45, gSN)]
theorem aB9 : ∀ f, FnT Try.prog f (ac1 f) := (aC (k := 45) zI bJ)
def ac2 (s21n : Nat) (t15n : Nat) (t16 : Int) (t17 : Int) (rw0 : Bool) (l0 : List Nat) (rw1 : Bool) (l1 : List Nat) : St := ⟨(.any :: .sl 1 0 s21n :: .fn 45 :: (fE 12 (.sl 0 0 t15n :: .int .i64 t16 :: .int .i64 t17 :: (fE 14 [])))), [.at rw0 (.fl .f32 l0), .at rw1 (.fl .f32 l1)]⟩
abbrev aPO : Option (List Nat × List Nat) := some ([1, 2, 15, 16, 17], [6])
noncomputable def ac3 {R : Type} (N M : Nat) (s : St) (K : X → St → Option R) : Option R := pO 2 aPO (fun st K => exec ty ac1 akJ N 2 (oD [true, true, false, true, false, false] Try.f59) st K) M s K
noncomputable def akK {R : Type} (N : Nat) (K : X → St → Option R) : X → St → Option R := rF 0 (yS ac1 akJ N 2 (oD [true, true, true] Try.f59) (K))
def aCA (rw0 : Bool) (l0 : List Nat) (rw1 : Bool) (l1 : List Nat) : St := ⟨(fE 6 (.bool false :: (fE 25 []))), [.at rw0 (.fl .f32 l0), .at rw1 (.fl .f32 l1)]⟩
def ah7 (rw0 : Bool) (l0 : List Nat) (rw1 : Bool) (l1 : List Nat) : St := ⟨(fE 32 []), [.at rw0 (.fl .f32 l0), .at rw1 (.fl .f32 l1)]⟩
theorem aPP (N : Nat) (n : Nat) (m : Nat) (r0 : Bool) (l0 : List Nat) (r1 : Bool) (l1 : List Nat) : run ty ac1 akJ N Try.f59 [.sl 0 0 n, .sl 1 0 m, .fn 45] [.at r0 (.fl .f32 l0), .at r1 (.fl .f32 l1)]
    = (match ((n : Nat) : Int) != ((m : Nat) : Int) with | true => some (.bool false, [.at r0 (.fl .f32 l0), .at r1 (.fl .f32 l1)]) | false => ac3 N N (ac2 m n ((n : Nat) : Int) 0 r0 l0 r1 l1) (akK N (mF Try.f59 2))) := by
  kernel_rfl
theorem ah8 {R : Type} (N M : Nat) (K : X → St → Option R) (s21n : Nat) (t15n : Nat) (t16 : Int) (t17 : Int) (rw0 : Bool) (l0 : List Nat) (rw1 : Bool) (l1 : List Nat) : ac3 N (M + 1) (ac2 s21n t15n t16 t17 rw0 l0 rw1 l1) K
    = (match decide ((t17 : Int) < t16) with | true => (match decide (0 ≤ (t17 : Int) ∧ (t17 : Int) < ((t15n : Nat) : Int)) with | true => (match l0[0 + (t17).toNat * 1]? with | some e1 => (match decide (0 ≤ (t17 : Int) ∧ (t17 : Int) < ((s21n : Nat) : Int)) with | true => (match l1[0 + (t17).toNat * 1]? with | some e2 => (match decide (e1 < 4294967296 ∧ e2 < 4294967296) with | true => (match !(sN e1 e2) with | true => K .ret (aCA rw0 l0 rw1 l1) | false => ac3 N M (ac2 s21n t15n t16 (IntKind.i64.wrap (t17 + 1)) rw0 l0 rw1 l1) K) | false => none) | none => none) | false => none) | none => none) | false => none) | false => K (.exit 0) (ah7 rw0 l0 rw1 l1)) := by
  kernel_rfl
theorem auJ (N : Nat) (rw0 : Bool) (l0 : List Nat) (rw1 : Bool) (l1 : List Nat) : akK N (mF Try.f59 2) (.exit 0) (ah7 rw0 l0 rw1 l1)
    = some (.bool true, [.at rw0 (.fl .f32 l0), .at rw1 (.fl .f32 l1)]) := by
  kernel_rfl
theorem aHV : FnT Try.prog 59 aPN := by
  refine fnT aB9 Try.func59 rfl rfl akJ fun vs h v h' e => ?_
  unfold aPN at e
  split at e
  case h_2 => exact (T.no_inv e).elim
  rename_i n m g r0 l0 r1 l1
  split at e
  case isFalse => exact (T.no_inv e).elim
  rename_i hg
  subst hg
  obtain ⟨hd, e⟩ := T.pre_inv e
  obtain ⟨rfl, rfl⟩ := T.ret_inv e
  unfold I7 at hd
  simp only [Bool.and_eq_true] at hd
  obtain ⟨hs, hn, hw⟩ := hd
  obtain ⟨rfl, hb, rfl, hb2⟩ := of_decide_eq_true hs
  have hl := of_decide_eq_true hn
  subst hl
  clear hs e hn
  refine ⟨l0.length + 1, Eq.trans (aPP _ l0.length l0.length r0 l0 r1 l0) ?_⟩
  rw [show (((l0.length : Nat) : Int) != ((l0.length : Nat) : Int)) = false by simp]
  refine Eq.trans (anX l0 (fun _ => false) (fun M i => ac3 (l0.length + 1) M (ac2 l0.length l0.length ((l0.length : Nat) : Int) i r0 l0 r1 l0) (akK (l0.length + 1) (mF Try.f59 2))) (fun _ => none) (some (.bool true, [.at r0 (.fl .f32 l0), .at r1 (.fl .f32 l0)])) (fun M i y hy => ?_) (fun M => ?_)) ?_
  · have hi := xM hy
    have hy2 : l0.getD i 0 < 4294967296 := QD hw hi
    rw [List.getD_eq_getElem?_getD, hy, Option.getD_some] at hy2
    have hsn : sN y y = true := by unfold sN; exact beq_self_eq_true _
    rw [ah8, dlt hi, din hi, ix, hy]
    dsimp only
    rw [decide_eq_true (show y < 4294967296 ∧ y < 4294967296 from ⟨hy2, hy2⟩), hsn, wr (show i < 2147483648 by omega)]
    try rfl
  · rw [ah8, dge (Nat.le_refl _), auJ]
  · have : ∀ (l : List Nat) i, oI (fun _ => false) l i = none := by
      intro l
      induction l with
      | nil => intro i; rfl
      | cons x l ih => intro i; exact ih (i + 1)
    rw [this]
def aPQ : GT := fun vs h => match vs, h with
  | [.sl 0 0 n, .sl 1 0 m], [.at r0 (.fl .f32 l0), .at r1 (.fl .f32 l1)] => .ite (decide (l0.length = n ∧ n < 2147483648 ∧ l1.length = m ∧ m < 2147483648) && I7 l0 l1) (.ret (.bool true) [.at r0 (.fl .f32 l0), .at r1 (.fl .f32 l1)]) .no
  | _, _ => .no
def ayZ : Fns := gX [(59, aPN)]
theorem aCB : ∀ f, FnT Try.prog f (ayZ f) := (aC (k := 59) aHV bJ)
theorem aPR (N : Nat) (n : Nat) (m : Nat) (r0 : Bool) (l0 : List Nat) (r1 : Bool) (l1 : List Nat) : run ty ayZ fB N Try.f39 [.sl 0 0 n, .sl 1 0 m] [.at r0 (.fl .f32 l0), .at r1 (.fl .f32 l1)]
    = (match decide (l0.length = n ∧ n < 2147483648 ∧ l1.length = m ∧ m < 2147483648) && I7 l0 l1 with | true => some (.bool true, [.at r0 (.fl .f32 l0), .at r1 (.fl .f32 l1)]) | false => none) := by
  kernel_rfl
theorem aHW : FnT Try.prog 39 aPQ := by
  refine fnT aCB Try.func39 rfl rfl fB fun vs h v h' e => ⟨0, ?_⟩
  unfold aPQ at e
  split at e
  case h_2 => exact (T.no_inv e).elim
  rename_i n m r0 l0 r1 l1
  obtain ⟨hd, e⟩ := T.pre_inv e
  obtain ⟨rfl, rfl⟩ := T.ret_inv e
  refine Eq.trans (aPR 0 n m r0 l0 r1 l1) ?_
  rw [hd]
  try rfl
def ao7 : GT := fun vs h => match vs, h with
  | [.g [.sl 0 0 n, .sl 1 0 m], .g [.sl 2 0 q, .sl 3 0 k]], [.at r0 (.fl .f32 l0), .at r1 (.fl .f32 l1), .at r2 (.fl .f32 l2), .at r3 (.fl .f32 l3)] => .ite ((decide (l0.length = n ∧ n < 2147483648 ∧ l2.length = q ∧ q < 2147483648) && I7 l0 l2) && (decide (l1.length = m ∧ m < 2147483648 ∧ l3.length = k ∧ k < 2147483648) && I7 l1 l3)) (.ret (.bool true) [.at r0 (.fl .f32 l0), .at r1 (.fl .f32 l1), .at r2 (.fl .f32 l2), .at r3 (.fl .f32 l3)]) .no
  | _, _ => .no
def ay0 : Fns := gX [(39, aPQ)]
theorem aCC : ∀ f, FnT Try.prog f (ay0 f) := (aC (k := 39) aHW bJ)
theorem aPS (N : Nat) (n : Nat) (m : Nat) (q : Nat) (k : Nat) (r0 : Bool) (l0 : List Nat) (r1 : Bool) (l1 : List Nat) (r2 : Bool) (l2 : List Nat) (r3 : Bool) (l3 : List Nat) : run ty ay0 fB N Try.f12 [.g [.sl 0 0 n, .sl 1 0 m], .g [.sl 2 0 q, .sl 3 0 k]] [.at r0 (.fl .f32 l0), .at r1 (.fl .f32 l1), .at r2 (.fl .f32 l2), .at r3 (.fl .f32 l3)]
    = (match decide (l0.length = n ∧ n < 2147483648 ∧ l2.length = q ∧ q < 2147483648) && I7 l0 l2 with | true => (match decide (l1.length = m ∧ m < 2147483648 ∧ l3.length = k ∧ k < 2147483648) && I7 l1 l3 with | true => some (.bool true, [.at r0 (.fl .f32 l0), .at r1 (.fl .f32 l1), .at r2 (.fl .f32 l2), .at r3 (.fl .f32 l3)]) | false => none) | false => none) := by
  kernel_rfl
theorem ZP : FnT Try.prog 12 ao7 := by
  refine fnT aCC Try.func12 rfl rfl fB fun vs h v h' e => ⟨0, ?_⟩
  unfold ao7 at e
  split at e
  case h_2 => exact (T.no_inv e).elim
  rename_i n m q k r0 l0 r1 l1 r2 l2 r3 l3
  obtain ⟨hd, e⟩ := T.pre_inv e
  obtain ⟨rfl, rfl⟩ := T.ret_inv e
  rw [Bool.and_eq_true] at hd
  refine Eq.trans (aPS 0 n m q k r0 l0 r1 l1 r2 l2 r3 l3) ?_
  rw [hd.1, hd.2]
  try rfl
def uP (a : Nat) (b : Nat) (i : Int) (n : Int) : Nat := fop .add .f32 a (fop .quo .f32 (fop .mul .f32 (fop .sub .f32 b a) (floatOfInt .f32 i)) (floatOfInt .f32 (IntKind.i64.wrap (n - 1))))
def ay1 : G := fun vs h => match vs, h with | [.fl .f32 a, .fl .f32 b, .int .i64 i, .int .i64 n], [] => some (.fl .f32 (uP a b i n), []) | _, _ => none
def ay2 : Fns := gX []
theorem aCD : ∀ f, FnT Try.prog f (ay2 f) := bJ
theorem aPT (N : Nat) (a : Nat) (b : Nat) (i : Int) (n : Int) : run ty ay2 fB N Try.f44 [.fl .f32 a, .fl .f32 b, .int .i64 i, .int .i64 n] []
    = some (.fl .f32 (fop .add .f32 a (fop .quo .f32 (fop .mul .f32 (fop .sub .f32 b a) (floatOfInt .f32 i)) (floatOfInt .f32 (IntKind.i64.wrap (n - 1))))), []) := by
  kernel_rfl
theorem aHX : FnT Try.prog 44 (gT ay1) := by
  refine fnT aCD Try.func44 rfl rfl fB fun vs h v h' e => ⟨0, ?_⟩
  rw [T.run_of] at e
  unfold ay1 at e
  split at e
  case h_2 => cases e
  cases e
  exact aPT 0 _ _ _ _
def ah9 (n : Int) : Bool := inB n 1 8
def ay3 : G := fun vs h => match vs, h with | [.int .i64 n], [] => some (.bool (ah9 n), []) | _, _ => none
def ay4 : Fns := gX [(43, gT gIn)]
theorem aCE : ∀ f, FnT Try.prog f (ay4 f) := (aC (k := 43) MF bJ)
theorem aPU (N : Nat) (n : Int) : run ty ay4 fB N Try.f42 [.int .i64 n] []
    = some (.bool (inB n 1 8), []) := by
  kernel_rfl
theorem aHY : FnT Try.prog 42 (gT ay3) := by
  refine fnT aCE Try.func42 rfl rfl fB fun vs h v h' e => ⟨0, ?_⟩
  rw [T.run_of] at e
  unfold ay3 at e
  split at e
  case h_2 => cases e
  cases e
  exact aPU 0 _
def eG5 (a b i : Nat) : Nat := uP a b (i : Int) 5
def btR (l0 l1 : List Nat) (a b : Nat) : Nat → Nat → Nat → Nat → Nat × Nat
  | 0, _, best, most => (best, most)
  | t + 1, i, best, most => match gtB (ssT l0 l1 (eG5 a b i)) most with
    | true => btR l0 l1 a b t (i + 1) (eG5 a b i) (ssT l0 l1 (eG5 a b i))
    | false => btR l0 l1 a b t (i + 1) best most
def btB (l0 l1 : List Nat) (a b : Nat) : Bool := (List.range 5).all fun i => uC l0 l1 (eG5 a b i)
def btV (l0 l1 : List Nat) (a b : Nat) : Nat × Nat := btR l0 l1 a b 5 0 0 3212836864
def aCF (l0 l1 : List Nat) (a b : Nat) : Bool := vsB l0 l1 && ((iH a && (iH b && true)) && (!(gtB a b || eqB a b) && btB l0 l1 a b))
def gBt : GT := fun vs h => match vs, h with
  | [.g [.sl 0 0 n, .sl 1 0 m], .fl .f32 a, .fl .f32 b, .int .i64 5], [.at r0 (.fl .f32 l0), .at r1 (.fl .f32 l1)] => .ite (decide (l0.length = n ∧ n < 2147483648 ∧ l1.length = m ∧ m < 2147483648) && aCF l0 l1 a b) (.ret (.tup [.a (.fl .f32 (btV l0 l1 a b).1), .a (.fl .f32 (btV l0 l1 a b).2), .a (.bool true)]) [.at r0 (.fl .f32 l0), .at r1 (.fl .f32 l1)]) .no
  | _, _ => .no
def akL : Ann := ⟨fun r => if r = 5 then some ([1, 2, 3, 4, 11, 12, 38, 39], [8, 9, 10, 11, 12]) else none, fun _ _ => .quiet⟩
def ac4 : Fns := gX [(11, gVs), (21, QZ iH), (43, gT gIn), (44, gT ay1), (7, gSs)]
theorem aCG : ∀ f, FnT Try.prog f (ac4 f) := (aC (k := 11) nY (aC (k := 21) pF (aC (k := 43) MF (aC (k := 44) aHX (aC (k := 7) zL bJ)))))
def SQ (low1 : Nat) (high2 : Nat) (best11 : Nat) (most12 : Nat) (t39 : Int) (rw0 : Bool) (l0 : List Nat) (rw1 : Bool) (l1 : List Nat) (b2_0n : Nat) (b2_1n : Nat) : St := ⟨(.any :: .fl .f32 low1 :: .fl .f32 high2 :: .int .i64 5 :: .ptr 2 0 :: (fE 6 (.fl .f32 best11 :: .fl .f32 most12 :: (fE 25 (.int .i64 5 :: .int .i64 t39 :: (fE 24 [])))))), [.at rw0 (.fl .f32 l0), .at rw1 (.fl .f32 l1), .at true (.as 1 [.sl 0 0 b2_0n, .sl 1 0 b2_1n])]⟩
abbrev aPV : Option (List Nat × List Nat) := some ([1, 2, 3, 4, 11, 12, 38, 39], [8, 9, 10, 11, 12])
noncomputable def SS {R : Type} (N M : Nat) (s : St) (K : X → St → Option R) : Option R := pO 2 aPV (fun st K => exec ty ac4 akL N 2 (oD [true, true, true, false, true, false, false] Try.f17) st K) M s K
noncomputable def akM {R : Type} (N : Nat) (K : X → St → Option R) : X → St → Option R := rF 0 (yS ac4 akL N 2 (oD [true, true, true, true] Try.f17) (K))
def ZQ (best11 : Nat) (most12 : Nat) (rw0 : Bool) (l0 : List Nat) (rw1 : Bool) (l1 : List Nat) : St := ⟨(fE 11 (.fl .f32 best11 :: .fl .f32 most12 :: (fE 51 []))), [.at rw0 (.fl .f32 l0), .at rw1 (.fl .f32 l1)]⟩
theorem aPW (N : Nat) (n : Nat) (m : Nat) (a : Nat) (b : Nat) (r0 : Bool) (l0 : List Nat) (r1 : Bool) (l1 : List Nat) : run ty ac4 akL N Try.f17 [.g [.sl 0 0 n, .sl 1 0 m], .fl .f32 a, .fl .f32 b, .int .i64 5] [.at r0 (.fl .f32 l0), .at r1 (.fl .f32 l1)]
    = (match decide (l0.length = n ∧ n < 2147483648 ∧ l1.length = m ∧ m < 2147483648) with | true => (match !(vsB l0 l1) with | true => some (.tup [.a (.fl .f32 0), .a (.fl .f32 0), .a (.bool false)], [.at r0 (.fl .f32 l0), .at r1 (.fl .f32 l1)]) | false => (match !(iH a && (iH b && true)) with | true => some (.tup [.a (.fl .f32 0), .a (.fl .f32 0), .a (.bool false)], [.at r0 (.fl .f32 l0), .at r1 (.fl .f32 l1)]) | false => (match gtB a b || eqB a b with | true => some (.tup [.a (.fl .f32 0), .a (.fl .f32 0), .a (.bool false)], [.at r0 (.fl .f32 l0), .at r1 (.fl .f32 l1)]) | false => SS N N (SQ a b 0 3212836864 0 r0 l0 r1 l1 n m) (akM N (mF Try.f17 2))))) | false => none) := by
  kernel_rfl
theorem aiA {R : Type} (N M : Nat) (K : X → St → Option R) (low1 : Nat) (high2 : Nat) (best11 : Nat) (most12 : Nat) (t39 : Int) (rw0 : Bool) (l0 : List Nat) (rw1 : Bool) (l1 : List Nat) (b2_0n : Nat) (b2_1n : Nat) : SS N (M + 1) (SQ low1 high2 best11 most12 t39 rw0 l0 rw1 l1 b2_0n b2_1n) K
    = (match decide ((t39 : Int) < 5) with | true => (match decide (l0.length = b2_0n ∧ b2_0n < 2147483648 ∧ l1.length = b2_1n ∧ b2_1n < 2147483648) && uC l0 l1 (uP low1 high2 t39 5) with | true => (match gtB (ssT l0 l1 (uP low1 high2 t39 5)) most12 with | true => SS N M (SQ low1 high2 (uP low1 high2 t39 5) (ssT l0 l1 (uP low1 high2 t39 5)) (IntKind.i64.wrap (t39 + 1)) rw0 l0 rw1 l1 b2_0n b2_1n) K | false => SS N M (SQ low1 high2 best11 most12 (IntKind.i64.wrap (t39 + 1)) rw0 l0 rw1 l1 b2_0n b2_1n) K) | false => none) | false => K (.exit 0) (ZQ best11 most12 rw0 l0 rw1 l1)) := by
  kernel_rfl
theorem auK (N : Nat) (best11 : Nat) (most12 : Nat) (rw0 : Bool) (l0 : List Nat) (rw1 : Bool) (l1 : List Nat) : akM N (mF Try.f17 2) (.exit 0) (ZQ best11 most12 rw0 l0 rw1 l1)
    = some (.tup [.a (.fl .f32 best11), .a (.fl .f32 most12), .a (.bool true)], [.at rw0 (.fl .f32 l0), .at rw1 (.fl .f32 l1)]) := by
  kernel_rfl
theorem auL {R : Type} (M : Nat) (K : X → St → Option R) (a b : Nat) (r0 r1 : Bool) (l0 l1 : List Nat) (hb : decide (l0.length = l0.length ∧ l0.length < 2147483648 ∧ l1.length = l1.length ∧ l1.length < 2147483648) = true) (hB : ∀ i, i < 5 → uC l0 l1 (eG5 a b i) = true) : ∀ t i best most, i + t = 5 →
    SS 40 (M + t + 1) (SQ a b best most ((i : Nat) : Int) r0 l0 r1 l1 l0.length l1.length) K = K (.exit 0) (ZQ (btR l0 l1 a b t i best most).1 (btR l0 l1 a b t i best most).2 r0 l0 r1 l1)
  | 0, i, best, most, hi => by
    have : i = 5 := by omega
    subst this
    rw [aiA]
    rfl
  | t + 1, i, best, most, hi => by
    have hw : IntKind.i64.wrap (((i : Nat) : Int) + 1) = ((i + 1 : Nat) : Int) := wr (by omega)
    have h5 : decide (((i : Nat) : Int) < 5) = true := decide_eq_true (by omega)
    have hs : uC l0 l1 (uP a b ((i : Nat) : Int) 5) = true := hB i (by omega)
    rw [show M + (t + 1) + 1 = (M + t + 1) + 1 by omega, aiA, h5, hb, hs, hw]
    unfold btR
    have e5 : eG5 a b i = uP a b ((i : Nat) : Int) 5 := rfl
    rw [e5]
    cases hg : gtB (ssT l0 l1 (uP a b ((i : Nat) : Int) 5)) most with
    | true => exact auL M K a b r0 r1 l0 l1 hb hB t (i + 1) _ _ (by omega)
    | false => exact auL M K a b r0 r1 l0 l1 hb hB t (i + 1) _ _ (by omega)
theorem ZR : FnT Try.prog 17 gBt := by
  refine fnT aCG Try.func17 rfl rfl akL fun vs h v h' e => ⟨40, ?_⟩
  unfold gBt at e
  split at e
  case h_2 => exact (T.no_inv e).elim
  rename_i n m a b r0 l0 r1 l1
  obtain ⟨hd, e⟩ := T.pre_inv e
  obtain ⟨rfl, rfl⟩ := T.ret_inv e
  unfold aCF at hd
  simp only [Bool.and_eq_true, Bool.not_eq_true'] at hd
  obtain ⟨hs, h1, h2, h3, h4⟩ := hd
  refine Eq.trans (aPW 40 n m a b r0 l0 r1 l1) ?_
  obtain ⟨rfl, hb, rfl, hb2⟩ := of_decide_eq_true hs
  have h2' : (iH a && (iH b && true)) = true := by rw [h2.1, h2.2.1]; rfl
  have hB : ∀ i, i < 5 → uC l0 l1 (eG5 a b i) = true := fun i hi => List.all_eq_true.mp h4 i (List.mem_range.mpr hi)
  rw [hs, h1, h2', h3]
  refine Eq.trans (auL 34 (akM 40 (mF Try.f17 2)) a b r0 r1 l0 l1 hs hB 5 0 0 3212836864 rfl) ?_
  rw [auK]
  try rfl
def agP (l0 l1 : List Nat) (a b : Nat) (q : Int) : Bool := vsB l0 l1 && (ah9 q && (uC l0 l1 a && uC l0 l1 b))
def gSh : GT := fun vs h => match vs, h with
  | [.g [.sl 0 0 n, .sl 1 0 m], .sl 2 0 2, .int .i64 q], [.at r0 (.fl .f32 l0), .at r1 (.fl .f32 l1), .at r2 (.fl .f32 [a, b])] => .ite (decide (l0.length = n ∧ n < 2147483648 ∧ l1.length = m ∧ m < 2147483648) && agP l0 l1 a b q) (.ret (.tup [.a (.sl 3 0 2), .a (.bool true)]) [.at r0 (.fl .f32 l0), .at r1 (.fl .f32 l1), .at r2 (.fl .f32 [a, b]), .at true (.fl .f32 [ssT l0 l1 a, ssT l0 l1 b])]) .no
  | _, _ => .no
def ay5 : Fns := gX [(11, gVs), (42, gT ay3), (7, gSs)]
theorem aCH : ∀ f, FnT Try.prog f (ay5 f) := (aC (k := 11) nY (aC (k := 42) aHY (aC (k := 7) zL bJ)))
theorem aPX (N : Nat) (n : Nat) (m : Nat) (q : Int) (r0 : Bool) (l0 : List Nat) (r1 : Bool) (l1 : List Nat) (r2 : Bool) (a : Nat) (b : Nat) : run ty ay5 fB (N + 3) Try.f16 [.g [.sl 0 0 n, .sl 1 0 m], .sl 2 0 2, .int .i64 q] [.at r0 (.fl .f32 l0), .at r1 (.fl .f32 l1), .at r2 (.fl .f32 [a, b])]
    = (match decide (l0.length = n ∧ n < 2147483648 ∧ l1.length = m ∧ m < 2147483648) with | true => (match !(vsB l0 l1) with | true => some (.tup [.a (.nil), .a (.bool false)], [.at r0 (.fl .f32 l0), .at r1 (.fl .f32 l1), .at r2 (.fl .f32 [a, b])]) | false => (match !(ah9 q) with | true => some (.tup [.a (.nil), .a (.bool false)], [.at r0 (.fl .f32 l0), .at r1 (.fl .f32 l1), .at r2 (.fl .f32 [a, b])]) | false => (match decide (l0.length = n ∧ n < 2147483648 ∧ l1.length = m ∧ m < 2147483648) && uC l0 l1 a with | true => (match decide (l0.length = n ∧ n < 2147483648 ∧ l1.length = m ∧ m < 2147483648) && uC l0 l1 b with | true => some (.tup [.a (.sl 3 0 2), .a (.bool true)], [.at r0 (.fl .f32 l0), .at r1 (.fl .f32 l1), .at r2 (.fl .f32 [a, b]), .at true (.fl .f32 [ssT l0 l1 a, ssT l0 l1 b])]) | false => none) | false => none))) | false => none) := by
  kernel_rfl
theorem ZT : FnT Try.prog 16 gSh := by
  refine fnT aCH Try.func16 rfl rfl fB fun vs h v h' e => ⟨3, ?_⟩
  unfold gSh at e
  split at e
  case h_2 => exact (T.no_inv e).elim
  rename_i n m q r0 l0 r1 l1 r2 a b
  obtain ⟨hd, e⟩ := T.pre_inv e
  obtain ⟨rfl, rfl⟩ := T.ret_inv e
  unfold agP at hd
  simp only [Bool.and_eq_true] at hd
  obtain ⟨hs, h1, h2, h3, h4⟩ := hd
  refine Eq.trans (aPX 0 n m q r0 l0 r1 l1 r2 a b) ?_
  rw [hs, h1, h2, h3, h4]
  try rfl
def qG (n m : Nat) : Bool := decide ((n : Int) > 48) || decide ((m : Int) > 48)
def atOk (n : Nat) (l : List Int) (i : Int) : Bool := decide (l.length = n ∧ n < 2147483648 ∧ 0 ≤ i ∧ i < 1000)
def atF (l : List Int) (i k : Int) : Int := match decide (k ≤ 1) with
  | true => 0
  | false => match l[i.toNat]? with
    | some e => Int.tmod (IntKind.i64.wrap e) k
    | none => 0
def pI (l : List Int) : Bool := l.all (fun e => decide (0 ≤ e ∧ e < 256))
theorem MX {l : List Int} {i k : Int} (hb : pI l = true) (hi : 0 ≤ i) (hi2 : i < 1000) (hk : 1 ≤ k) : 0 ≤ atF l i k ∧ atF l i k < k := by
  unfold atF
  by_cases h1 : k ≤ 1
  · rw [decide_eq_true h1]
    show 0 ≤ (0 : Int) ∧ (0 : Int) < k
    omega
  · rw [decide_eq_false h1]
    dsimp only
    cases he : l[i.toNat]? with
    | some e =>
      obtain ⟨e0, e1⟩ := of_decide_eq_true (List.all_eq_true.mp hb e (List.mem_of_getElem? he))
      show 0 ≤ Int.tmod (IntKind.i64.wrap e) k ∧ Int.tmod (IntKind.i64.wrap e) k < k
      rw [kP (by omega) (by omega), Int.tmod_eq_emod_of_nonneg e0]
      exact ⟨Int.emod_nonneg _ (by omega), Int.emod_lt_of_pos _ (by omega)⟩
    | none =>
      show 0 ≤ (0 : Int) ∧ (0 : Int) < k
      omega
def ay6 : Fns := gX []
theorem aCI : ∀ f, FnT Try.prog f (ay6 f) := bJ
theorem aPY (N : Nat) (n : Nat) (m : Nat) (r : Bool) (l : List Int) (q : Bool) (l' : List Int) : run ty ay6 fB N Try.f4 [.sl 0 0 n, .sl 1 0 m] [.at r (.int .u8 l), .at q (.int .u8 l')]
    = (match decide ((((n : Nat) : Int) : Int) > 48) with | true => some (.bool true, [.at r (.int .u8 l), .at q (.int .u8 l')]) | false => some (.bool (decide ((((m : Nat) : Int) : Int) > 48)), [.at r (.int .u8 l), .at q (.int .u8 l')])) := by
  kernel_rfl
def ay7 : Fns := gX []
theorem aCJ : ∀ f, FnT Try.prog f (ay7 f) := bJ
theorem aPZ (N : Nat) (n : Nat) (r : Bool) (l : List Int) : run ty ay7 fB N Try.f4 [.sl 0 0 n, .nil] [.at r (.int .u8 l)]
    = (match decide ((((n : Nat) : Int) : Int) > 48) with | true => some (.bool true, [.at r (.int .u8 l)]) | false => some (.bool false, [.at r (.int .u8 l)])) := by
  kernel_rfl
def ay8 : Fns := gX []
theorem aCK : ∀ f, FnT Try.prog f (ay8 f) := bJ
theorem aP0 (N : Nat) (m : Nat) (r : Bool) (l : List Int) : run ty ay8 fB N Try.f4 [.nil, .sl 0 0 m] [.at r (.int .u8 l)]
    = some (.bool (decide ((((m : Nat) : Int) : Int) > 48)), [.at r (.int .u8 l)]) := by
  kernel_rfl
def ay9 : Fns := gX []
theorem aCL : ∀ f, FnT Try.prog f (ay9 f) := bJ
theorem aP1 (N : Nat)  : run ty ay9 fB N Try.f4 [.nil, .nil] []
    = some (.bool false, []) := by
  kernel_rfl
def aa7 : GT := fun vs h => match vs, h with
  | [.sl 0 0 n, .sl 1 0 m], [.at r (.int .u8 l), .at q (.int .u8 l')] => .ret (.bool (qG n m)) [.at r (.int .u8 l), .at q (.int .u8 l')]
  | [.sl 0 0 n, .nil], [.at r (.int .u8 l)] => .ret (.bool (qG n 0)) [.at r (.int .u8 l)]
  | [.nil, .sl 0 0 m], [.at r (.int .u8 l)] => .ret (.bool (qG 0 m)) [.at r (.int .u8 l)]
  | [.nil, .nil], [] => .ret (.bool (qG 0 0)) []
  | _, _ => .no
theorem MZ : FnT Try.prog 4 aa7 := by
  intro vs hp v h' e
  unfold aa7 at e
  split at e
  · obtain ⟨rfl, rfl⟩ := T.ret_inv e
    refine FnT.runs aCI Try.func4 rfl rfl fB 0 _ _ _ _ ?_
    rw [T.run_of]
    refine Eq.trans (aPY 0 _ _ _ _ _ _) ?_
    unfold qG
    rename_i n m r q l l'
    cases decide ((n : Int) > 48) <;> rfl
  · obtain ⟨rfl, rfl⟩ := T.ret_inv e
    refine FnT.runs aCJ Try.func4 rfl rfl fB 0 _ _ _ _ ?_
    rw [T.run_of]
    refine Eq.trans (aPZ 0 _ _ _) ?_
    unfold qG
    rename_i n r l
    cases decide ((n : Int) > 48) <;> rfl
  · obtain ⟨rfl, rfl⟩ := T.ret_inv e
    refine FnT.runs aCK Try.func4 rfl rfl fB 0 _ _ _ _ ?_
    rw [T.run_of]
    refine Eq.trans (aP0 0 _ _ _) ?_
    unfold qG
    rfl
  · obtain ⟨rfl, rfl⟩ := T.ret_inv e
    refine FnT.runs aCL Try.func4 rfl rfl fB 0 _ _ _ _ ?_
    rw [T.run_of]
    refine Eq.trans (aP1 0 ) ?_
    unfold qG
    rfl
  · exact (T.no_inv e).elim
def azA : Fns := gX []
theorem aCM : ∀ f, FnT Try.prog f (azA f) := bJ
theorem aP2 (N : Nat) (n : Nat) (i : Int) (k : Int) (rw : Bool) (l : List Int) : run ty azA fB N Try.f5 [.sl 0 0 n, .int .i64 i, .int .i64 k] [.at rw (.int .u8 l)]
    = (match decide ((k : Int) ≤ 1) with | true => some (.int .i64 0, [.at rw (.int .u8 l)]) | false => (match decide ((i : Int) ≥ ((n : Nat) : Int)) with | true => some (.int .i64 0, [.at rw (.int .u8 l)]) | false => (match decide (0 ≤ (i : Int) ∧ (i : Int) < ((n : Nat) : Int)) with | true => (match l[0 + (i).toNat * 1]? with | some e1 => (match decide (k = 0) with | true => none | false => some (.int .i64 (Int.tmod (IntKind.i64.wrap e1) k), [.at rw (.int .u8 l)])) | none => none) | false => none))) := by
  kernel_rfl
def azB : Fns := gX []
theorem aCN : ∀ f, FnT Try.prog f (azB f) := bJ
theorem aP3 (N : Nat) (i : Int) (k : Int) : run ty azB fB N Try.f5 [.nil, .int .i64 i, .int .i64 k] []
    = (match decide ((k : Int) ≤ 1) with | true => some (.int .i64 0, []) | false => (match decide ((i : Int) ≥ 0) with | true => some (.int .i64 0, []) | false => none)) := by
  kernel_rfl
def gAt : GT := fun vs h => match vs, h with
  | [.sl 0 0 n, .int .i64 i, .int .i64 k], [.at rw (.int .u8 l)] => .ite (atOk n l i) (.ret (.int .i64 (atF l i k)) [.at rw (.int .u8 l)]) .no
  | [.nil, .int .i64 i, .int .i64 k], [] => .ite (atOk 0 [] i) (.ret (.int .i64 (atF [] i k)) []) .no
  | _, _ => .no
theorem aiB : FnT Try.prog 5 gAt := by
  intro vs hp v h' e
  unfold gAt at e
  split at e
  · rename_i n i k rw l
    obtain ⟨hd, e⟩ := T.pre_inv e
    obtain ⟨rfl, rfl⟩ := T.ret_inv e
    obtain ⟨hn, hn2, hi, hi2⟩ := of_decide_eq_true hd
    refine FnT.runs aCM Try.func5 rfl rfl fB 0 _ _ _ _ ?_
    rw [T.run_of]
    refine Eq.trans (aP2 0 n i k rw l) ?_
    unfold atF
    by_cases h1 : k ≤ 1
    · rw [decide_eq_true h1]
    · rw [decide_eq_false h1]
      by_cases h2 : i < (n : Int)
      · have hx : l[i.toNat]? = some l[i.toNat] := List.getElem?_eq_getElem (by omega)
        rw [decide_eq_false (show ¬ i ≥ (n : Int) by omega), decide_eq_true (show 0 ≤ i ∧ i < (n : Int) from ⟨hi, h2⟩), show 0 + i.toNat * 1 = i.toNat by omega, hx]
        dsimp only
        rw [decide_eq_false (show ¬ k = 0 by omega)]
      · have hx : l[i.toNat]? = none := List.getElem?_eq_none (by omega)
        rw [decide_eq_true (show i ≥ (n : Int) by omega), hx]
  · rename_i i k
    obtain ⟨hd, e⟩ := T.pre_inv e
    obtain ⟨rfl, rfl⟩ := T.ret_inv e
    obtain ⟨hn, hn2, hi, hi2⟩ := of_decide_eq_true hd
    refine FnT.runs aCN Try.func5 rfl rfl fB 0 _ _ _ _ ?_
    rw [T.run_of]
    refine Eq.trans (aP3 0 i k) ?_
    unfold atF
    by_cases h1 : k ≤ 1
    · rw [decide_eq_true h1]
    · rw [decide_eq_false h1, decide_eq_true (show i ≥ 0 by omega), List.getElem?_nil]
  · exact (T.no_inv e).elim
def r8G (x y : Nat) : Nat := aiZ .f64 (fop .sub .f64 (up x) (up y)) (fop .sub .f64 (up y) (up x))
def gG8 : G := fun vs h => match vs, h with | [.fl .f32 x, .fl .f32 y], [] => some (.fl .f64 (r8G x y), []) | _, _ => none
def azC : Fns := gX []
theorem aCO : ∀ f, FnT Try.prog f (azC f) := bJ
theorem aP4 (N : Nat) (x : Nat) (y : Nat) : run ty azC fB N Try.f13 [.fl .f32 x, .fl .f32 y] []
    = (match fF .f32 x .f64 with | some c1 => (match fF .f32 y .f64 with | some c2 => (match fF .f32 y .f64 with | some c3 => (match fF .f32 x .f64 with | some c4 => some (.fl .f64 (aiZ .f64 (fop .sub .f64 c1 c2) (fop .sub .f64 c3 c4)), []) | none => none) | none => none) | none => none) | none => none) := by
  kernel_rfl
theorem ZU : FnT Try.prog 13 (gT gG8) := by
  refine fnT aCO Try.func13 rfl rfl fB fun vs h v h' e => ⟨0, ?_⟩
  rw [T.run_of] at e
  unfold gG8 at e
  split at e
  case h_2 => cases e
  rename_i x y
  cases e
  refine Eq.trans (aP4 0 x y) ?_
  simp only [lU]
  rfl
def nxB (l : List Int) (a : Int) : Int := match decide (a < ((l.length : Nat) : Int)) with | true => IntKind.i64.wrap (l.getD a.toNat 0) | false => 0
def nxS (l : List Int) (a s : Int) : Int := IntKind.u64.wrap ((IntKind.u64.wrap ((IntKind.u64.wrap (s * 6364136223846793005)) + (IntKind.u64.wrap (nxB l a)))) + 1442695040888963407)
def nxV (l : List Int) (a s : Int) : Int := match decide (a + 1 ≤ ((l.length : Nat) : Int)) with | true => nxB l a | false => IntKind.i64.wrap (IntKind.u64.wrap (BitVec.ofInt 64 (Int.fdiv (nxS l a s) (2 ^ 40)) &&& BitVec.ofInt 64 255).toNat)
theorem aHZ {l : List Int} {a s : Int} (hb : pI l = true) (h0 : 0 ≤ a) : 0 ≤ nxV l a s ∧ nxV l a s < 256 := by
  unfold nxV
  cases hd : decide (a + 1 ≤ ((l.length : Nat) : Int)) with
  | true =>
    have hd := of_decide_eq_true hd
    dsimp only
    unfold nxB
    rw [decide_eq_true (show a < ((l.length : Nat) : Int) by omega)]
    dsimp only
    have hlt : a.toNat < l.length := by omega
    have hm : l.getD a.toNat 0 ∈ l := by rw [List.getD_eq_getElem?_getD, List.getElem?_eq_getElem hlt, Option.getD_some]; exact List.getElem_mem hlt
    obtain ⟨e0, e1⟩ := of_decide_eq_true (List.all_eq_true.mp hb _ hm)
    rw [kP (by omega) (by omega)]
    exact ⟨e0, e1⟩
  | false =>
    dsimp only
    generalize BitVec.ofInt 64 (Int.fdiv (nxS l a s) (2 ^ 40)) = x
    have h1 : (x &&& BitVec.ofInt 64 255).toNat ≤ 255 := by
      rw [BitVec.toNat_and]
      exact Nat.and_le_right
    generalize (x &&& BitVec.ofInt 64 255).toNat = t at h1 ⊢
    have h2 : IntKind.u64.wrap ((t : Nat) : Int) = ((t : Nat) : Int) := by
      simp only [IntKind.wrap, IntKind.signed, IntKind.bits]
      first | omega | (simp; omega)
    rw [h2, kP (by omega) (by omega)]
    omega
def mX (n : Nat) (l : List Int) (a : Int) : Bool := decide (l.length = n ∧ n < 2147483648 ∧ 0 ≤ a ∧ a < 1000)
def gNx : GT := fun vs h => match vs, h with
  | [.ptr 0 0], [.at true (.as 1 [.sl 1 0 n, .int .i64 a, .int .u64 s]), .at rw (.int .u8 l)] => .ite (mX n l a) (.ret (.int .i64 (nxV l a s)) [.at true (.as 1 [.sl 1 0 n, .int .i64 (a + 1), .int .u64 (nxS l a s)]), .at rw (.int .u8 l)]) .no
  | [.ptr 0 0], [.at true (.as 1 [.nil, .int .i64 a, .int .u64 s])] => .ite (mX 0 [] a) (.ret (.int .i64 (nxV [] a s)) [.at true (.as 1 [.nil, .int .i64 (a + 1), .int .u64 (nxS [] a s)])]) .no
  | _, _ => .no
def OT : GT := fun vs h => match vs, h with
  | [.ptr 0 0, .int .i64 k], [.at true (.as 1 [.sl 1 0 n, .int .i64 a, .int .u64 s]), .at rw (.int .u8 l)] => .ite (mX n l a && decide (1 < k ∧ k ≤ 200)) (.ret (.int .i64 (Int.tmod (nxV l a s) k)) [.at true (.as 1 [.sl 1 0 n, .int .i64 (a + 1), .int .u64 (nxS l a s)]), .at rw (.int .u8 l)]) .no
  | [.ptr 0 0, .int .i64 k], [.at true (.as 1 [.nil, .int .i64 a, .int .u64 s])] => .ite (mX 0 [] a && decide (1 < k ∧ k ≤ 200)) (.ret (.int .i64 (Int.tmod (nxV [] a s) k)) [.at true (.as 1 [.nil, .int .i64 (a + 1), .int .u64 (nxS [] a s)])]) .no
  | _, _ => .no
def azD : Fns := gX []
theorem aCP : ∀ f, FnT Try.prog f (azD f) := bJ
theorem aP5 (N : Nat) (n : Nat) (a : Int) (s : Int) (rw : Bool) (l : List Int) : run ty azD fB N Try.f62 [.ptr 0 0] [.at true (.as 1 [.sl 1 0 n, .int .i64 a, .int .u64 s]), .at rw (.int .u8 l)]
    = (match decide ((a : Int) < ((n : Nat) : Int)) with | true => (match decide (0 ≤ (a : Int) ∧ (a : Int) < ((n : Nat) : Int)) with | true => (match l[0 + (a).toNat * 1]? with | some e1 => (match decide ((IntKind.i64.wrap (a + 1) : Int) ≤ ((n : Nat) : Int)) with | true => some (.int .i64 (IntKind.i64.wrap e1), [.at true (.as 1 [.sl 1 0 n, .int .i64 (IntKind.i64.wrap (a + 1)), .int .u64 (IntKind.u64.wrap ((IntKind.u64.wrap ((IntKind.u64.wrap (s * 6364136223846793005)) + (IntKind.u64.wrap (IntKind.i64.wrap e1)))) + 1442695040888963407))]), .at rw (.int .u8 l)]) | false => some (.int .i64 (IntKind.i64.wrap (IntKind.u64.wrap (BitVec.ofInt 64 (Int.fdiv (IntKind.u64.wrap ((IntKind.u64.wrap ((IntKind.u64.wrap (s * 6364136223846793005)) + (IntKind.u64.wrap (IntKind.i64.wrap e1)))) + 1442695040888963407)) (2 ^ 40)) &&& BitVec.ofInt 64 255).toNat)), [.at true (.as 1 [.sl 1 0 n, .int .i64 (IntKind.i64.wrap (a + 1)), .int .u64 (IntKind.u64.wrap ((IntKind.u64.wrap ((IntKind.u64.wrap (s * 6364136223846793005)) + (IntKind.u64.wrap (IntKind.i64.wrap e1)))) + 1442695040888963407))]), .at rw (.int .u8 l)])) | none => none) | false => none) | false => (match decide ((IntKind.i64.wrap (a + 1) : Int) ≤ ((n : Nat) : Int)) with | true => some (.int .i64 0, [.at true (.as 1 [.sl 1 0 n, .int .i64 (IntKind.i64.wrap (a + 1)), .int .u64 (IntKind.u64.wrap ((IntKind.u64.wrap ((IntKind.u64.wrap (s * 6364136223846793005)) + 0)) + 1442695040888963407))]), .at rw (.int .u8 l)]) | false => some (.int .i64 (IntKind.i64.wrap (IntKind.u64.wrap (BitVec.ofInt 64 (Int.fdiv (IntKind.u64.wrap ((IntKind.u64.wrap ((IntKind.u64.wrap (s * 6364136223846793005)) + 0)) + 1442695040888963407)) (2 ^ 40)) &&& BitVec.ofInt 64 255).toNat)), [.at true (.as 1 [.sl 1 0 n, .int .i64 (IntKind.i64.wrap (a + 1)), .int .u64 (IntKind.u64.wrap ((IntKind.u64.wrap ((IntKind.u64.wrap (s * 6364136223846793005)) + 0)) + 1442695040888963407))]), .at rw (.int .u8 l)]))) := by
  kernel_rfl
def azE : Fns := gX []
theorem aCQ : ∀ f, FnT Try.prog f (azE f) := bJ
theorem aP6 (N : Nat) (a : Int) (s : Int) : run ty azE fB N Try.f62 [.ptr 0 0] [.at true (.as 1 [.nil, .int .i64 a, .int .u64 s])]
    = (match decide ((a : Int) < 0) with | true => none | false => (match decide ((IntKind.i64.wrap (a + 1) : Int) ≤ 0) with | true => some (.int .i64 0, [.at true (.as 1 [.nil, .int .i64 (IntKind.i64.wrap (a + 1)), .int .u64 (IntKind.u64.wrap ((IntKind.u64.wrap ((IntKind.u64.wrap (s * 6364136223846793005)) + 0)) + 1442695040888963407))])]) | false => some (.int .i64 (IntKind.i64.wrap (IntKind.u64.wrap (BitVec.ofInt 64 (Int.fdiv (IntKind.u64.wrap ((IntKind.u64.wrap ((IntKind.u64.wrap (s * 6364136223846793005)) + 0)) + 1442695040888963407)) (2 ^ 40)) &&& BitVec.ofInt 64 255).toNat)), [.at true (.as 1 [.nil, .int .i64 (IntKind.i64.wrap (a + 1)), .int .u64 (IntKind.u64.wrap ((IntKind.u64.wrap ((IntKind.u64.wrap (s * 6364136223846793005)) + 0)) + 1442695040888963407))])]))) := by
  kernel_rfl
theorem aUF : FnT Try.prog 62 gNx := by
  intro vs hp v h' e
  unfold gNx at e
  split at e
  · rename_i n a s rw l
    obtain ⟨hd, e⟩ := T.pre_inv e
    obtain ⟨rfl, rfl⟩ := T.ret_inv e
    obtain ⟨rfl, hn2, h0, h1⟩ := of_decide_eq_true hd
    refine FnT.runs aCP Try.func62 rfl rfl fB 0 _ _ _ _ ?_
    rw [T.run_of]
    refine Eq.trans (aP5 0 l.length a s rw l) ?_
    have hw : IntKind.i64.wrap (a + 1) = a + 1 := kP (by omega) (by omega)
    rw [hw]
    unfold nxV nxS nxB
    by_cases hlt : a < ((l.length : Nat) : Int)
    · rw [decide_eq_true hlt, decide_eq_true (show 0 ≤ a ∧ a < ((l.length : Nat) : Int) from ⟨h0, hlt⟩), show 0 + a.toNat * 1 = a.toNat by omega, show l[a.toNat]? = some (l.getD a.toNat 0) by simp [List.getD_eq_getElem?_getD, show a.toNat < l.length by omega], decide_eq_true (show a + 1 ≤ ((l.length : Nat) : Int) by omega)]
    · rw [decide_eq_false hlt, decide_eq_false (show ¬ a + 1 ≤ ((l.length : Nat) : Int) by omega)]
      all_goals rfl
  · rename_i a s
    obtain ⟨hd, e⟩ := T.pre_inv e
    obtain ⟨rfl, rfl⟩ := T.ret_inv e
    obtain ⟨_, hn2, h0, h1⟩ := of_decide_eq_true hd
    refine FnT.runs aCQ Try.func62 rfl rfl fB 0 _ _ _ _ ?_
    rw [T.run_of]
    refine Eq.trans (aP6 0 a s) ?_
    have hw : IntKind.i64.wrap (a + 1) = a + 1 := kP (by omega) (by omega)
    rw [hw]
    unfold nxV nxS nxB
    have hl : (([] : List Int).length : Int) = 0 := rfl
    rw [hl, decide_eq_false (show ¬ a < 0 by omega), decide_eq_false (show ¬ a + 1 ≤ 0 by omega)]
    all_goals rfl
  · exact (T.no_inv e).elim
def azF : Fns := gX [(62, gNx)]
theorem aCR : ∀ f, FnT Try.prog f (azF f) := (aC (k := 62) aUF bJ)
theorem aP7 (N : Nat) (k : Int) (n : Nat) (a : Int) (s : Int) (rw : Bool) (l : List Int) : run ty azF fB N Try.f47 [.ptr 0 0, .int .i64 k] [.at true (.as 1 [.sl 1 0 n, .int .i64 a, .int .u64 s]), .at rw (.int .u8 l)]
    = (match decide ((k : Int) ≤ 1) with | true => some (.int .i64 0, [.at true (.as 1 [.sl 1 0 n, .int .i64 a, .int .u64 s]), .at rw (.int .u8 l)]) | false => (match mX n l a with | true => (match decide ((k : Int) > 200) with | true => (match mX n l (a + 1) with | true => (match decide (k = 0) with | true => none | false => some (.int .i64 (Int.tmod (IntKind.i64.wrap ((IntKind.i64.wrap ((nxV l a s) * 256)) + (nxV l (a + 1) (nxS l a s)))) k), [.at true (.as 1 [.sl 1 0 n, .int .i64 ((a + 1) + 1), .int .u64 (nxS l (a + 1) (nxS l a s))]), .at rw (.int .u8 l)])) | false => none) | false => (match decide (k = 0) with | true => none | false => some (.int .i64 (Int.tmod (nxV l a s) k), [.at true (.as 1 [.sl 1 0 n, .int .i64 (a + 1), .int .u64 (nxS l a s)]), .at rw (.int .u8 l)]))) | false => none)) := by
  kernel_rfl
def azG : Fns := gX [(62, gNx)]
theorem aCS : ∀ f, FnT Try.prog f (azG f) := (aC (k := 62) aUF bJ)
theorem aP8 (N : Nat) (k : Int) (a : Int) (s : Int) : run ty azG fB N Try.f47 [.ptr 0 0, .int .i64 k] [.at true (.as 1 [.nil, .int .i64 a, .int .u64 s])]
    = (match decide ((k : Int) ≤ 1) with | true => some (.int .i64 0, [.at true (.as 1 [.nil, .int .i64 a, .int .u64 s])]) | false => (match mX 0 ([] : List Int) a with | true => (match decide ((k : Int) > 200) with | true => (match mX 0 ([] : List Int) (a + 1) with | true => (match decide (k = 0) with | true => none | false => some (.int .i64 (Int.tmod (IntKind.i64.wrap ((IntKind.i64.wrap ((nxV ([] : List Int) a s) * 256)) + (nxV ([] : List Int) (a + 1) (nxS ([] : List Int) a s)))) k), [.at true (.as 1 [.nil, .int .i64 ((a + 1) + 1), .int .u64 (nxS ([] : List Int) (a + 1) (nxS ([] : List Int) a s))])])) | false => none) | false => (match decide (k = 0) with | true => none | false => some (.int .i64 (Int.tmod (nxV ([] : List Int) a s) k), [.at true (.as 1 [.nil, .int .i64 (a + 1), .int .u64 (nxS ([] : List Int) a s)])]))) | false => none)) := by
  kernel_rfl
theorem aa8 : FnT Try.prog 47 OT := by
  intro vs hp v h' e
  unfold OT at e
  split at e
  · rename_i k n a s rw l
    obtain ⟨hd, e⟩ := T.pre_inv e
    obtain ⟨rfl, rfl⟩ := T.ret_inv e
    rw [Bool.and_eq_true] at hd
    obtain ⟨hs, hk⟩ := hd
    obtain ⟨hk1, hk2⟩ := of_decide_eq_true hk
    refine FnT.runs aCR Try.func47 rfl rfl fB 0 _ _ _ _ ?_
    rw [T.run_of]
    refine Eq.trans (aP7 0 k n a s rw l) ?_
    rw [decide_eq_false (show ¬ k ≤ 1 by omega), hs, decide_eq_false (show ¬ k > 200 by omega), decide_eq_false (show ¬ k = 0 by omega)]
    all_goals rfl
  · rename_i k a s
    obtain ⟨hd, e⟩ := T.pre_inv e
    obtain ⟨rfl, rfl⟩ := T.ret_inv e
    rw [Bool.and_eq_true] at hd
    obtain ⟨hs, hk⟩ := hd
    obtain ⟨hk1, hk2⟩ := of_decide_eq_true hk
    refine FnT.runs aCS Try.func47 rfl rfl fB 0 _ _ _ _ ?_
    rw [T.run_of]
    refine Eq.trans (aP8 0 k a s) ?_
    rw [decide_eq_false (show ¬ k ≤ 1 by omega), hs, decide_eq_false (show ¬ k > 200 by omega), decide_eq_false (show ¬ k = 0 by omega)]
    all_goals rfl
  · exact (T.no_inv e).elim
def sdV (l : List Int) : Nat → Int
  | 0 => 0
  | i + 1 => nxS l i (sdV l i)
def drV (l : List Int) (i : Nat) (k : Int) : Int := Int.tmod (nxV l i (sdV l i)) k
def a0F (l : List Int) : Nat := fop .quo .f32 (floatOfInt .f32 (IntKind.i64.wrap ((drV l 0 9) - 4))) 1073741824
def wqF (l : List Int) (i : Nat) : Nat := fop .quo .f32 (floatOfInt .f32 (IntKind.i64.wrap (1 + (drV l i 6)))) 1082130432
def hqF (l : List Int) (i : Nat) : Nat := fop .quo .f32 (floatOfInt .f32 (IntKind.i64.wrap ((drV l i 13) - 4))) 1082130432
theorem mP {m : Nat} {l : List Int} {i : Int} (h : l.length = m) (k : m < 2147483648) (h0 : 0 ≤ i) (h1 : i < 1000) : mX m l i = true := decide_eq_true ⟨h, k, h0, h1⟩
def es1 (l : List Int) : List Nat := [a0F l]
def ds1 (l : List Int) : List Nat := [hqF l 2, hqF l 3]
def hs1 (l : List Int) : List Nat := [0, 0]
def es2 (l : List Int) : List Nat := [a0F l, fop .add .f32 (a0F l) (wqF l 1)]
def ds2 (l : List Int) : List Nat := [hqF l 3, hqF l 4, hqF l 5]
def hs2 (l : List Int) : List Nat := [0, hqF l 4, 0]
def es3 (l : List Int) : List Nat := [a0F l, fop .add .f32 (a0F l) (wqF l 1), fop .add .f32 (fop .add .f32 (a0F l) (wqF l 1)) (wqF l 2)]
def ds3 (l : List Int) : List Nat := [hqF l 4, hqF l 5, hqF l 6, hqF l 7]
def hs3 (l : List Int) : List Nat := [0, hqF l 5, hqF l 6, 0]
def esV (n : Int) (l : List Int) : List Nat := match decide (n = 1) with | true => es1 l | false => (match decide (n = 2) with | true => es2 l | false => es3 l)
def hsV (n : Int) (l : List Int) : List Nat := match decide (n = 1) with | true => hs1 l | false => (match decide (n = 2) with | true => hs2 l | false => hs3 l)
def gDs : GT := fun vs h => match vs, h with
  | [.ptr 0 0, .int .i64 0], [.at true (.as 1 [.sl 1 0 m, .int .i64 0, .int .u64 0]), .at rw (.int .u8 l)] => .ite (decide (l.length = m ∧ m < 2147483648)) (.ret (.g [.nil, .sl 2 0 1]) [.at true (.as 1 [.sl 1 0 m, .int .i64 2, .int .u64 (sdV l 2)]), .at rw (.int .u8 l), .at true (.fl .f32 [hqF l 1])]) .no
  | [.ptr 0 0, .int .i64 0], [.at true (.as 1 [.nil, .int .i64 0, .int .u64 0])] => .ret (.g [.nil, .sl 1 0 1]) [.at true (.as 1 [.nil, .int .i64 2, .int .u64 (sdV [] 2)]), .at true (.fl .f32 [hqF [] 1])]
  | [.ptr 0 0, .int .i64 1], [.at true (.as 1 [.sl 1 0 m, .int .i64 0, .int .u64 0]), .at rw (.int .u8 l)] => .ite (decide (l.length = m ∧ m < 2147483648)) (.ret (.g [.sl 2 0 1, .sl 3 0 2]) [.at true (.as 1 [.sl 1 0 m, .int .i64 4, .int .u64 (sdV l 4)]), .at rw (.int .u8 l), .at true (.fl .f32 (es1 l)), .at true (.fl .f32 (ds1 l))]) .no
  | [.ptr 0 0, .int .i64 1], [.at true (.as 1 [.nil, .int .i64 0, .int .u64 0])] => .ret (.g [.sl 1 0 1, .sl 2 0 2]) [.at true (.as 1 [.nil, .int .i64 4, .int .u64 (sdV [] 4)]), .at true (.fl .f32 (es1 [])), .at true (.fl .f32 (ds1 []))]
  | [.ptr 0 0, .int .i64 2], [.at true (.as 1 [.sl 1 0 m, .int .i64 0, .int .u64 0]), .at rw (.int .u8 l)] => .ite (decide (l.length = m ∧ m < 2147483648)) (.ret (.g [.sl 2 0 2, .sl 3 0 3]) [.at true (.as 1 [.sl 1 0 m, .int .i64 6, .int .u64 (sdV l 6)]), .at rw (.int .u8 l), .at true (.fl .f32 (es2 l)), .at true (.fl .f32 (ds2 l))]) .no
  | [.ptr 0 0, .int .i64 2], [.at true (.as 1 [.nil, .int .i64 0, .int .u64 0])] => .ret (.g [.sl 1 0 2, .sl 2 0 3]) [.at true (.as 1 [.nil, .int .i64 6, .int .u64 (sdV [] 6)]), .at true (.fl .f32 (es2 [])), .at true (.fl .f32 (ds2 []))]
  | [.ptr 0 0, .int .i64 3], [.at true (.as 1 [.sl 1 0 m, .int .i64 0, .int .u64 0]), .at rw (.int .u8 l)] => .ite (decide (l.length = m ∧ m < 2147483648)) (.ret (.g [.sl 2 0 3, .sl 3 0 4]) [.at true (.as 1 [.sl 1 0 m, .int .i64 8, .int .u64 (sdV l 8)]), .at rw (.int .u8 l), .at true (.fl .f32 (es3 l)), .at true (.fl .f32 (ds3 l))]) .no
  | [.ptr 0 0, .int .i64 3], [.at true (.as 1 [.nil, .int .i64 0, .int .u64 0])] => .ret (.g [.sl 1 0 3, .sl 2 0 4]) [.at true (.as 1 [.nil, .int .i64 8, .int .u64 (sdV [] 8)]), .at true (.fl .f32 (es3 [])), .at true (.fl .f32 (ds3 []))]
  | _, _ => .no
def ao8 : Fns := gX [(47, OT)]
theorem auM : ∀ f, FnT Try.prog f (ao8 f) := (aC (k := 47) aa8 bJ)
theorem aH0 (N : Nat) (m : Nat) (rw : Bool) (l : List Int) : run ty ao8 fB N Try.f20 [.ptr 0 0, .int .i64 0] [.at true (.as 1 [.sl 1 0 m, .int .i64 0, .int .u64 0]), .at rw (.int .u8 l)]
    = (match mX m l 0 && decide ((1 : Int) < 9 ∧ (9 : Int) ≤ 200) with | true => (match mX m l 1 && decide ((1 : Int) < 13 ∧ (13 : Int) ≤ 200) with | true => some (.g [.nil, .sl 2 0 1], [.at true (.as 1 [.sl 1 0 m, .int .i64 2, .int .u64 (sdV l 2)]), .at rw (.int .u8 l), .at true (.fl .f32 [fop .quo .f32 (floatOfInt .f32 (IntKind.i64.wrap ((drV l 1 13) - 4))) 1082130432])]) | false => none) | false => none) := by
  kernel_rfl
def ao9 : Fns := gX [(47, OT)]
theorem auN : ∀ f, FnT Try.prog f (ao9 f) := (aC (k := 47) aa8 bJ)
theorem aH1 (N : Nat)  : run ty ao9 fB N Try.f20 [.ptr 0 0, .int .i64 0] [.at true (.as 1 [.nil, .int .i64 0, .int .u64 0])]
    = (match mX 0 ([] : List Int) 0 && decide ((1 : Int) < 9 ∧ (9 : Int) ≤ 200) with | true => (match mX 0 ([] : List Int) 1 && decide ((1 : Int) < 13 ∧ (13 : Int) ≤ 200) with | true => some (.g [.nil, .sl 1 0 1], [.at true (.as 1 [.nil, .int .i64 2, .int .u64 (sdV ([] : List Int) 2)]), .at true (.fl .f32 [fop .quo .f32 (floatOfInt .f32 (IntKind.i64.wrap ((drV ([] : List Int) 1 13) - 4))) 1082130432])]) | false => none) | false => none) := by
  kernel_rfl
def apA : Fns := gX [(47, OT)]
theorem auO : ∀ f, FnT Try.prog f (apA f) := (aC (k := 47) aa8 bJ)
theorem aH2 (N : Nat) (m : Nat) (rw : Bool) (l : List Int) : run ty apA fB N Try.f20 [.ptr 0 0, .int .i64 1] [.at true (.as 1 [.sl 1 0 m, .int .i64 0, .int .u64 0]), .at rw (.int .u8 l)]
    = (match mX m l 0 && decide ((1 : Int) < 9 ∧ (9 : Int) ≤ 200) with | true => (match mX m l 1 && decide ((1 : Int) < 6 ∧ (6 : Int) ≤ 200) with | true => (match mX m l 2 && decide ((1 : Int) < 13 ∧ (13 : Int) ≤ 200) with | true => (match mX m l 3 && decide ((1 : Int) < 13 ∧ (13 : Int) ≤ 200) with | true => some (.g [.sl 2 0 1, .sl 3 0 2], [.at true (.as 1 [.sl 1 0 m, .int .i64 4, .int .u64 (sdV l 4)]), .at rw (.int .u8 l), .at true (.fl .f32 [fop .quo .f32 (floatOfInt .f32 (IntKind.i64.wrap ((drV l 0 9) - 4))) 1073741824]), .at true (.fl .f32 [fop .quo .f32 (floatOfInt .f32 (IntKind.i64.wrap ((drV l 2 13) - 4))) 1082130432, fop .quo .f32 (floatOfInt .f32 (IntKind.i64.wrap ((drV l 3 13) - 4))) 1082130432])]) | false => none) | false => none) | false => none) | false => none) := by
  kernel_rfl
def apB : Fns := gX [(47, OT)]
theorem auP : ∀ f, FnT Try.prog f (apB f) := (aC (k := 47) aa8 bJ)
theorem aH3 (N : Nat)  : run ty apB fB N Try.f20 [.ptr 0 0, .int .i64 1] [.at true (.as 1 [.nil, .int .i64 0, .int .u64 0])]
    = (match mX 0 ([] : List Int) 0 && decide ((1 : Int) < 9 ∧ (9 : Int) ≤ 200) with | true => (match mX 0 ([] : List Int) 1 && decide ((1 : Int) < 6 ∧ (6 : Int) ≤ 200) with | true => (match mX 0 ([] : List Int) 2 && decide ((1 : Int) < 13 ∧ (13 : Int) ≤ 200) with | true => (match mX 0 ([] : List Int) 3 && decide ((1 : Int) < 13 ∧ (13 : Int) ≤ 200) with | true => some (.g [.sl 1 0 1, .sl 2 0 2], [.at true (.as 1 [.nil, .int .i64 4, .int .u64 (sdV ([] : List Int) 4)]), .at true (.fl .f32 [fop .quo .f32 (floatOfInt .f32 (IntKind.i64.wrap ((drV ([] : List Int) 0 9) - 4))) 1073741824]), .at true (.fl .f32 [fop .quo .f32 (floatOfInt .f32 (IntKind.i64.wrap ((drV ([] : List Int) 2 13) - 4))) 1082130432, fop .quo .f32 (floatOfInt .f32 (IntKind.i64.wrap ((drV ([] : List Int) 3 13) - 4))) 1082130432])]) | false => none) | false => none) | false => none) | false => none) := by
  kernel_rfl
def apC : Fns := gX [(47, OT)]
theorem auQ : ∀ f, FnT Try.prog f (apC f) := (aC (k := 47) aa8 bJ)
theorem aH4 (N : Nat) (m : Nat) (rw : Bool) (l : List Int) : run ty apC fB N Try.f20 [.ptr 0 0, .int .i64 2] [.at true (.as 1 [.sl 1 0 m, .int .i64 0, .int .u64 0]), .at rw (.int .u8 l)]
    = (match mX m l 0 && decide ((1 : Int) < 9 ∧ (9 : Int) ≤ 200) with | true => (match mX m l 1 && decide ((1 : Int) < 6 ∧ (6 : Int) ≤ 200) with | true => (match mX m l 2 && decide ((1 : Int) < 6 ∧ (6 : Int) ≤ 200) with | true => (match mX m l 3 && decide ((1 : Int) < 13 ∧ (13 : Int) ≤ 200) with | true => (match mX m l 4 && decide ((1 : Int) < 13 ∧ (13 : Int) ≤ 200) with | true => (match mX m l 5 && decide ((1 : Int) < 13 ∧ (13 : Int) ≤ 200) with | true => some (.g [.sl 2 0 2, .sl 3 0 3], [.at true (.as 1 [.sl 1 0 m, .int .i64 6, .int .u64 (sdV l 6)]), .at rw (.int .u8 l), .at true (.fl .f32 [fop .quo .f32 (floatOfInt .f32 (IntKind.i64.wrap ((drV l 0 9) - 4))) 1073741824, fop .add .f32 (fop .quo .f32 (floatOfInt .f32 (IntKind.i64.wrap ((drV l 0 9) - 4))) 1073741824) (fop .quo .f32 (floatOfInt .f32 (IntKind.i64.wrap (1 + (drV l 1 6)))) 1082130432)]), .at true (.fl .f32 [fop .quo .f32 (floatOfInt .f32 (IntKind.i64.wrap ((drV l 3 13) - 4))) 1082130432, fop .quo .f32 (floatOfInt .f32 (IntKind.i64.wrap ((drV l 4 13) - 4))) 1082130432, fop .quo .f32 (floatOfInt .f32 (IntKind.i64.wrap ((drV l 5 13) - 4))) 1082130432])]) | false => none) | false => none) | false => none) | false => none) | false => none) | false => none) := by
  kernel_rfl
def apD : Fns := gX [(47, OT)]
theorem auR : ∀ f, FnT Try.prog f (apD f) := (aC (k := 47) aa8 bJ)
theorem aH5 (N : Nat)  : run ty apD fB N Try.f20 [.ptr 0 0, .int .i64 2] [.at true (.as 1 [.nil, .int .i64 0, .int .u64 0])]
    = (match mX 0 ([] : List Int) 0 && decide ((1 : Int) < 9 ∧ (9 : Int) ≤ 200) with | true => (match mX 0 ([] : List Int) 1 && decide ((1 : Int) < 6 ∧ (6 : Int) ≤ 200) with | true => (match mX 0 ([] : List Int) 2 && decide ((1 : Int) < 6 ∧ (6 : Int) ≤ 200) with | true => (match mX 0 ([] : List Int) 3 && decide ((1 : Int) < 13 ∧ (13 : Int) ≤ 200) with | true => (match mX 0 ([] : List Int) 4 && decide ((1 : Int) < 13 ∧ (13 : Int) ≤ 200) with | true => (match mX 0 ([] : List Int) 5 && decide ((1 : Int) < 13 ∧ (13 : Int) ≤ 200) with | true => some (.g [.sl 1 0 2, .sl 2 0 3], [.at true (.as 1 [.nil, .int .i64 6, .int .u64 (sdV ([] : List Int) 6)]), .at true (.fl .f32 [fop .quo .f32 (floatOfInt .f32 (IntKind.i64.wrap ((drV ([] : List Int) 0 9) - 4))) 1073741824, fop .add .f32 (fop .quo .f32 (floatOfInt .f32 (IntKind.i64.wrap ((drV ([] : List Int) 0 9) - 4))) 1073741824) (fop .quo .f32 (floatOfInt .f32 (IntKind.i64.wrap (1 + (drV ([] : List Int) 1 6)))) 1082130432)]), .at true (.fl .f32 [fop .quo .f32 (floatOfInt .f32 (IntKind.i64.wrap ((drV ([] : List Int) 3 13) - 4))) 1082130432, fop .quo .f32 (floatOfInt .f32 (IntKind.i64.wrap ((drV ([] : List Int) 4 13) - 4))) 1082130432, fop .quo .f32 (floatOfInt .f32 (IntKind.i64.wrap ((drV ([] : List Int) 5 13) - 4))) 1082130432])]) | false => none) | false => none) | false => none) | false => none) | false => none) | false => none) := by
  kernel_rfl
def apE : Fns := gX [(47, OT)]
theorem auS : ∀ f, FnT Try.prog f (apE f) := (aC (k := 47) aa8 bJ)
theorem aH6 (N : Nat) (m : Nat) (rw : Bool) (l : List Int) : run ty apE fB N Try.f20 [.ptr 0 0, .int .i64 3] [.at true (.as 1 [.sl 1 0 m, .int .i64 0, .int .u64 0]), .at rw (.int .u8 l)]
    = (match mX m l 0 && decide ((1 : Int) < 9 ∧ (9 : Int) ≤ 200) with | true => (match mX m l 1 && decide ((1 : Int) < 6 ∧ (6 : Int) ≤ 200) with | true => (match mX m l 2 && decide ((1 : Int) < 6 ∧ (6 : Int) ≤ 200) with | true => (match mX m l 3 && decide ((1 : Int) < 6 ∧ (6 : Int) ≤ 200) with | true => (match mX m l 4 && decide ((1 : Int) < 13 ∧ (13 : Int) ≤ 200) with | true => (match mX m l 5 && decide ((1 : Int) < 13 ∧ (13 : Int) ≤ 200) with | true => (match mX m l 6 && decide ((1 : Int) < 13 ∧ (13 : Int) ≤ 200) with | true => (match mX m l 7 && decide ((1 : Int) < 13 ∧ (13 : Int) ≤ 200) with | true => some (.g [.sl 2 0 3, .sl 3 0 4], [.at true (.as 1 [.sl 1 0 m, .int .i64 8, .int .u64 (sdV l 8)]), .at rw (.int .u8 l), .at true (.fl .f32 [fop .quo .f32 (floatOfInt .f32 (IntKind.i64.wrap ((drV l 0 9) - 4))) 1073741824, fop .add .f32 (fop .quo .f32 (floatOfInt .f32 (IntKind.i64.wrap ((drV l 0 9) - 4))) 1073741824) (fop .quo .f32 (floatOfInt .f32 (IntKind.i64.wrap (1 + (drV l 1 6)))) 1082130432), fop .add .f32 (fop .add .f32 (fop .quo .f32 (floatOfInt .f32 (IntKind.i64.wrap ((drV l 0 9) - 4))) 1073741824) (fop .quo .f32 (floatOfInt .f32 (IntKind.i64.wrap (1 + (drV l 1 6)))) 1082130432)) (fop .quo .f32 (floatOfInt .f32 (IntKind.i64.wrap (1 + (drV l 2 6)))) 1082130432)]), .at true (.fl .f32 [fop .quo .f32 (floatOfInt .f32 (IntKind.i64.wrap ((drV l 4 13) - 4))) 1082130432, fop .quo .f32 (floatOfInt .f32 (IntKind.i64.wrap ((drV l 5 13) - 4))) 1082130432, fop .quo .f32 (floatOfInt .f32 (IntKind.i64.wrap ((drV l 6 13) - 4))) 1082130432, fop .quo .f32 (floatOfInt .f32 (IntKind.i64.wrap ((drV l 7 13) - 4))) 1082130432])]) | false => none) | false => none) | false => none) | false => none) | false => none) | false => none) | false => none) | false => none) := by
  kernel_rfl
def apF : Fns := gX [(47, OT)]
theorem auT : ∀ f, FnT Try.prog f (apF f) := (aC (k := 47) aa8 bJ)
theorem aH7 (N : Nat)  : run ty apF fB N Try.f20 [.ptr 0 0, .int .i64 3] [.at true (.as 1 [.nil, .int .i64 0, .int .u64 0])]
    = (match mX 0 ([] : List Int) 0 && decide ((1 : Int) < 9 ∧ (9 : Int) ≤ 200) with | true => (match mX 0 ([] : List Int) 1 && decide ((1 : Int) < 6 ∧ (6 : Int) ≤ 200) with | true => (match mX 0 ([] : List Int) 2 && decide ((1 : Int) < 6 ∧ (6 : Int) ≤ 200) with | true => (match mX 0 ([] : List Int) 3 && decide ((1 : Int) < 6 ∧ (6 : Int) ≤ 200) with | true => (match mX 0 ([] : List Int) 4 && decide ((1 : Int) < 13 ∧ (13 : Int) ≤ 200) with | true => (match mX 0 ([] : List Int) 5 && decide ((1 : Int) < 13 ∧ (13 : Int) ≤ 200) with | true => (match mX 0 ([] : List Int) 6 && decide ((1 : Int) < 13 ∧ (13 : Int) ≤ 200) with | true => (match mX 0 ([] : List Int) 7 && decide ((1 : Int) < 13 ∧ (13 : Int) ≤ 200) with | true => some (.g [.sl 1 0 3, .sl 2 0 4], [.at true (.as 1 [.nil, .int .i64 8, .int .u64 (sdV ([] : List Int) 8)]), .at true (.fl .f32 [fop .quo .f32 (floatOfInt .f32 (IntKind.i64.wrap ((drV ([] : List Int) 0 9) - 4))) 1073741824, fop .add .f32 (fop .quo .f32 (floatOfInt .f32 (IntKind.i64.wrap ((drV ([] : List Int) 0 9) - 4))) 1073741824) (fop .quo .f32 (floatOfInt .f32 (IntKind.i64.wrap (1 + (drV ([] : List Int) 1 6)))) 1082130432), fop .add .f32 (fop .add .f32 (fop .quo .f32 (floatOfInt .f32 (IntKind.i64.wrap ((drV ([] : List Int) 0 9) - 4))) 1073741824) (fop .quo .f32 (floatOfInt .f32 (IntKind.i64.wrap (1 + (drV ([] : List Int) 1 6)))) 1082130432)) (fop .quo .f32 (floatOfInt .f32 (IntKind.i64.wrap (1 + (drV ([] : List Int) 2 6)))) 1082130432)]), .at true (.fl .f32 [fop .quo .f32 (floatOfInt .f32 (IntKind.i64.wrap ((drV ([] : List Int) 4 13) - 4))) 1082130432, fop .quo .f32 (floatOfInt .f32 (IntKind.i64.wrap ((drV ([] : List Int) 5 13) - 4))) 1082130432, fop .quo .f32 (floatOfInt .f32 (IntKind.i64.wrap ((drV ([] : List Int) 6 13) - 4))) 1082130432, fop .quo .f32 (floatOfInt .f32 (IntKind.i64.wrap ((drV ([] : List Int) 7 13) - 4))) 1082130432])]) | false => none) | false => none) | false => none) | false => none) | false => none) | false => none) | false => none) | false => none) := by
  kernel_rfl
theorem aa9 : FnT Try.prog 20 gDs := by
  intro vs hp v h' e
  unfold gDs at e
  split at e
  · rename_i m rw l
    obtain ⟨hd, e⟩ := T.pre_inv e
    obtain ⟨rfl, rfl⟩ := T.ret_inv e
    obtain ⟨h1, h2⟩ := of_decide_eq_true hd
    refine FnT.runs auM Try.func20 rfl rfl fB 0 _ _ _ _ ?_
    rw [T.run_of]
    refine Eq.trans (aH0 0 m rw l) ?_
    rw [mP (i := 0) h1 h2 (by decide) (by decide), mP (i := 1) h1 h2 (by decide) (by decide)]
    all_goals rfl
  · obtain ⟨rfl, rfl⟩ := T.ret_inv e
    refine FnT.runs auN Try.func20 rfl rfl fB 0 _ _ _ _ ?_
    rw [T.run_of]
    refine Eq.trans (aH1 0 ) ?_
    rfl
  · rename_i m rw l
    obtain ⟨hd, e⟩ := T.pre_inv e
    obtain ⟨rfl, rfl⟩ := T.ret_inv e
    obtain ⟨h1, h2⟩ := of_decide_eq_true hd
    refine FnT.runs auO Try.func20 rfl rfl fB 0 _ _ _ _ ?_
    rw [T.run_of]
    refine Eq.trans (aH2 0 m rw l) ?_
    rw [mP (i := 0) h1 h2 (by decide) (by decide), mP (i := 1) h1 h2 (by decide) (by decide), mP (i := 2) h1 h2 (by decide) (by decide), mP (i := 3) h1 h2 (by decide) (by decide)]
    all_goals rfl
  · obtain ⟨rfl, rfl⟩ := T.ret_inv e
    refine FnT.runs auP Try.func20 rfl rfl fB 0 _ _ _ _ ?_
    rw [T.run_of]
    refine Eq.trans (aH3 0 ) ?_
    rfl
  · rename_i m rw l
    obtain ⟨hd, e⟩ := T.pre_inv e
    obtain ⟨rfl, rfl⟩ := T.ret_inv e
    obtain ⟨h1, h2⟩ := of_decide_eq_true hd
    refine FnT.runs auQ Try.func20 rfl rfl fB 0 _ _ _ _ ?_
    rw [T.run_of]
    refine Eq.trans (aH4 0 m rw l) ?_
    rw [mP (i := 0) h1 h2 (by decide) (by decide), mP (i := 1) h1 h2 (by decide) (by decide), mP (i := 2) h1 h2 (by decide) (by decide), mP (i := 3) h1 h2 (by decide) (by decide), mP (i := 4) h1 h2 (by decide) (by decide), mP (i := 5) h1 h2 (by decide) (by decide)]
    all_goals rfl
  · obtain ⟨rfl, rfl⟩ := T.ret_inv e
    refine FnT.runs auR Try.func20 rfl rfl fB 0 _ _ _ _ ?_
    rw [T.run_of]
    refine Eq.trans (aH5 0 ) ?_
    rfl
  · rename_i m rw l
    obtain ⟨hd, e⟩ := T.pre_inv e
    obtain ⟨rfl, rfl⟩ := T.ret_inv e
    obtain ⟨h1, h2⟩ := of_decide_eq_true hd
    refine FnT.runs auS Try.func20 rfl rfl fB 0 _ _ _ _ ?_
    rw [T.run_of]
    refine Eq.trans (aH6 0 m rw l) ?_
    rw [mP (i := 0) h1 h2 (by decide) (by decide), mP (i := 1) h1 h2 (by decide) (by decide), mP (i := 2) h1 h2 (by decide) (by decide), mP (i := 3) h1 h2 (by decide) (by decide), mP (i := 4) h1 h2 (by decide) (by decide), mP (i := 5) h1 h2 (by decide) (by decide), mP (i := 6) h1 h2 (by decide) (by decide), mP (i := 7) h1 h2 (by decide) (by decide)]
    all_goals rfl
  · obtain ⟨rfl, rfl⟩ := T.ret_inv e
    refine FnT.runs auT Try.func20 rfl rfl fB 0 _ _ _ _ ?_
    rw [T.run_of]
    refine Eq.trans (aH7 0 ) ?_
    rfl
  · exact (T.no_inv e).elim
def agQ : GT := fun vs h => match vs, h with
  | [.sl 0 0 m], [.at rw (.int .u8 l)] => .ret (.ptr 1 0) [.at rw (.int .u8 l), .at true (.as 1 [.sl 0 0 m, .int .i64 0, .int .u64 0])]
  | [.nil], [] => .ret (.ptr 0 0) [.at true (.as 1 [.nil, .int .i64 0, .int .u64 0])]
  | _, _ => .no
def azH : Fns := gX []
theorem aCT : ∀ f, FnT Try.prog f (azH f) := bJ
theorem aP9 (N : Nat) (m : Nat) (rw : Bool) (l : List Int) : run ty azH fB N Try.f19 [.sl 0 0 m] [.at rw (.int .u8 l)]
    = some (.ptr 1 0, [.at rw (.int .u8 l), .at true (.as 1 [.sl 0 0 m, .int .i64 0, .int .u64 0])]) := by
  kernel_rfl
def azI : Fns := gX []
theorem aCU : ∀ f, FnT Try.prog f (azI f) := bJ
theorem aQA (N : Nat)  : run ty azI fB N Try.f19 [.nil] []
    = some (.ptr 0 0, [.at true (.as 1 [.nil, .int .i64 0, .int .u64 0])]) := by
  kernel_rfl
theorem KG : FnT Try.prog 19 agQ := by
  intro vs hp v h' e
  unfold agQ at e
  split at e
  · obtain ⟨rfl, rfl⟩ := T.ret_inv e
    refine FnT.runs aCT Try.func19 rfl rfl fB 0 _ _ _ _ ?_
    rw [T.run_of]
    exact aP9 0 _ _ _
  · obtain ⟨rfl, rfl⟩ := T.ret_inv e
    refine FnT.runs aCU Try.func19 rfl rfl fB 0 _ _ _ _ ?_
    rw [T.run_of]
    exact aQA 0
  · exact (T.no_inv e).elim
def apG : Fns := gX [(19, agQ), (20, gDs)]
theorem auU : ∀ f, FnT Try.prog f (apG f) := (aC (k := 19) KG (aC (k := 20) aa9 bJ))
theorem aH8 (N : Nat) (m : Nat) (rw : Bool) (l : List Int) : run ty apG fB N Try.f6 [.sl 0 0 m, .int .i64 0] [.at rw (.int .u8 l)]
    = (match decide (l.length = m ∧ m < 2147483648) with | true => some (.g [.nil, .sl 1 0 1], [.at rw (.int .u8 l), .at true (.fl .f32 [0])]) | false => none) := by
  kernel_rfl
def apH : Fns := gX [(19, agQ), (20, gDs)]
theorem auV : ∀ f, FnT Try.prog f (apH f) := (aC (k := 19) KG (aC (k := 20) aa9 bJ))
theorem aH9 (N : Nat)  : run ty apH fB N Try.f6 [.nil, .int .i64 0] []
    = some (.g [.nil, .sl 0 0 1], [.at true (.fl .f32 [0])]) := by
  kernel_rfl
def apI : Fns := gX [(19, agQ), (20, gDs)]
theorem auW : ∀ f, FnT Try.prog f (apI f) := (aC (k := 19) KG (aC (k := 20) aa9 bJ))
theorem aIA (N : Nat) (m : Nat) (rw : Bool) (l : List Int) : run ty apI fB N Try.f6 [.sl 0 0 m, .int .i64 1] [.at rw (.int .u8 l)]
    = (match decide (l.length = m ∧ m < 2147483648) with | true => some (.g [.sl 1 0 1, .sl 2 0 2], [.at rw (.int .u8 l), .at true (.fl .f32 [a0F l]), .at true (.fl .f32 [0, 0])]) | false => none) := by
  kernel_rfl
def apJ : Fns := gX [(19, agQ), (20, gDs)]
theorem auX : ∀ f, FnT Try.prog f (apJ f) := (aC (k := 19) KG (aC (k := 20) aa9 bJ))
theorem aIB (N : Nat)  : run ty apJ fB N Try.f6 [.nil, .int .i64 1] []
    = some (.g [.sl 0 0 1, .sl 1 0 2], [.at true (.fl .f32 [a0F ([] : List Int)]), .at true (.fl .f32 [0, 0])]) := by
  kernel_rfl
def apK : Fns := gX [(19, agQ), (20, gDs)]
theorem auY : ∀ f, FnT Try.prog f (apK f) := (aC (k := 19) KG (aC (k := 20) aa9 bJ))
theorem aIC (N : Nat) (m : Nat) (rw : Bool) (l : List Int) : run ty apK fB N Try.f6 [.sl 0 0 m, .int .i64 2] [.at rw (.int .u8 l)]
    = (match decide (l.length = m ∧ m < 2147483648) with | true => some (.g [.sl 1 0 2, .sl 2 0 3], [.at rw (.int .u8 l), .at true (.fl .f32 [a0F l, fop .add .f32 (a0F l) (wqF l 1)]), .at true (.fl .f32 [0, hqF l 4, 0])]) | false => none) := by
  kernel_rfl
def apL : Fns := gX [(19, agQ), (20, gDs)]
theorem auZ : ∀ f, FnT Try.prog f (apL f) := (aC (k := 19) KG (aC (k := 20) aa9 bJ))
theorem aID (N : Nat)  : run ty apL fB N Try.f6 [.nil, .int .i64 2] []
    = some (.g [.sl 0 0 2, .sl 1 0 3], [.at true (.fl .f32 [a0F ([] : List Int), fop .add .f32 (a0F ([] : List Int)) (wqF ([] : List Int) 1)]), .at true (.fl .f32 [0, hqF ([] : List Int) 4, 0])]) := by
  kernel_rfl
def apM : Fns := gX [(19, agQ), (20, gDs)]
theorem au0 : ∀ f, FnT Try.prog f (apM f) := (aC (k := 19) KG (aC (k := 20) aa9 bJ))
theorem aIE (N : Nat) (m : Nat) (rw : Bool) (l : List Int) : run ty apM fB N Try.f6 [.sl 0 0 m, .int .i64 3] [.at rw (.int .u8 l)]
    = (match decide (l.length = m ∧ m < 2147483648) with | true => some (.g [.sl 1 0 3, .sl 2 0 4], [.at rw (.int .u8 l), .at true (.fl .f32 [a0F l, fop .add .f32 (a0F l) (wqF l 1), fop .add .f32 (fop .add .f32 (a0F l) (wqF l 1)) (wqF l 2)]), .at true (.fl .f32 [0, hqF l 5, hqF l 6, 0])]) | false => none) := by
  kernel_rfl
def apN : Fns := gX [(19, agQ), (20, gDs)]
theorem au1 : ∀ f, FnT Try.prog f (apN f) := (aC (k := 19) KG (aC (k := 20) aa9 bJ))
theorem aIF (N : Nat)  : run ty apN fB N Try.f6 [.nil, .int .i64 3] []
    = some (.g [.sl 0 0 3, .sl 1 0 4], [.at true (.fl .f32 [a0F ([] : List Int), fop .add .f32 (a0F ([] : List Int)) (wqF ([] : List Int) 1), fop .add .f32 (fop .add .f32 (a0F ([] : List Int)) (wqF ([] : List Int) 1)) (wqF ([] : List Int) 2)]), .at true (.fl .f32 [0, hqF ([] : List Int) 5, hqF ([] : List Int) 6, 0])]) := by
  kernel_rfl
def gRs : GT := fun vs h => match vs, h with
  | [.sl 0 0 m, .int .i64 n], [.at rw (.int .u8 l)] => .ite (decide (l.length = m ∧ m < 2147483648)) (.ite (decide (n = 0)) (.ret (.g [.nil, .sl 1 0 1]) [.at rw (.int .u8 l), .at true (.fl .f32 [0])]) (.ite (decide (n = 1 ∨ n = 2 ∨ n = 3)) (.ret (.g [.sl 1 0 (esV n l).length, .sl 2 0 (hsV n l).length]) [.at rw (.int .u8 l), .at true (.fl .f32 (esV n l)), .at true (.fl .f32 (hsV n l))]) .no)) .no
  | [.nil, .int .i64 n], [] => .ite (decide (n = 0)) (.ret (.g [.nil, .sl 0 0 1]) [.at true (.fl .f32 [0])]) (.ite (decide (n = 1 ∨ n = 2 ∨ n = 3)) (.ret (.g [.sl 0 0 (esV n []).length, .sl 1 0 (hsV n []).length]) [.at true (.fl .f32 (esV n [])), .at true (.fl .f32 (hsV n []))]) .no)
  | _, _ => .no
theorem azJ : FnT Try.prog 6 gRs := by
  intro vs hp v h' e
  unfold gRs at e
  split at e
  · rename_i m n rw l
    obtain ⟨hd1, e⟩ := T.pre_inv e
    rw [T.run_ite] at e
    cases h0 : decide (n = 0) with
    | true =>
      rw [h0] at e
      obtain ⟨rfl, rfl⟩ := T.ret_inv e
      obtain rfl := of_decide_eq_true h0
      refine FnT.runs auU Try.func6 rfl rfl fB 0 _ _ _ _ ?_
      rw [T.run_of]
      refine Eq.trans (aH8 0 m rw l) ?_
      rw [hd1]
      all_goals rfl
    | false =>
      rw [h0] at e
      obtain ⟨hd, e⟩ := T.pre_inv e
      obtain ⟨rfl, rfl⟩ := T.ret_inv e
      rcases of_decide_eq_true hd with rfl | rfl | rfl
      · refine FnT.runs auW Try.func6 rfl rfl fB 0 _ _ _ _ ?_
        rw [T.run_of]
        refine Eq.trans (aIA 0 m rw l) ?_
        rw [hd1]
        all_goals rfl
      · refine FnT.runs auY Try.func6 rfl rfl fB 0 _ _ _ _ ?_
        rw [T.run_of]
        refine Eq.trans (aIC 0 m rw l) ?_
        rw [hd1]
        all_goals rfl
      · refine FnT.runs au0 Try.func6 rfl rfl fB 0 _ _ _ _ ?_
        rw [T.run_of]
        refine Eq.trans (aIE 0 m rw l) ?_
        rw [hd1]
        all_goals rfl
  · rename_i n
    rw [T.run_ite] at e
    cases h0 : decide (n = 0) with
    | true =>
      rw [h0] at e
      obtain ⟨rfl, rfl⟩ := T.ret_inv e
      obtain rfl := of_decide_eq_true h0
      refine FnT.runs auV Try.func6 rfl rfl fB 0 _ _ _ _ ?_
      rw [T.run_of]
      refine Eq.trans (aH9 0 ) ?_
      skip
      all_goals rfl
    | false =>
      rw [h0] at e
      obtain ⟨hd, e⟩ := T.pre_inv e
      obtain ⟨rfl, rfl⟩ := T.ret_inv e
      rcases of_decide_eq_true hd with rfl | rfl | rfl
      · refine FnT.runs auX Try.func6 rfl rfl fB 0 _ _ _ _ ?_
        rw [T.run_of]
        refine Eq.trans (aIB 0 ) ?_
        skip
        all_goals rfl
      · refine FnT.runs auZ Try.func6 rfl rfl fB 0 _ _ _ _ ?_
        rw [T.run_of]
        refine Eq.trans (aID 0 ) ?_
        skip
        all_goals rfl
      · refine FnT.runs au1 Try.func6 rfl rfl fB 0 _ _ _ _ ?_
        rw [T.run_of]
        refine Eq.trans (aIF 0 ) ?_
        skip
        all_goals rfl
  · exact (T.no_inv e).elim
def isS {α : Type} (o : Option α) : Bool := o.isSome
def aY1 : List V → Bool
  | .g (.nil :: _) :: _ => true
  | .nil :: _ => true
  | _ => false
def gOr (g g' : GT) : GT := fun vs h => match aY1 vs with | true => g vs h | false => g' vs h
theorem FnT.or {f : FuncId} {g g' : GT} (h : FnT Try.prog f g) (h' : FnT Try.prog f g') : FnT Try.prog f (gOr g g') := fun vs hp v h2 e => by
  unfold gOr at e
  cases hn : aY1 vs with
  | true => rw [hn] at e; exact h vs hp v h2 e
  | false => rw [hn] at e; exact h' vs hp v h2 e
def aiC : Fns := gX []
theorem apO : ∀ f, FnT Try.prog f (aiC f) := bJ
theorem aCV (N : Nat)  : run ty aiC fB (N + 1) Try.f38 [.nil] []
    = some (.bool true, []) := by
  kernel_rfl
def akN : GT := fun vs h => match vs, h with
  | [.nil], [] => .ret (.bool true) []
  | _, _ => .no
theorem aIG : FnT Try.prog 38 akN := by
  intro vs h v h' e
  unfold akN at e
  split at e
  · obtain ⟨rfl, rfl⟩ := T.ret_inv e
    exact FnT.runs apO Try.func38 rfl rfl fB 1 _ _ _ _ (by rw [T.run_of]; exact aCV 0)
  · exact (T.no_inv e).elim
noncomputable def afO : Fns := gX [(21, QZ iH), (38, (gOr akN aN2))]
theorem au2 : ∀ f, FnT Try.prog f (afO f) := (aC (k := 21) pF (aC (k := 38) (FnT.or aIG axC) bJ))
theorem aIH (N : Nat) (m : Nat) (s0 : Bool) (l : List Nat) : run ty afO fB N Try.f11 [.g [.nil, .sl 0 0 m]] [.at s0 (.fl .f32 l)]
    = (match ((m : Nat) : Int) == 1 with | true => (match decide (l.length = m ∧ m < 2147483648) with | true => (match l.all iH with | true => some (.bool true, [.at s0 (.fl .f32 l)]) | false => some (.bool false, [.at s0 (.fl .f32 l)])) | false => none) | false => some (.bool false, [.at s0 (.fl .f32 l)])) := by
  kernel_rfl
noncomputable def akO (N : Nat) (m : Nat) (s0 : Bool) (l : List Nat) : Option (V × H) := (match ((m : Nat) : Int) == 1 with | true => (match decide (l.length = m ∧ m < 2147483648) with | true => (match l.all iH with | true => some (.bool true, [.at s0 (.fl .f32 l)]) | false => some (.bool false, [.at s0 (.fl .f32 l)])) | false => none) | false => some (.bool false, [.at s0 (.fl .f32 l)]))
theorem aII (N : Nat) (m : Nat) (s0 : Bool) (l : List Nat) : run ty afO fB N Try.f11 [.g [.nil, .sl 0 0 m]] [.at s0 (.fl .f32 l)] = akO N m s0 l := by
  rw [aIH]
  unfold akO
  first | (simp only [eq_self]; done) | (simp only [eq_self]; kernel_rfl) | rfl
def au3 (m : Nat) (s0 : Bool) (l : List Nat) : Option (V × H) → Option (Bool)
  | some (.bool x0, [.at r0 (.fl .f32 y0)]) => match decide (r0 = s0 ∧ y0 = l) with | true => some x0 | false => none
  | _ => none
theorem aQB {m : Nat} {s0 : Bool} {l : List Nat} {o : Option (V × H)} {z : Bool} (h : au3 m s0 l o = some z) : o = some (.bool z, [.at s0 (.fl .f32 l)]) := by
  unfold au3 at h
  split at h
  · split at h
    · rename_i hd
      obtain ⟨rfl, rfl⟩ := of_decide_eq_true hd
      cases h
      rfl
    · cases h
  · cases h
noncomputable def qB (m : Nat) (s0 : Bool) (l : List Nat) : Option (Bool) := au3 m s0 l (akO 30 m s0 l)
noncomputable def pJ (m : Nat) (s0 : Bool) (l : List Nat) : Bool := (qB m s0 l).getD false
noncomputable def uD : GT := fun vs h => match vs, h with
  | [.g [.nil, .sl 0 0 m]], [.at s0 (.fl .f32 l)] => .ite (isS (qB m s0 l)) (.ret (.bool (pJ m s0 l)) [.at s0 (.fl .f32 l)]) .no
  | _, _ => .no
theorem tY : FnT Try.prog 11 uD := by
  refine fnT au2 Try.func11 rfl rfl fB fun vs h v h' e => ⟨30, ?_⟩
  unfold uD at e
  split at e
  · rename_i m s0 l
    obtain ⟨hs, e⟩ := T.pre_inv e
    obtain ⟨rfl, rfl⟩ := T.ret_inv e
    skip
    refine Eq.trans (aII 30 m s0 l) ?_
    obtain ⟨z, hz⟩ := Option.isSome_iff_exists.mp hs
    have hv : pJ m s0 l = z := by unfold pJ; rw [hz]; rfl
    rw [hv]
    exact aQB hz
  · exact (T.no_inv e).elim
def SV : Ann := ⟨fun r => if r = 5 then some ([1, 6, 19, 20, 21], [4, 5, 6]) else none, fun _ _ => .quiet⟩
noncomputable def KH : Fns := gX [(11, (gOr uD gVs)), (25, gT (gF1 iH)), (26, gT axB), (27, aN6)]
theorem au4 : ∀ f, FnT Try.prog f (KH f) := (aC (k := 11) (FnT.or tY nY) (aC (k := 25) uI (aC (k := 26) OM (aC (k := 27) aGM bJ))))
def KI (energy1 : Nat) (out6n : Nat) (t19n : Nat) (t20 : Int) (t21 : Int) (rw0 : Bool) (l0 : List Nat) (l1 : List (Nat × Nat)) : St := ⟨(.any :: .fl .f32 energy1 :: .any :: .any :: .any :: .any :: .sl 1 0 out6n :: (fE 12 (.sl 0 0 t19n :: .int .i64 t20 :: .int .i64 t21 :: (fE 31 [])))), [.at rw0 (.fl .f32 l0), .at true (.cx .f32 l1)]⟩
abbrev aIJ : Option (List Nat × List Nat) := some ([1, 6, 19, 20, 21], [4, 5, 6])
noncomputable def KJ {R : Type} (N M : Nat) (s : St) (K : X → St → Option R) : Option R := pO 1 aIJ (fun st K => exec ty KH SV N 1 (oD [true, true, true, false, true, false, false] Try.f9) st K) M s K
noncomputable def zX {R : Type} (N : Nat) (K : X → St → Option R) : X → St → Option R := rF 0 (yS KH SV N 1 (oD [true, true, true, true] Try.f9) (K))
def QI (out6n : Nat) (rw0 : Bool) (l0 : List Nat) (l1 : List (Nat × Nat)) : St := ⟨(.any :: .any :: .any :: .any :: .nil :: .bool false :: .sl 1 0 out6n :: (fE 46 [])), [.at rw0 (.fl .f32 l0), .at true (.cx .f32 l1)]⟩
def QJ (out6n : Nat) (rw0 : Bool) (l0 : List Nat) (l1 : List (Nat × Nat)) : St := ⟨(fE 6 (.sl 1 0 out6n :: (fE 46 []))), [.at rw0 (.fl .f32 l0), .at true (.cx .f32 l1)]⟩
theorem aIK (N : Nat) (m : Nat) (en : Nat) (s0 : Bool) (l : List Nat) : run ty KH SV N Try.f9 [.g [.nil, .sl 0 0 m], .fl .f32 en] [.at s0 (.fl .f32 l)]
    = (match isS (qB m s0 l) with | true => (match !(pJ m s0 l) with | true => some (.tup [.a (.nil), .a (.bool false)], [.at s0 (.fl .f32 l)]) | false => (match !(iH en) with | true => some (.tup [.a (.nil), .a (.bool false)], [.at s0 (.fl .f32 l)]) | false => KJ N N (KI en 0 m ((m : Nat) : Int) 0 s0 l []) (zX N (mF Try.f9 1)))) | false => none) := by
  kernel_rfl
theorem au5 {R : Type} (N M : Nat) (K : X → St → Option R) (energy1 : Nat) (out6n : Nat) (t19n : Nat) (t20 : Int) (t21 : Int) (rw0 : Bool) (l0 : List Nat) (l1 : List (Nat × Nat)) : KJ N (M + 1) (KI energy1 out6n t19n t20 t21 rw0 l0 l1) K
    = (match decide ((t21 : Int) < t20) with | true => (match decide (0 ≤ (t21 : Int) ∧ (t21 : Int) < ((t19n : Nat) : Int)) with | true => (match l0[0 + (t21).toNat * 1]? with | some e1 => (match gtB energy1 e1 with | true => (match zH true out6n 1 l1.length 1 (out6n + 1) 8 with | true => KJ N M (KI energy1 (out6n + 1) t19n t20 (IntKind.i64.wrap (t21 + 1)) rw0 l0 (l1 ++ [(JH (fop .sub .f32 energy1 e1), 0)])) K | false => none) | false => (match ltB energy1 e1 with | true => (match zH true out6n 1 l1.length 1 (out6n + 1) 8 with | true => KJ N M (KI energy1 (out6n + 1) t19n t20 (IntKind.i64.wrap (t21 + 1)) rw0 l0 (l1 ++ [(0, JH (fop .sub .f32 e1 energy1))])) K | false => none) | false => K .ret (QI out6n rw0 l0 l1))) | none => none) | false => none) | false => K (.exit 0) (QJ out6n rw0 l0 l1)) := by
  kernel_rfl
theorem apP (N : Nat) (out6n : Nat) (rw0 : Bool) (l0 : List Nat) (l1 : List (Nat × Nat)) : zX N (mF Try.f9 1) .ret (QI out6n rw0 l0 l1)
    = some (.tup [.a (.nil), .a (.bool false)], [.at rw0 (.fl .f32 l0)]) := by
  kernel_rfl
theorem apQ (N : Nat) (out6n : Nat) (rw0 : Bool) (l0 : List Nat) (l1 : List (Nat × Nat)) : zX N (mF Try.f9 1) (.exit 0) (QJ out6n rw0 l0 l1)
    = (match decide (l1.length = out6n ∧ out6n < 2147483648) with | true => (match !(l1.all cfB) with | true => some (.tup [.a (.nil), .a (.bool false)], [.at rw0 (.fl .f32 l0)]) | false => some (.tup [.a (.sl 1 0 out6n), .a (.bool true)], [.at rw0 (.fl .f32 l0), .at true (.cx .f32 l1)])) | false => none) := by
  kernel_rfl
noncomputable def BL (N : Nat) (out6n : Nat) (rw0 : Bool) (l0 : List Nat) (l1 : List (Nat × Nat)) : Option (V × H) := some (.tup [.a (.nil), .a (.bool false)], [.at rw0 (.fl .f32 l0)])
noncomputable def BM (N : Nat) (out6n : Nat) (rw0 : Bool) (l0 : List Nat) (l1 : List (Nat × Nat)) : Option (V × H) := (match decide (l1.length = out6n ∧ out6n < 2147483648) with | true => (match !(l1.all cfB) with | true => some (.tup [.a (.nil), .a (.bool false)], [.at rw0 (.fl .f32 l0)]) | false => some (.tup [.a (.sl 1 0 out6n), .a (.bool true)], [.at rw0 (.fl .f32 l0), .at true (.cx .f32 l1)])) | false => none)
noncomputable def afP (N : Nat) (k0 : Nat → Bool → List Nat → List (Nat × Nat) → Option (V × H)) (k1 : Nat → Bool → List Nat → List (Nat × Nat) → Option (V × H)) (rq : Nat → Nat → Nat → Int → Int → Bool → List Nat → List (Nat × Nat) → Option (V × H)) : Nat → Nat → Nat → Int → Int → Bool → List Nat → List (Nat × Nat) → Option (V × H) := fun (energy1 : Nat) (out6n : Nat) (t19n : Nat) (t20 : Int) (t21 : Int) (rw0 : Bool) (l0 : List Nat) (l1 : List (Nat × Nat)) => (match decide ((t21 : Int) < t20) with | true => (match decide (0 ≤ (t21 : Int) ∧ (t21 : Int) < ((t19n : Nat) : Int)) with | true => (match l0[0 + (t21).toNat * 1]? with | some e1 => (match gtB energy1 e1 with | true => (match zH true out6n 1 l1.length 1 (out6n + 1) 8 with | true => (rq energy1 (out6n + 1) t19n t20 (IntKind.i64.wrap (t21 + 1)) rw0 l0 (l1 ++ [(JH (fop .sub .f32 energy1 e1), 0)])) | false => none) | false => (match ltB energy1 e1 with | true => (match zH true out6n 1 l1.length 1 (out6n + 1) 8 with | true => (rq energy1 (out6n + 1) t19n t20 (IntKind.i64.wrap (t21 + 1)) rw0 l0 (l1 ++ [(0, JH (fop .sub .f32 e1 energy1))])) | false => none) | false => (k0 out6n rw0 l0 l1))) | none => none) | false => none) | false => (k1 out6n rw0 l0 l1))
noncomputable def SX (N : Nat) (k0 : Nat → Bool → List Nat → List (Nat × Nat) → Option (V × H)) (k1 : Nat → Bool → List Nat → List (Nat × Nat) → Option (V × H)) (M : Nat) : Nat → Nat → Nat → Int → Int → Bool → List Nat → List (Nat × Nat) → Option (V × H) := Nat.rec (motive := fun _ => Nat → Nat → Nat → Int → Int → Bool → List Nat → List (Nat × Nat) → Option (V × H)) (fun (_ : Nat) (_ : Nat) (_ : Nat) (_ : Int) (_ : Int) (_ : Bool) (_ : List Nat) (_ : List (Nat × Nat)) => none) (fun _ rq => afP N k0 k1 rq) M
theorem aCW (N : Nat) (k0 : Nat → Bool → List Nat → List (Nat × Nat) → Option (V × H)) (k1 : Nat → Bool → List Nat → List (Nat × Nat) → Option (V × H)) (M : Nat) (energy1 : Nat) (out6n : Nat) (t19n : Nat) (t20 : Int) (t21 : Int) (rw0 : Bool) (l0 : List Nat) (l1 : List (Nat × Nat)) : SX N k0 k1 (M + 1) energy1 out6n t19n t20 t21 rw0 l0 l1 = afP N k0 k1 (SX N k0 k1 M) energy1 out6n t19n t20 t21 rw0 l0 l1 := rfl
theorem azK (N : Nat) : ∀ (M : Nat) (energy1 : Nat) (out6n : Nat) (t19n : Nat) (t20 : Int) (t21 : Int) (rw0 : Bool) (l0 : List Nat) (l1 : List (Nat × Nat)), KJ N M (KI energy1 out6n t19n t20 t21 rw0 l0 l1) (zX N (mF Try.f9 1)) = SX N (BL N) (BM N) M energy1 out6n t19n t20 t21 rw0 l0 l1 := by
  have he0 : ∀ (out6n : Nat) (rw0 : Bool) (l0 : List Nat) (l1 : List (Nat × Nat)), zX N (mF Try.f9 1) .ret (QI out6n rw0 l0 l1) = BL N out6n rw0 l0 l1 := by
    intro out6n rw0 l0 l1
    rw [apP]
    unfold BL
    first | (simp only []; done) | (simp only []; kernel_rfl) | rfl
  have he1 : ∀ (out6n : Nat) (rw0 : Bool) (l0 : List Nat) (l1 : List (Nat × Nat)), zX N (mF Try.f9 1) (.exit 0) (QJ out6n rw0 l0 l1) = BM N out6n rw0 l0 l1 := by
    intro out6n rw0 l0 l1
    rw [apQ]
    unfold BM
    first | (simp only []; done) | (simp only []; kernel_rfl) | rfl
  intro M
  induction M with
  | zero => intros; rfl
  | succ M ih =>
    intro energy1 out6n t19n t20 t21 rw0 l0 l1
    rw [au5]
    rw [aCW]
    unfold afP
    first | (simp only [ih, he0, he1]; done) | (simp only [ih, he0, he1]; kernel_rfl) | rfl
noncomputable def akP (N : Nat) (m : Nat) (en : Nat) (s0 : Bool) (l : List Nat) : Option (V × H) := (match isS (qB m s0 l) with | true => (match !(pJ m s0 l) with | true => some (.tup [.a (.nil), .a (.bool false)], [.at s0 (.fl .f32 l)]) | false => (match !(iH en) with | true => some (.tup [.a (.nil), .a (.bool false)], [.at s0 (.fl .f32 l)]) | false => (SX N (BL N) (BM N) N en 0 m ((m : Nat) : Int) 0 s0 l []))) | false => none)
theorem aIL (N : Nat) (m : Nat) (en : Nat) (s0 : Bool) (l : List Nat) : run ty KH SV N Try.f9 [.g [.nil, .sl 0 0 m], .fl .f32 en] [.at s0 (.fl .f32 l)] = akP N m en s0 l := by
  rw [aIK]
  unfold akP
  first | (simp only [azK N N]; done) | (simp only [azK N N]; kernel_rfl) | rfl
def au6 (m : Nat) (en : Nat) (s0 : Bool) (l : List Nat) : Option (V × H) → Option (Nat × List (Nat × Nat))
  | some (.tup [.a (.sl 1 0 x1), .a (.bool true)], [.at r0 (.fl .f32 y0), .at true (.cx .f32 x3)]) => match decide (r0 = s0 ∧ y0 = l) with | true => some (x1, x3) | false => none
  | _ => none
theorem aQC {m : Nat} {en : Nat} {s0 : Bool} {l : List Nat} {o : Option (V × H)} {z : Nat × List (Nat × Nat)} (h : au6 m en s0 l o = some z) : o = some (.tup [.a (.sl 1 0 z.1), .a (.bool true)], [.at s0 (.fl .f32 l), .at true (.cx .f32 z.2)]) := by
  unfold au6 at h
  split at h
  · split at h
    · rename_i hd
      obtain ⟨rfl, rfl⟩ := of_decide_eq_true hd
      cases h
      rfl
    · cases h
  · cases h
noncomputable def uV (m : Nat) (en : Nat) (s0 : Bool) (l : List Nat) : Option (Nat × List (Nat × Nat)) := au6 m en s0 l (akP 30 m en s0 l)
noncomputable def fG (m : Nat) (en : Nat) (s0 : Bool) (l : List Nat) : Nat × List (Nat × Nat) := (uV m en s0 l).getD (0, [])
noncomputable def zM : GT := fun vs h => match vs, h with
  | [.g [.nil, .sl 0 0 m], .fl .f32 en], [.at s0 (.fl .f32 l)] => .ite (isS (uV m en s0 l)) (.ret (.tup [.a (.sl 1 0 ((fG m en s0 l).1)), .a (.bool true)]) [.at s0 (.fl .f32 l), .at true (.cx .f32 ((fG m en s0 l).2))]) .no
  | _, _ => .no
theorem zF : FnT Try.prog 9 zM := by
  refine fnT au4 Try.func9 rfl rfl SV fun vs h v h' e => ⟨30, ?_⟩
  unfold zM at e
  split at e
  · rename_i m en s0 l
    obtain ⟨hs, e⟩ := T.pre_inv e
    obtain ⟨rfl, rfl⟩ := T.ret_inv e
    skip
    refine Eq.trans (aIL 30 m en s0 l) ?_
    obtain ⟨z, hz⟩ := Option.isSome_iff_exists.mp hs
    have hv : fG m en s0 l = z := by unfold fG; rw [hz]; rfl
    rw [hv]
    exact aQC hz
  · exact (T.no_inv e).elim
def SY : Ann := ⟨fun r => if r = 6 then some ([2, 7, 9, 10, 11], [9, 10]) else none, fun _ _ => .quiet⟩
noncomputable def KN : Fns := gX [(9, (gOr zM gWn)), (29, aoF)]
theorem au7 : ∀ f, FnT Try.prog f (KN f) := (aC (k := 9) (FnT.or zF zJ) (aC (k := 29) ar4 bJ))
def afQ (waves7n : Nat) (rw0 : Bool) (l0 : List Nat) (b1_1n : Nat) (l2 : List (Nat × Nat)) : St := ⟨(.any :: .any :: .ptr 1 0 :: .any :: .any :: .any :: .any :: .sl 2 0 waves7n :: .any :: .cx .f32 1065353216 0 :: .cx .f32 0 0 :: .int .i64 (-1) :: (fE 114 [])), [.at rw0 (.fl .f32 l0), .at true (.as 1 [.nil, .sl 0 0 b1_1n]), .at true (.cx .f32 l2)]⟩
abbrev aIM : Option (List Nat × List Nat) := some ([2, 7, 9, 10, 11], [9, 10])
noncomputable def afR {R : Type} (N M : Nat) (s : St) (K : X → St → Option R) : Option R := pO 1 aIM (fun st K => exec ty KN SY N 1 (oD [true, true, true, true, false, true, false, false] Try.f10) st K) M s K
noncomputable def S9 {R : Type} (N : Nat) (K : X → St → Option R) : X → St → Option R := rF 0 (yS KN SY N 1 (oD [true, true, true, true, true] Try.f10) (K))
def QL (rw0 : Bool) (l0 : List Nat) : St := ⟨(fE 9 (.cx .f32 1065353216 0 :: .cx .f32 0 0 :: (fE 115 []))), [.at rw0 (.fl .f32 l0)]⟩
theorem aIN (N : Nat) (m : Nat) (en : Nat) (s0 : Bool) (l : List Nat) : run ty KN SY N Try.f10 [.g [.nil, .sl 0 0 m], .fl .f32 en] [.at s0 (.fl .f32 l)]
    = (match isS (uV m en s0 l) with | true => afR N N (afQ ((fG m en s0 l).1) s0 l m ((fG m en s0 l).2)) (S9 N (mF Try.f10 1)) | false => none) := by
  kernel_rfl
theorem au8 {R : Type} (N M : Nat) (K : X → St → Option R) (waves7n : Nat) (rw0 : Bool) (l0 : List Nat) (b1_1n : Nat) (l2 : List (Nat × Nat)) : afR N (M + 1) (afQ waves7n rw0 l0 b1_1n l2) K
    = K (.exit 0) (QL rw0 l0) := by
  kernel_rfl
theorem apR (N : Nat) (rw0 : Bool) (l0 : List Nat) : S9 N (mF Try.f10 1) (.exit 0) (QL rw0 l0)
    = (match !(cfB (1065353216, 0)) with | true => some (.tup [.a (.cx .f32 0 0), .a (.cx .f32 0 0), .a (.bool false)], [.at rw0 (.fl .f32 l0)]) | false => (match !(cfB (0, 0)) with | true => some (.tup [.a (.cx .f32 0 0), .a (.cx .f32 0 0), .a (.bool false)], [.at rw0 (.fl .f32 l0)]) | false => some (.tup [.a (.cx .f32 1065353216 0), .a (.cx .f32 0 0), .a (.bool true)], [.at rw0 (.fl .f32 l0)]))) := by
  kernel_rfl
noncomputable def BN (N : Nat) (rw0 : Bool) (l0 : List Nat) : Option (V × H) := (match !(cfB (1065353216, 0)) with | true => some (.tup [.a (.cx .f32 0 0), .a (.cx .f32 0 0), .a (.bool false)], [.at rw0 (.fl .f32 l0)]) | false => (match !(cfB (0, 0)) with | true => some (.tup [.a (.cx .f32 0 0), .a (.cx .f32 0 0), .a (.bool false)], [.at rw0 (.fl .f32 l0)]) | false => some (.tup [.a (.cx .f32 1065353216 0), .a (.cx .f32 0 0), .a (.bool true)], [.at rw0 (.fl .f32 l0)])))
noncomputable def afS (N : Nat) (k0 : Bool → List Nat → Option (V × H)) (rq : Nat → Bool → List Nat → Nat → List (Nat × Nat) → Option (V × H)) : Nat → Bool → List Nat → Nat → List (Nat × Nat) → Option (V × H) := fun (waves7n : Nat) (rw0 : Bool) (l0 : List Nat) (b1_1n : Nat) (l2 : List (Nat × Nat)) => (k0 rw0 l0)
noncomputable def TA (N : Nat) (k0 : Bool → List Nat → Option (V × H)) (M : Nat) : Nat → Bool → List Nat → Nat → List (Nat × Nat) → Option (V × H) := Nat.rec (motive := fun _ => Nat → Bool → List Nat → Nat → List (Nat × Nat) → Option (V × H)) (fun (_ : Nat) (_ : Bool) (_ : List Nat) (_ : Nat) (_ : List (Nat × Nat)) => none) (fun _ rq => afS N k0 rq) M
theorem aCX (N : Nat) (k0 : Bool → List Nat → Option (V × H)) (M : Nat) (waves7n : Nat) (rw0 : Bool) (l0 : List Nat) (b1_1n : Nat) (l2 : List (Nat × Nat)) : TA N k0 (M + 1) waves7n rw0 l0 b1_1n l2 = afS N k0 (TA N k0 M) waves7n rw0 l0 b1_1n l2 := rfl
theorem azL (N : Nat) : ∀ (M : Nat) (waves7n : Nat) (rw0 : Bool) (l0 : List Nat) (b1_1n : Nat) (l2 : List (Nat × Nat)), afR N M (afQ waves7n rw0 l0 b1_1n l2) (S9 N (mF Try.f10 1)) = TA N (BN N) M waves7n rw0 l0 b1_1n l2 := by
  have he0 : ∀ (rw0 : Bool) (l0 : List Nat), S9 N (mF Try.f10 1) (.exit 0) (QL rw0 l0) = BN N rw0 l0 := by
    intro rw0 l0
    rw [apR]
    unfold BN
    first | (simp only []; done) | (simp only []; kernel_rfl) | rfl
  intro M
  induction M with
  | zero => intros; rfl
  | succ M ih =>
    intro waves7n rw0 l0 b1_1n l2
    rw [au8]
    rw [aCX]
    unfold afS
    first | (simp only [ih, he0]; done) | (simp only [ih, he0]; kernel_rfl) | rfl
noncomputable def akQ (N : Nat) (m : Nat) (en : Nat) (s0 : Bool) (l : List Nat) : Option (V × H) := (match isS (uV m en s0 l) with | true => (TA N (BN N) N ((fG m en s0 l).1) s0 l m ((fG m en s0 l).2)) | false => none)
theorem aIO (N : Nat) (m : Nat) (en : Nat) (s0 : Bool) (l : List Nat) : run ty KN SY N Try.f10 [.g [.nil, .sl 0 0 m], .fl .f32 en] [.at s0 (.fl .f32 l)] = akQ N m en s0 l := by
  rw [aIN]
  unfold akQ
  first | (simp only [azL N N]; done) | (simp only [azL N N]; kernel_rfl) | rfl
def au9 (m : Nat) (en : Nat) (s0 : Bool) (l : List Nat) : Option (V × H) → Option (Bool)
  | some (.tup [.a (.cx .f32 1065353216 0), .a (.cx .f32 0 0), .a (.bool x4)], [.at r0 (.fl .f32 y0)]) => match decide (r0 = s0 ∧ y0 = l) with | true => some x4 | false => none
  | _ => none
theorem aQD {m : Nat} {en : Nat} {s0 : Bool} {l : List Nat} {o : Option (V × H)} {z : Bool} (h : au9 m en s0 l o = some z) : o = some (.tup [.a (.cx .f32 1065353216 0), .a (.cx .f32 0 0), .a (.bool z)], [.at s0 (.fl .f32 l)]) := by
  unfold au9 at h
  split at h
  · split at h
    · rename_i hd
      obtain ⟨rfl, rfl⟩ := of_decide_eq_true hd
      cases h
      rfl
    · cases h
  · cases h
noncomputable def zN (m : Nat) (en : Nat) (s0 : Bool) (l : List Nat) : Option (Bool) := au9 m en s0 l (akQ 30 m en s0 l)
noncomputable def yO (m : Nat) (en : Nat) (s0 : Bool) (l : List Nat) : Bool := (zN m en s0 l).getD false
noncomputable def BO : GT := fun vs h => match vs, h with
  | [.g [.nil, .sl 0 0 m], .fl .f32 en], [.at s0 (.fl .f32 l)] => .ite (isS (zN m en s0 l)) (.ret (.tup [.a (.cx .f32 1065353216 0), .a (.cx .f32 0 0), .a (.bool (yO m en s0 l))]) [.at s0 (.fl .f32 l)]) .no
  | _, _ => .no
theorem BP : FnT Try.prog 10 BO := by
  refine fnT au7 Try.func10 rfl rfl SY fun vs h v h' e => ⟨30, ?_⟩
  unfold BO at e
  split at e
  · rename_i m en s0 l
    obtain ⟨hs, e⟩ := T.pre_inv e
    obtain ⟨rfl, rfl⟩ := T.ret_inv e
    skip
    refine Eq.trans (aIO 30 m en s0 l) ?_
    obtain ⟨z, hz⟩ := Option.isSome_iff_exists.mp hs
    have hv : yO m en s0 l = z := by unfold yO; rw [hz]; rfl
    rw [hv]
    exact aQD hz
  · exact (T.no_inv e).elim
noncomputable def afT : Fns := gX [(10, (gOr BO gWa)), (9, (gOr zM gWn)), (14, agO), (21, QZ iH)]
theorem avA : ∀ f, FnT Try.prog f (afT f) := (aC (k := 10) (FnT.or BP JS) (aC (k := 9) (FnT.or zF zJ) (aC (k := 14) JR (aC (k := 21) pF bJ))))
theorem aIP (N : Nat) (m : Nat) (en : Nat) (s0 : Bool) (l : List Nat) : run ty afT fB N Try.f7 [.g [.nil, .sl 0 0 m], .fl .f32 en] [.at s0 (.fl .f32 l)]
    = (match isS (zN m en s0 l) with | true => (match !(yO m en s0 l) with | true => some (.tup [.a (.fl .f32 0), .a (.fl .f32 0), .a (.bool false)], [.at s0 (.fl .f32 l)]) | false => (match isS (uV m en s0 l) with | true => (match decide (0 ≤ (0 : Int) ∧ (0 : Int) < (((fG m en s0 l).1 : Nat) : Int)) with | true => (match ((fG m en s0 l).2)[0]? with | some (e1, e2) => (match decide (0 ≤ (IntKind.i64.wrap ((((fG m en s0 l).1 : Nat) : Int) - 1) : Int) ∧ (IntKind.i64.wrap ((((fG m en s0 l).1 : Nat) : Int) - 1) : Int) < (((fG m en s0 l).1 : Nat) : Int)) with | true => (match ((fG m en s0 l).2)[0 + (IntKind.i64.wrap ((((fG m en s0 l).1 : Nat) : Int) - 1)).toNat * 1]? with | some (e3, e4) => (match eqB e1 0 with | true => some (.tup [.a (.fl .f32 0), .a (.fl .f32 0), .a (.bool false)], [.at s0 (.fl .f32 l)]) | false => (match eqB e3 0 with | true => some (.tup [.a (.fl .f32 0), .a (.fl .f32 0), .a (.bool false)], [.at s0 (.fl .f32 l)]) | false => (match pwB 1065353216 0 with | true => (match pwB 0 0 with | true => (match pwB 1065353216 0 with | true => (match !(iH (fop .quo .f32 (fop .quo .f32 e3 e1) (pwN 1065353216 0)) && (iH (fop .quo .f32 (pwN 0 0) (pwN 1065353216 0)) && true)) with | true => some (.tup [.a (.fl .f32 0), .a (.fl .f32 0), .a (.bool false)], [.at s0 (.fl .f32 l)]) | false => some (.tup [.a (.fl .f32 (fop .quo .f32 (fop .quo .f32 e3 e1) (pwN 1065353216 0))), .a (.fl .f32 (fop .quo .f32 (pwN 0 0) (pwN 1065353216 0))), .a (.bool true)], [.at s0 (.fl .f32 l)])) | false => none) | false => none) | false => none))) | none => none) | false => none) | none => none) | false => none) | false => none)) | false => none) := by
  kernel_rfl
noncomputable def akR (N : Nat) (m : Nat) (en : Nat) (s0 : Bool) (l : List Nat) : Option (V × H) := (match isS (zN m en s0 l) with | true => (match !(yO m en s0 l) with | true => some (.tup [.a (.fl .f32 0), .a (.fl .f32 0), .a (.bool false)], [.at s0 (.fl .f32 l)]) | false => (match isS (uV m en s0 l) with | true => (match decide (0 ≤ (0 : Int) ∧ (0 : Int) < (((fG m en s0 l).1 : Nat) : Int)) with | true => (match ((fG m en s0 l).2)[0]? with | some (e1, e2) => (match decide (0 ≤ (IntKind.i64.wrap ((((fG m en s0 l).1 : Nat) : Int) - 1) : Int) ∧ (IntKind.i64.wrap ((((fG m en s0 l).1 : Nat) : Int) - 1) : Int) < (((fG m en s0 l).1 : Nat) : Int)) with | true => (match ((fG m en s0 l).2)[0 + (IntKind.i64.wrap ((((fG m en s0 l).1 : Nat) : Int) - 1)).toNat * 1]? with | some (e3, e4) => (match eqB e1 0 with | true => some (.tup [.a (.fl .f32 0), .a (.fl .f32 0), .a (.bool false)], [.at s0 (.fl .f32 l)]) | false => (match eqB e3 0 with | true => some (.tup [.a (.fl .f32 0), .a (.fl .f32 0), .a (.bool false)], [.at s0 (.fl .f32 l)]) | false => (match pwB 1065353216 0 with | true => (match pwB 0 0 with | true => (match pwB 1065353216 0 with | true => (match !(iH (fop .quo .f32 (fop .quo .f32 e3 e1) (pwN 1065353216 0)) && (iH (fop .quo .f32 (pwN 0 0) (pwN 1065353216 0)) && true)) with | true => some (.tup [.a (.fl .f32 0), .a (.fl .f32 0), .a (.bool false)], [.at s0 (.fl .f32 l)]) | false => some (.tup [.a (.fl .f32 (fop .quo .f32 (fop .quo .f32 e3 e1) (pwN 1065353216 0))), .a (.fl .f32 (fop .quo .f32 (pwN 0 0) (pwN 1065353216 0))), .a (.bool true)], [.at s0 (.fl .f32 l)])) | false => none) | false => none) | false => none))) | none => none) | false => none) | none => none) | false => none) | false => none)) | false => none)
theorem aIQ (N : Nat) (m : Nat) (en : Nat) (s0 : Bool) (l : List Nat) : run ty afT fB N Try.f7 [.g [.nil, .sl 0 0 m], .fl .f32 en] [.at s0 (.fl .f32 l)] = akR N m en s0 l := by
  rw [aIP]
  unfold akR
  first | (simp only [eq_self]; done) | (simp only [eq_self]; kernel_rfl) | rfl
def avC (m : Nat) (en : Nat) (s0 : Bool) (l : List Nat) : Option (V × H) → Option (Nat × Nat)
  | some (.tup [.a (.fl .f32 x0), .a (.fl .f32 x1), .a (.bool true)], [.at r0 (.fl .f32 y0)]) => match decide (r0 = s0 ∧ y0 = l) with | true => some (x0, x1) | false => none
  | _ => none
theorem aQE {m : Nat} {en : Nat} {s0 : Bool} {l : List Nat} {o : Option (V × H)} {z : Nat × Nat} (h : avC m en s0 l o = some z) : o = some (.tup [.a (.fl .f32 z.1), .a (.fl .f32 z.2), .a (.bool true)], [.at s0 (.fl .f32 l)]) := by
  unfold avC at h
  split at h
  · split at h
    · rename_i hd
      obtain ⟨rfl, rfl⟩ := of_decide_eq_true hd
      cases h
      rfl
    · cases h
  · cases h
noncomputable def qC (m : Nat) (en : Nat) (s0 : Bool) (l : List Nat) : Option (Nat × Nat) := avC m en s0 l (akR 30 m en s0 l)
noncomputable def eX (m : Nat) (en : Nat) (s0 : Bool) (l : List Nat) : Nat × Nat := (qC m en s0 l).getD (0, 0)
noncomputable def zO : GT := fun vs h => match vs, h with
  | [.g [.nil, .sl 0 0 m], .fl .f32 en], [.at s0 (.fl .f32 l)] => .ite (isS (qC m en s0 l)) (.ret (.tup [.a (.fl .f32 ((eX m en s0 l).1)), .a (.fl .f32 ((eX m en s0 l).2)), .a (.bool true)]) [.at s0 (.fl .f32 l)]) .no
  | _, _ => .no
theorem zG : FnT Try.prog 7 zO := by
  refine fnT avA Try.func7 rfl rfl fB fun vs h v h' e => ⟨30, ?_⟩
  unfold zO at e
  split at e
  · rename_i m en s0 l
    obtain ⟨hs, e⟩ := T.pre_inv e
    obtain ⟨rfl, rfl⟩ := T.ret_inv e
    skip
    refine Eq.trans (aIQ 30 m en s0 l) ?_
    obtain ⟨z, hz⟩ := Option.isSome_iff_exists.mp hs
    have hv : eX m en s0 l = z := by unfold eX; rw [hz]; rfl
    rw [hv]
    exact aQE hz
  · exact (T.no_inv e).elim
noncomputable def afU : Fns := gX [(11, (gOr uD gVs))]
theorem avD : ∀ f, FnT Try.prog f (afU f) := (aC (k := 11) (FnT.or tY nY) bJ)
theorem aIR (N : Nat) (m : Nat) (s0 : Bool) (l : List Nat) : run ty afU fB N Try.f24 [.g [.nil, .sl 0 0 m]] [.at s0 (.fl .f32 l)]
    = (match isS (qB m s0 l) with | true => (match !(pJ m s0 l) with | true => some (.tup [.g [.nil, .nil], .a (.bool false)], [.at s0 (.fl .f32 l)]) | false => some (.tup [.g [.nil, .sl 0 0 m], .a (.bool true)], [.at s0 (.fl .f32 l)])) | false => none) := by
  kernel_rfl
noncomputable def akS (N : Nat) (m : Nat) (s0 : Bool) (l : List Nat) : Option (V × H) := (match isS (qB m s0 l) with | true => (match !(pJ m s0 l) with | true => some (.tup [.g [.nil, .nil], .a (.bool false)], [.at s0 (.fl .f32 l)]) | false => some (.tup [.g [.nil, .sl 0 0 m], .a (.bool true)], [.at s0 (.fl .f32 l)])) | false => none)
theorem aIS (N : Nat) (m : Nat) (s0 : Bool) (l : List Nat) : run ty afU fB N Try.f24 [.g [.nil, .sl 0 0 m]] [.at s0 (.fl .f32 l)] = akS N m s0 l := by
  rw [aIR]
  unfold akS
  first | (simp only [eq_self]; done) | (simp only [eq_self]; kernel_rfl) | rfl
def avE (m : Nat) (s0 : Bool) (l : List Nat) : Option (V × H) → Option (Nat)
  | some (.tup [.g [.nil, .sl 0 0 x1], .a (.bool true)], [.at r0 (.fl .f32 y0)]) => match decide (r0 = s0 ∧ y0 = l) with | true => some x1 | false => none
  | _ => none
theorem aQF {m : Nat} {s0 : Bool} {l : List Nat} {o : Option (V × H)} {z : Nat} (h : avE m s0 l o = some z) : o = some (.tup [.g [.nil, .sl 0 0 z], .a (.bool true)], [.at s0 (.fl .f32 l)]) := by
  unfold avE at h
  split at h
  · split at h
    · rename_i hd
      obtain ⟨rfl, rfl⟩ := of_decide_eq_true hd
      cases h
      rfl
    · cases h
  · cases h
noncomputable def akT (m : Nat) (s0 : Bool) (l : List Nat) : Option (Nat) := avE m s0 l (akS 30 m s0 l)
noncomputable def afV (m : Nat) (s0 : Bool) (l : List Nat) : Nat := (akT m s0 l).getD 0
noncomputable def avF : GT := fun vs h => match vs, h with
  | [.g [.nil, .sl 0 0 m]], [.at s0 (.fl .f32 l)] => .ite (isS (akT m s0 l)) (.ret (.tup [.g [.nil, .sl 0 0 (afV m s0 l)], .a (.bool true)]) [.at s0 (.fl .f32 l)]) .no
  | _, _ => .no
theorem aQG : FnT Try.prog 24 avF := by
  refine fnT avD Try.func24 rfl rfl fB fun vs h v h' e => ⟨30, ?_⟩
  unfold avF at e
  split at e
  · rename_i m s0 l
    obtain ⟨hs, e⟩ := T.pre_inv e
    obtain ⟨rfl, rfl⟩ := T.ret_inv e
    skip
    refine Eq.trans (aIS 30 m s0 l) ?_
    obtain ⟨z, hz⟩ := Option.isSome_iff_exists.mp hs
    have hv : afV m s0 l = z := by unfold afV; rw [hz]; rfl
    rw [hv]
    exact aQF hz
  · exact (T.no_inv e).elim
def TB : Ann := ⟨fun r => if r = 6 then some ([1, 2, 4, 5], [2, 4]) else none, fun _ _ => .quiet⟩
noncomputable def KO : Fns := gX [(11, (gOr uD gVs)), (22, aoR), (23, gRv), (24, (gOr avF aeI))]
theorem avG : ∀ f, FnT Try.prog f (KO f) := (aC (k := 11) (FnT.or tY nY) (aC (k := 22) MS (aC (k := 23) ayY (aC (k := 24) (FnT.or aQG aeJ) bJ))))
def afW (rw0 : Bool) (l0 : List Nat) (b1_1n : Nat) (l4 : List Nat) : St := ⟨(.any :: .ptr 1 0 :: .ptr 2 0 :: .any :: .ptr 3 0 :: .int .i64 (-1) :: (fE 34 [])), [.at rw0 (.fl .f32 l0), .at true (.as 1 [.nil, .sl 0 0 b1_1n]), .at true (.as 1 [.nil, .nil]), .at true (.as 1 [.nil, .sl 4 0 b1_1n]), .at true (.fl .f32 l4)]⟩
abbrev aIT : Option (List Nat × List Nat) := some ([1, 2, 4, 5], [2, 4])
noncomputable def afX {R : Type} (N M : Nat) (s : St) (K : X → St → Option R) : Option R := pO 1 aIT (fun st K => exec ty KO TB N 1 (oD [true, true, true, true, false, true, false, false] Try.f8) st K) M s K
noncomputable def TC {R : Type} (N : Nat) (K : X → St → Option R) : X → St → Option R := rF 0 (yS KO TB N 1 (oD [true, true, true, true, true] Try.f8) (K))
def QM (rw0 : Bool) (l0 : List Nat) (b2_1n : Nat) (l3 : List Nat) : St := ⟨(.any :: .any :: .ptr 1 0 :: .any :: .ptr 2 0 :: (fE 35 [])), [.at rw0 (.fl .f32 l0), .at true (.as 1 [.nil, .nil]), .at true (.as 1 [.nil, .sl 3 0 b2_1n]), .at true (.fl .f32 l3)]⟩
theorem aIU (N : Nat) (m : Nat) (s0 : Bool) (l : List Nat) : run ty KO TB N Try.f8 [.g [.nil, .sl 0 0 m]] [.at s0 (.fl .f32 l)]
    = (match isS (qB m s0 l) with | true => (match !(pJ m s0 l) with | true => some (.tup [.g [.nil, .nil], .a (.bool false)], [.at s0 (.fl .f32 l)]) | false => (match decide (l.length = m ∧ 1 ≤ m ∧ m < 2147483648) with | true => (match decide (l.length = m ∧ (m = 1 ∨ m = 2 ∨ m = 3 ∨ m = 4)) with | true => afX N N (afW s0 l m l.reverse) (TC N (mF Try.f8 1)) | false => none) | false => none)) | false => none) := by
  kernel_rfl
theorem avH {R : Type} (N M : Nat) (K : X → St → Option R) (rw0 : Bool) (l0 : List Nat) (b1_1n : Nat) (l4 : List Nat) : afX N (M + 1) (afW rw0 l0 b1_1n l4) K
    = K (.exit 0) (QM rw0 l0 b1_1n l4) := by
  kernel_rfl
theorem apS (N : Nat) (rw0 : Bool) (l0 : List Nat) (b2_1n : Nat) (l3 : List Nat) : TC N (mF Try.f8 1) (.exit 0) (QM rw0 l0 b2_1n l3)
    = (match isS (akT b2_1n true l3) with | true => some (.tup [.g [.nil, .sl 1 0 (afV b2_1n true l3)], .a (.bool true)], [.at rw0 (.fl .f32 l0), .at true (.fl .f32 l3)]) | false => none) := by
  kernel_rfl
noncomputable def BQ (N : Nat) (rw0 : Bool) (l0 : List Nat) (b2_1n : Nat) (l3 : List Nat) : Option (V × H) := (match isS (akT b2_1n true l3) with | true => some (.tup [.g [.nil, .sl 1 0 (afV b2_1n true l3)], .a (.bool true)], [.at rw0 (.fl .f32 l0), .at true (.fl .f32 l3)]) | false => none)
noncomputable def afY (N : Nat) (k0 : Bool → List Nat → Nat → List Nat → Option (V × H)) (rq : Bool → List Nat → Nat → List Nat → Option (V × H)) : Bool → List Nat → Nat → List Nat → Option (V × H) := fun (rw0 : Bool) (l0 : List Nat) (b1_1n : Nat) (l4 : List Nat) => (k0 rw0 l0 b1_1n l4)
noncomputable def TD (N : Nat) (k0 : Bool → List Nat → Nat → List Nat → Option (V × H)) (M : Nat) : Bool → List Nat → Nat → List Nat → Option (V × H) := Nat.rec (motive := fun _ => Bool → List Nat → Nat → List Nat → Option (V × H)) (fun (_ : Bool) (_ : List Nat) (_ : Nat) (_ : List Nat) => none) (fun _ rq => afY N k0 rq) M
theorem aCY (N : Nat) (k0 : Bool → List Nat → Nat → List Nat → Option (V × H)) (M : Nat) (rw0 : Bool) (l0 : List Nat) (b1_1n : Nat) (l4 : List Nat) : TD N k0 (M + 1) rw0 l0 b1_1n l4 = afY N k0 (TD N k0 M) rw0 l0 b1_1n l4 := rfl
theorem azM (N : Nat) : ∀ (M : Nat) (rw0 : Bool) (l0 : List Nat) (b1_1n : Nat) (l4 : List Nat), afX N M (afW rw0 l0 b1_1n l4) (TC N (mF Try.f8 1)) = TD N (BQ N) M rw0 l0 b1_1n l4 := by
  have he0 : ∀ (rw0 : Bool) (l0 : List Nat) (b2_1n : Nat) (l3 : List Nat), TC N (mF Try.f8 1) (.exit 0) (QM rw0 l0 b2_1n l3) = BQ N rw0 l0 b2_1n l3 := by
    intro rw0 l0 b2_1n l3
    rw [apS]
    unfold BQ
    first | (simp only []; done) | (simp only []; kernel_rfl) | rfl
  intro M
  induction M with
  | zero => intros; rfl
  | succ M ih =>
    intro rw0 l0 b1_1n l4
    rw [avH]
    rw [aCY]
    unfold afY
    first | (simp only [ih, he0]; done) | (simp only [ih, he0]; kernel_rfl) | rfl
noncomputable def akU (N : Nat) (m : Nat) (s0 : Bool) (l : List Nat) : Option (V × H) := (match isS (qB m s0 l) with | true => (match !(pJ m s0 l) with | true => some (.tup [.g [.nil, .nil], .a (.bool false)], [.at s0 (.fl .f32 l)]) | false => (match decide (l.length = m ∧ 1 ≤ m ∧ m < 2147483648) with | true => (match decide (l.length = m ∧ (m = 1 ∨ m = 2 ∨ m = 3 ∨ m = 4)) with | true => (TD N (BQ N) N s0 l m l.reverse) | false => none) | false => none)) | false => none)
theorem aIV (N : Nat) (m : Nat) (s0 : Bool) (l : List Nat) : run ty KO TB N Try.f8 [.g [.nil, .sl 0 0 m]] [.at s0 (.fl .f32 l)] = akU N m s0 l := by
  rw [aIU]
  unfold akU
  first | (simp only [azM N N]; done) | (simp only [azM N N]; kernel_rfl) | rfl
def avI (m : Nat) (s0 : Bool) (l : List Nat) : Option (V × H) → Option (Nat × List Nat)
  | some (.tup [.g [.nil, .sl 1 0 x1], .a (.bool true)], [.at r0 (.fl .f32 y0), .at true (.fl .f32 x3)]) => match decide (r0 = s0 ∧ y0 = l) with | true => some (x1, x3) | false => none
  | _ => none
theorem aQH {m : Nat} {s0 : Bool} {l : List Nat} {o : Option (V × H)} {z : Nat × List Nat} (h : avI m s0 l o = some z) : o = some (.tup [.g [.nil, .sl 1 0 z.1], .a (.bool true)], [.at s0 (.fl .f32 l), .at true (.fl .f32 z.2)]) := by
  unfold avI at h
  split at h
  · split at h
    · rename_i hd
      obtain ⟨rfl, rfl⟩ := of_decide_eq_true hd
      cases h
      rfl
    · cases h
  · cases h
noncomputable def tZ (m : Nat) (s0 : Bool) (l : List Nat) : Option (Nat × List Nat) := avI m s0 l (akU 30 m s0 l)
noncomputable def dV (m : Nat) (s0 : Bool) (l : List Nat) : Nat × List Nat := (tZ m s0 l).getD (0, [])
noncomputable def KP : GT := fun vs h => match vs, h with
  | [.g [.nil, .sl 0 0 m]], [.at s0 (.fl .f32 l)] => .ite (isS (tZ m s0 l)) (.ret (.tup [.g [.nil, .sl 1 0 ((dV m s0 l).1)], .a (.bool true)]) [.at s0 (.fl .f32 l), .at true (.fl .f32 ((dV m s0 l).2))]) .no
  | _, _ => .no
theorem NC : FnT Try.prog 8 KP := by
  refine fnT avG Try.func8 rfl rfl TB fun vs h v h' e => ⟨30, ?_⟩
  unfold KP at e
  split at e
  · rename_i m s0 l
    obtain ⟨hs, e⟩ := T.pre_inv e
    obtain ⟨rfl, rfl⟩ := T.ret_inv e
    skip
    refine Eq.trans (aIV 30 m s0 l) ?_
    obtain ⟨z, hz⟩ := Option.isSome_iff_exists.mp hs
    have hv : dV m s0 l = z := by unfold dV; rw [hz]; rfl
    rw [hv]
    exact aQH hz
  · exact (T.no_inv e).elim
def apT : Fns := gX []
theorem avJ : ∀ f, FnT Try.prog f (apT f) := bJ
theorem aIW (N : Nat)  : run ty apT fB (N + 1) Try.f59 [.nil, .nil, .fn 45] []
    = some (.bool true, []) := by
  kernel_rfl
def avK : GT := fun vs h => match vs, h with
  | [.nil, .nil, .fn 45], [] => .ret (.bool true) []
  | _, _ => .no
theorem aQI : FnT Try.prog 59 avK := by
  intro vs h v h' e
  unfold avK at e
  split at e
  · obtain ⟨rfl, rfl⟩ := T.ret_inv e
    exact FnT.runs avJ Try.func59 rfl rfl fB 1 _ _ _ _ (by rw [T.run_of]; exact aIW 0)
  · exact (T.no_inv e).elim
def apU : Fns := gX [(59, (gOr avK aPN))]
theorem avL : ∀ f, FnT Try.prog f (apU f) := (aC (k := 59) (FnT.or aQI aHV) bJ)
theorem aIX (N : Nat)  : run ty apU fB (N + 1) Try.f39 [.nil, .nil] []
    = some (.bool true, []) := by
  kernel_rfl
def avM : GT := fun vs h => match vs, h with
  | [.nil, .nil], [] => .ret (.bool true) []
  | _, _ => .no
theorem aQJ : FnT Try.prog 39 avM := by
  intro vs h v h' e
  unfold avM at e
  split at e
  · obtain ⟨rfl, rfl⟩ := T.ret_inv e
    exact FnT.runs avL Try.func39 rfl rfl fB 1 _ _ _ _ (by rw [T.run_of]; exact aIX 0)
  · exact (T.no_inv e).elim
noncomputable def afZ : Fns := gX [(39, (gOr avM aPQ))]
theorem avN : ∀ f, FnT Try.prog f (afZ f) := (aC (k := 39) (FnT.or aQJ aHW) bJ)
theorem aIY (N : Nat) (m : Nat) (k : Nat) (s0 : Bool) (l : List Nat) (s1 : Bool) (l' : List Nat) : run ty afZ fB N Try.f12 [.g [.nil, .sl 0 0 m], .g [.nil, .sl 1 0 k]] [.at s0 (.fl .f32 l), .at s1 (.fl .f32 l')]
    = (match decide (l.length = m ∧ m < 2147483648 ∧ l'.length = k ∧ k < 2147483648) && I7 l l' with | true => some (.bool true, [.at s0 (.fl .f32 l), .at s1 (.fl .f32 l')]) | false => none) := by
  kernel_rfl
noncomputable def akV (N : Nat) (m : Nat) (k : Nat) (s0 : Bool) (l : List Nat) (s1 : Bool) (l' : List Nat) : Option (V × H) := (match decide (l.length = m ∧ m < 2147483648 ∧ l'.length = k ∧ k < 2147483648) && I7 l l' with | true => some (.bool true, [.at s0 (.fl .f32 l), .at s1 (.fl .f32 l')]) | false => none)
theorem aIZ (N : Nat) (m : Nat) (k : Nat) (s0 : Bool) (l : List Nat) (s1 : Bool) (l' : List Nat) : run ty afZ fB N Try.f12 [.g [.nil, .sl 0 0 m], .g [.nil, .sl 1 0 k]] [.at s0 (.fl .f32 l), .at s1 (.fl .f32 l')] = akV N m k s0 l s1 l' := by
  rw [aIY]
  unfold akV
  first | (simp only [eq_self]; done) | (simp only [eq_self]; kernel_rfl) | rfl
def avO (m : Nat) (k : Nat) (s0 : Bool) (l : List Nat) (s1 : Bool) (l' : List Nat) : Option (V × H) → Option (Bool)
  | some (.bool x0, [.at r0 (.fl .f32 y0), .at r1 (.fl .f32 y1)]) => match decide (r0 = s0 ∧ y0 = l ∧ r1 = s1 ∧ y1 = l') with | true => some x0 | false => none
  | _ => none
theorem aQK {m : Nat} {k : Nat} {s0 : Bool} {l : List Nat} {s1 : Bool} {l' : List Nat} {o : Option (V × H)} {z : Bool} (h : avO m k s0 l s1 l' o = some z) : o = some (.bool z, [.at s0 (.fl .f32 l), .at s1 (.fl .f32 l')]) := by
  unfold avO at h
  split at h
  · split at h
    · rename_i hd
      obtain ⟨rfl, rfl, rfl, rfl⟩ := of_decide_eq_true hd
      cases h
      rfl
    · cases h
  · cases h
noncomputable def KQ (m : Nat) (k : Nat) (s0 : Bool) (l : List Nat) (s1 : Bool) (l' : List Nat) : Option (Bool) := avO m k s0 l s1 l' (akV 30 m k s0 l s1 l')
noncomputable def BR (m : Nat) (k : Nat) (s0 : Bool) (l : List Nat) (s1 : Bool) (l' : List Nat) : Bool := (KQ m k s0 l s1 l').getD false
noncomputable def KU : GT := fun vs h => match vs, h with
  | [.g [.nil, .sl 0 0 m], .g [.nil, .sl 1 0 k]], [.at s0 (.fl .f32 l), .at s1 (.fl .f32 l')] => .ite (isS (KQ m k s0 l s1 l')) (.ret (.bool (BR m k s0 l s1 l')) [.at s0 (.fl .f32 l), .at s1 (.fl .f32 l')]) .no
  | _, _ => .no
theorem ND : FnT Try.prog 12 KU := by
  refine fnT avN Try.func12 rfl rfl fB fun vs h v h' e => ⟨30, ?_⟩
  unfold KU at e
  split at e
  · rename_i m k s0 l s1 l'
    obtain ⟨hs, e⟩ := T.pre_inv e
    obtain ⟨rfl, rfl⟩ := T.ret_inv e
    skip
    refine Eq.trans (aIZ 30 m k s0 l s1 l') ?_
    obtain ⟨z, hz⟩ := Option.isSome_iff_exists.mp hs
    have hv : BR m k s0 l s1 l' = z := by unfold BR; rw [hz]; rfl
    rw [hv]
    exact aQK hz
  · exact (T.no_inv e).elim
def TE : Ann := ⟨fun r => if r = 5 then some ([1, 2, 3, 4, 11, 12, 38, 39], [8, 9, 10, 11, 12]) else none, fun _ _ => .quiet⟩
noncomputable def KW : Fns := gX [(11, (gOr uD gVs)), (21, QZ iH), (43, gT gIn), (44, gT ay1), (7, (gOr zO gSs))]
theorem avP : ∀ f, FnT Try.prog f (KW f) := (aC (k := 11) (FnT.or tY nY) (aC (k := 21) pF (aC (k := 43) MF (aC (k := 44) aHX (aC (k := 7) (FnT.or zG zL) bJ)))))
def KX (low1 : Nat) (high2 : Nat) (best11 : Nat) (most12 : Nat) (t39 : Int) (rw0 : Bool) (l0 : List Nat) (b1_1n : Nat) : St := ⟨(.any :: .fl .f32 low1 :: .fl .f32 high2 :: .int .i64 5 :: .ptr 1 0 :: (fE 6 (.fl .f32 best11 :: .fl .f32 most12 :: (fE 25 (.int .i64 5 :: .int .i64 t39 :: (fE 24 [])))))), [.at rw0 (.fl .f32 l0), .at true (.as 1 [.nil, .sl 0 0 b1_1n])]⟩
abbrev aI0 : Option (List Nat × List Nat) := some ([1, 2, 3, 4, 11, 12, 38, 39], [8, 9, 10, 11, 12])
noncomputable def KY {R : Type} (N M : Nat) (s : St) (K : X → St → Option R) : Option R := pO 1 aI0 (fun st K => exec ty KW TE N 1 (oD [true, true, true, false, true, false, false] Try.f17) st K) M s K
noncomputable def TG {R : Type} (N : Nat) (K : X → St → Option R) : X → St → Option R := rF 0 (yS KW TE N 1 (oD [true, true, true, true] Try.f17) (K))
def QN (best11 : Nat) (most12 : Nat) (rw0 : Bool) (l0 : List Nat) : St := ⟨(fE 11 (.fl .f32 best11 :: .fl .f32 most12 :: (fE 51 []))), [.at rw0 (.fl .f32 l0)]⟩
theorem aI1 (N : Nat) (m : Nat) (a : Nat) (b : Nat) (s0 : Bool) (l : List Nat) : run ty KW TE N Try.f17 [.g [.nil, .sl 0 0 m], .fl .f32 a, .fl .f32 b, .int .i64 5] [.at s0 (.fl .f32 l)]
    = (match isS (qB m s0 l) with | true => (match !(pJ m s0 l) with | true => some (.tup [.a (.fl .f32 0), .a (.fl .f32 0), .a (.bool false)], [.at s0 (.fl .f32 l)]) | false => (match !(iH a && (iH b && true)) with | true => some (.tup [.a (.fl .f32 0), .a (.fl .f32 0), .a (.bool false)], [.at s0 (.fl .f32 l)]) | false => (match gtB a b || eqB a b with | true => some (.tup [.a (.fl .f32 0), .a (.fl .f32 0), .a (.bool false)], [.at s0 (.fl .f32 l)]) | false => KY N N (KX a b 0 3212836864 0 s0 l m) (TG N (mF Try.f17 1))))) | false => none) := by
  kernel_rfl
theorem avQ {R : Type} (N M : Nat) (K : X → St → Option R) (low1 : Nat) (high2 : Nat) (best11 : Nat) (most12 : Nat) (t39 : Int) (rw0 : Bool) (l0 : List Nat) (b1_1n : Nat) : KY N (M + 1) (KX low1 high2 best11 most12 t39 rw0 l0 b1_1n) K
    = (match decide ((t39 : Int) < 5) with | true => (match isS (qC b1_1n (uP low1 high2 t39 5) rw0 l0) with | true => (match gtB ((eX b1_1n (uP low1 high2 t39 5) rw0 l0).1) most12 with | true => KY N M (KX low1 high2 (uP low1 high2 t39 5) ((eX b1_1n (uP low1 high2 t39 5) rw0 l0).1) (IntKind.i64.wrap (t39 + 1)) rw0 l0 b1_1n) K | false => KY N M (KX low1 high2 best11 most12 (IntKind.i64.wrap (t39 + 1)) rw0 l0 b1_1n) K) | false => none) | false => K (.exit 0) (QN best11 most12 rw0 l0)) := by
  kernel_rfl
theorem apV (N : Nat) (best11 : Nat) (most12 : Nat) (rw0 : Bool) (l0 : List Nat) : TG N (mF Try.f17 1) (.exit 0) (QN best11 most12 rw0 l0)
    = some (.tup [.a (.fl .f32 best11), .a (.fl .f32 most12), .a (.bool true)], [.at rw0 (.fl .f32 l0)]) := by
  kernel_rfl
noncomputable def BU (N : Nat) (best11 : Nat) (most12 : Nat) (rw0 : Bool) (l0 : List Nat) : Option (V × H) := some (.tup [.a (.fl .f32 best11), .a (.fl .f32 most12), .a (.bool true)], [.at rw0 (.fl .f32 l0)])
noncomputable def af0 (N : Nat) (k0 : Nat → Nat → Bool → List Nat → Option (V × H)) (rq : Nat → Nat → Nat → Nat → Int → Bool → List Nat → Nat → Option (V × H)) : Nat → Nat → Nat → Nat → Int → Bool → List Nat → Nat → Option (V × H) := fun (low1 : Nat) (high2 : Nat) (best11 : Nat) (most12 : Nat) (t39 : Int) (rw0 : Bool) (l0 : List Nat) (b1_1n : Nat) => (match decide ((t39 : Int) < 5) with | true => (match isS (qC b1_1n (uP low1 high2 t39 5) rw0 l0) with | true => (match gtB ((eX b1_1n (uP low1 high2 t39 5) rw0 l0).1) most12 with | true => (rq low1 high2 (uP low1 high2 t39 5) ((eX b1_1n (uP low1 high2 t39 5) rw0 l0).1) (IntKind.i64.wrap (t39 + 1)) rw0 l0 b1_1n) | false => (rq low1 high2 best11 most12 (IntKind.i64.wrap (t39 + 1)) rw0 l0 b1_1n)) | false => none) | false => (k0 best11 most12 rw0 l0))
noncomputable def TI (N : Nat) (k0 : Nat → Nat → Bool → List Nat → Option (V × H)) (M : Nat) : Nat → Nat → Nat → Nat → Int → Bool → List Nat → Nat → Option (V × H) := Nat.rec (motive := fun _ => Nat → Nat → Nat → Nat → Int → Bool → List Nat → Nat → Option (V × H)) (fun (_ : Nat) (_ : Nat) (_ : Nat) (_ : Nat) (_ : Int) (_ : Bool) (_ : List Nat) (_ : Nat) => none) (fun _ rq => af0 N k0 rq) M
theorem aCZ (N : Nat) (k0 : Nat → Nat → Bool → List Nat → Option (V × H)) (M : Nat) (low1 : Nat) (high2 : Nat) (best11 : Nat) (most12 : Nat) (t39 : Int) (rw0 : Bool) (l0 : List Nat) (b1_1n : Nat) : TI N k0 (M + 1) low1 high2 best11 most12 t39 rw0 l0 b1_1n = af0 N k0 (TI N k0 M) low1 high2 best11 most12 t39 rw0 l0 b1_1n := rfl
theorem azN (N : Nat) : ∀ (M : Nat) (low1 : Nat) (high2 : Nat) (best11 : Nat) (most12 : Nat) (t39 : Int) (rw0 : Bool) (l0 : List Nat) (b1_1n : Nat), KY N M (KX low1 high2 best11 most12 t39 rw0 l0 b1_1n) (TG N (mF Try.f17 1)) = TI N (BU N) M low1 high2 best11 most12 t39 rw0 l0 b1_1n := by
  have he0 : ∀ (best11 : Nat) (most12 : Nat) (rw0 : Bool) (l0 : List Nat), TG N (mF Try.f17 1) (.exit 0) (QN best11 most12 rw0 l0) = BU N best11 most12 rw0 l0 := by
    intro best11 most12 rw0 l0
    rw [apV]
    unfold BU
    first | (simp only []; done) | (simp only []; kernel_rfl) | rfl
  intro M
  induction M with
  | zero => intros; rfl
  | succ M ih =>
    intro low1 high2 best11 most12 t39 rw0 l0 b1_1n
    rw [avQ]
    rw [aCZ]
    unfold af0
    first | (simp only [ih, he0]; done) | (simp only [ih, he0]; kernel_rfl) | rfl
noncomputable def akW (N : Nat) (m : Nat) (a : Nat) (b : Nat) (s0 : Bool) (l : List Nat) : Option (V × H) := (match isS (qB m s0 l) with | true => (match !(pJ m s0 l) with | true => some (.tup [.a (.fl .f32 0), .a (.fl .f32 0), .a (.bool false)], [.at s0 (.fl .f32 l)]) | false => (match !(iH a && (iH b && true)) with | true => some (.tup [.a (.fl .f32 0), .a (.fl .f32 0), .a (.bool false)], [.at s0 (.fl .f32 l)]) | false => (match gtB a b || eqB a b with | true => some (.tup [.a (.fl .f32 0), .a (.fl .f32 0), .a (.bool false)], [.at s0 (.fl .f32 l)]) | false => (TI N (BU N) N a b 0 3212836864 0 s0 l m)))) | false => none)
theorem aI2 (N : Nat) (m : Nat) (a : Nat) (b : Nat) (s0 : Bool) (l : List Nat) : run ty KW TE N Try.f17 [.g [.nil, .sl 0 0 m], .fl .f32 a, .fl .f32 b, .int .i64 5] [.at s0 (.fl .f32 l)] = akW N m a b s0 l := by
  rw [aI1]
  unfold akW
  first | (simp only [azN N N]; done) | (simp only [azN N N]; kernel_rfl) | rfl
def avR (m : Nat) (a : Nat) (b : Nat) (s0 : Bool) (l : List Nat) : Option (V × H) → Option (Nat × Nat)
  | some (.tup [.a (.fl .f32 x0), .a (.fl .f32 x1), .a (.bool true)], [.at r0 (.fl .f32 y0)]) => match decide (r0 = s0 ∧ y0 = l) with | true => some (x0, x1) | false => none
  | _ => none
theorem aQL {m : Nat} {a : Nat} {b : Nat} {s0 : Bool} {l : List Nat} {o : Option (V × H)} {z : Nat × Nat} (h : avR m a b s0 l o = some z) : o = some (.tup [.a (.fl .f32 z.1), .a (.fl .f32 z.2), .a (.bool true)], [.at s0 (.fl .f32 l)]) := by
  unfold avR at h
  split at h
  · split at h
    · rename_i hd
      obtain ⟨rfl, rfl⟩ := of_decide_eq_true hd
      cases h
      rfl
    · cases h
  · cases h
noncomputable def KZ (m : Nat) (a : Nat) (b : Nat) (s0 : Bool) (l : List Nat) : Option (Nat × Nat) := avR m a b s0 l (akW 30 m a b s0 l)
noncomputable def lZ (m : Nat) (a : Nat) (b : Nat) (s0 : Bool) (l : List Nat) : Nat × Nat := (KZ m a b s0 l).getD (0, 0)
noncomputable def LC : GT := fun vs h => match vs, h with
  | [.g [.nil, .sl 0 0 m], .fl .f32 a, .fl .f32 b, .int .i64 5], [.at s0 (.fl .f32 l)] => .ite (isS (KZ m a b s0 l)) (.ret (.tup [.a (.fl .f32 ((lZ m a b s0 l).1)), .a (.fl .f32 ((lZ m a b s0 l).2)), .a (.bool true)]) [.at s0 (.fl .f32 l)]) .no
  | _, _ => .no
theorem NE : FnT Try.prog 17 LC := by
  refine fnT avP Try.func17 rfl rfl TE fun vs h v h' e => ⟨30, ?_⟩
  unfold LC at e
  split at e
  · rename_i m a b s0 l
    obtain ⟨hs, e⟩ := T.pre_inv e
    obtain ⟨rfl, rfl⟩ := T.ret_inv e
    skip
    refine Eq.trans (aI2 30 m a b s0 l) ?_
    obtain ⟨z, hz⟩ := Option.isSome_iff_exists.mp hs
    have hv : lZ m a b s0 l = z := by unfold lZ; rw [hz]; rfl
    rw [hv]
    exact aQL hz
  · exact (T.no_inv e).elim
def TJ : Ann := ⟨fun r => if r = 5 then some ([3, 8, 33, 34, 35], [6, 7, 8]) else none, fun _ _ => .quiet⟩
noncomputable def LD : Fns := gX [(11, (gOr uD gVs)), (42, gT ay3), (7, (gOr zO gSs))]
theorem avS : ∀ f, FnT Try.prog f (LD f) := (aC (k := 11) (FnT.or tY nY) (aC (k := 42) aHY (aC (k := 7) (FnT.or zG zL) bJ)))
def TK (out8n : Nat) (t33n : Nat) (t34 : Int) (t35 : Int) (rw0 : Bool) (l0 : List Nat) (rw1 : Bool) (l1 : List Nat) (b2_1n : Nat) (l3 : List Nat) : St := ⟨(.any :: .any :: .any :: .ptr 2 0 :: .any :: .any :: .any :: .any :: .sl 3 0 out8n :: (fE 24 (.sl 1 0 t33n :: .int .i64 t34 :: .int .i64 t35 :: (fE 18 [])))), [.at rw0 (.fl .f32 l0), .at rw1 (.fl .f32 l1), .at true (.as 1 [.nil, .sl 0 0 b2_1n]), .at true (.fl .f32 l3)]⟩
abbrev aI3 : Option (List Nat × List Nat) := some ([3, 8, 33, 34, 35], [6, 7, 8])
noncomputable def TL {R : Type} (N M : Nat) (s : St) (K : X → St → Option R) : Option R := pO 2 aI3 (fun st K => exec ty LD TJ N 2 (oD [true, true, true, false, true, false, false] Try.f16) st K) M s K
noncomputable def TM {R : Type} (N : Nat) (K : X → St → Option R) : X → St → Option R := rF 0 (yS LD TJ N 2 (oD [true, true, true, true] Try.f16) (K))
def QO (out8n : Nat) (rw0 : Bool) (l0 : List Nat) (rw1 : Bool) (l1 : List Nat) (l2 : List Nat) : St := ⟨(fE 8 (.sl 2 0 out8n :: (fE 45 []))), [.at rw0 (.fl .f32 l0), .at rw1 (.fl .f32 l1), .at true (.fl .f32 l2)]⟩
theorem aI4 (N : Nat) (m : Nat) (k : Nat) (q : Int) (s0 : Bool) (l : List Nat) (s1 : Bool) (l' : List Nat) : run ty LD TJ N Try.f16 [.g [.nil, .sl 0 0 m], .sl 1 0 k, .int .i64 q] [.at s0 (.fl .f32 l), .at s1 (.fl .f32 l')]
    = (match isS (qB m s0 l) with | true => (match !(pJ m s0 l) with | true => some (.tup [.a (.nil), .a (.bool false)], [.at s0 (.fl .f32 l), .at s1 (.fl .f32 l')]) | false => (match decide ((((k : Nat) : Int) : Int) < 1) with | true => some (.tup [.a (.nil), .a (.bool false)], [.at s0 (.fl .f32 l), .at s1 (.fl .f32 l')]) | false => (match decide ((((k : Nat) : Int) : Int) > 48) with | true => some (.tup [.a (.nil), .a (.bool false)], [.at s0 (.fl .f32 l), .at s1 (.fl .f32 l')]) | false => (match !(ah9 q) with | true => some (.tup [.a (.nil), .a (.bool false)], [.at s0 (.fl .f32 l), .at s1 (.fl .f32 l')]) | false => TL N N (TK 0 k ((k : Nat) : Int) 0 s0 l s1 l' m ([] : List Nat)) (TM N (mF Try.f16 2)))))) | false => none) := by
  kernel_rfl
theorem avT {R : Type} (N M : Nat) (K : X → St → Option R) (out8n : Nat) (t33n : Nat) (t34 : Int) (t35 : Int) (rw0 : Bool) (l0 : List Nat) (rw1 : Bool) (l1 : List Nat) (b2_1n : Nat) (l3 : List Nat) : TL N (M + 1) (TK out8n t33n t34 t35 rw0 l0 rw1 l1 b2_1n l3) K
    = (match decide ((t35 : Int) < t34) with | true => (match decide (0 ≤ (t35 : Int) ∧ (t35 : Int) < ((t33n : Nat) : Int)) with | true => (match l1[0 + (t35).toNat * 1]? with | some e1 => (match isS (qC b2_1n e1 rw0 l0) with | true => (match zH true out8n 1 l3.length 1 (out8n + 1) 4 with | true => TL N M (TK (out8n + 1) t33n t34 (IntKind.i64.wrap (t35 + 1)) rw0 l0 rw1 l1 b2_1n (l3 ++ [(eX b2_1n e1 rw0 l0).1])) K | false => none) | false => none) | none => none) | false => none) | false => K (.exit 0) (QO out8n rw0 l0 rw1 l1 l3)) := by
  kernel_rfl
theorem apW (N : Nat) (out8n : Nat) (rw0 : Bool) (l0 : List Nat) (rw1 : Bool) (l1 : List Nat) (l2 : List Nat) : TM N (mF Try.f16 2) (.exit 0) (QO out8n rw0 l0 rw1 l1 l2)
    = some (.tup [.a (.sl 2 0 out8n), .a (.bool true)], [.at rw0 (.fl .f32 l0), .at rw1 (.fl .f32 l1), .at true (.fl .f32 l2)]) := by
  kernel_rfl
noncomputable def BV (N : Nat) (out8n : Nat) (rw0 : Bool) (l0 : List Nat) (rw1 : Bool) (l1 : List Nat) (l2 : List Nat) : Option (V × H) := some (.tup [.a (.sl 2 0 out8n), .a (.bool true)], [.at rw0 (.fl .f32 l0), .at rw1 (.fl .f32 l1), .at true (.fl .f32 l2)])
noncomputable def af1 (N : Nat) (k0 : Nat → Bool → List Nat → Bool → List Nat → List Nat → Option (V × H)) (rq : Nat → Nat → Int → Int → Bool → List Nat → Bool → List Nat → Nat → List Nat → Option (V × H)) : Nat → Nat → Int → Int → Bool → List Nat → Bool → List Nat → Nat → List Nat → Option (V × H) := fun (out8n : Nat) (t33n : Nat) (t34 : Int) (t35 : Int) (rw0 : Bool) (l0 : List Nat) (rw1 : Bool) (l1 : List Nat) (b2_1n : Nat) (l3 : List Nat) => (match decide ((t35 : Int) < t34) with | true => (match decide (0 ≤ (t35 : Int) ∧ (t35 : Int) < ((t33n : Nat) : Int)) with | true => (match l1[0 + (t35).toNat * 1]? with | some e1 => (match isS (qC b2_1n e1 rw0 l0) with | true => (match zH true out8n 1 l3.length 1 (out8n + 1) 4 with | true => (rq (out8n + 1) t33n t34 (IntKind.i64.wrap (t35 + 1)) rw0 l0 rw1 l1 b2_1n (l3 ++ [(eX b2_1n e1 rw0 l0).1])) | false => none) | false => none) | none => none) | false => none) | false => (k0 out8n rw0 l0 rw1 l1 l3))
noncomputable def TN (N : Nat) (k0 : Nat → Bool → List Nat → Bool → List Nat → List Nat → Option (V × H)) (M : Nat) : Nat → Nat → Int → Int → Bool → List Nat → Bool → List Nat → Nat → List Nat → Option (V × H) := Nat.rec (motive := fun _ => Nat → Nat → Int → Int → Bool → List Nat → Bool → List Nat → Nat → List Nat → Option (V × H)) (fun (_ : Nat) (_ : Nat) (_ : Int) (_ : Int) (_ : Bool) (_ : List Nat) (_ : Bool) (_ : List Nat) (_ : Nat) (_ : List Nat) => none) (fun _ rq => af1 N k0 rq) M
theorem aC0 (N : Nat) (k0 : Nat → Bool → List Nat → Bool → List Nat → List Nat → Option (V × H)) (M : Nat) (out8n : Nat) (t33n : Nat) (t34 : Int) (t35 : Int) (rw0 : Bool) (l0 : List Nat) (rw1 : Bool) (l1 : List Nat) (b2_1n : Nat) (l3 : List Nat) : TN N k0 (M + 1) out8n t33n t34 t35 rw0 l0 rw1 l1 b2_1n l3 = af1 N k0 (TN N k0 M) out8n t33n t34 t35 rw0 l0 rw1 l1 b2_1n l3 := rfl
theorem azO (N : Nat) : ∀ (M : Nat) (out8n : Nat) (t33n : Nat) (t34 : Int) (t35 : Int) (rw0 : Bool) (l0 : List Nat) (rw1 : Bool) (l1 : List Nat) (b2_1n : Nat) (l3 : List Nat), TL N M (TK out8n t33n t34 t35 rw0 l0 rw1 l1 b2_1n l3) (TM N (mF Try.f16 2)) = TN N (BV N) M out8n t33n t34 t35 rw0 l0 rw1 l1 b2_1n l3 := by
  have he0 : ∀ (out8n : Nat) (rw0 : Bool) (l0 : List Nat) (rw1 : Bool) (l1 : List Nat) (l2 : List Nat), TM N (mF Try.f16 2) (.exit 0) (QO out8n rw0 l0 rw1 l1 l2) = BV N out8n rw0 l0 rw1 l1 l2 := by
    intro out8n rw0 l0 rw1 l1 l2
    rw [apW]
    unfold BV
    first | (simp only []; done) | (simp only []; kernel_rfl) | rfl
  intro M
  induction M with
  | zero => intros; rfl
  | succ M ih =>
    intro out8n t33n t34 t35 rw0 l0 rw1 l1 b2_1n l3
    rw [avT]
    rw [aC0]
    unfold af1
    first | (simp only [ih, he0]; done) | (simp only [ih, he0]; kernel_rfl) | rfl
noncomputable def akX (N : Nat) (m : Nat) (k : Nat) (q : Int) (s0 : Bool) (l : List Nat) (s1 : Bool) (l' : List Nat) : Option (V × H) := (match isS (qB m s0 l) with | true => (match !(pJ m s0 l) with | true => some (.tup [.a (.nil), .a (.bool false)], [.at s0 (.fl .f32 l), .at s1 (.fl .f32 l')]) | false => (match decide ((((k : Nat) : Int) : Int) < 1) with | true => some (.tup [.a (.nil), .a (.bool false)], [.at s0 (.fl .f32 l), .at s1 (.fl .f32 l')]) | false => (match decide ((((k : Nat) : Int) : Int) > 48) with | true => some (.tup [.a (.nil), .a (.bool false)], [.at s0 (.fl .f32 l), .at s1 (.fl .f32 l')]) | false => (match !(ah9 q) with | true => some (.tup [.a (.nil), .a (.bool false)], [.at s0 (.fl .f32 l), .at s1 (.fl .f32 l')]) | false => (TN N (BV N) N 0 k ((k : Nat) : Int) 0 s0 l s1 l' m ([] : List Nat)))))) | false => none)
theorem aI5 (N : Nat) (m : Nat) (k : Nat) (q : Int) (s0 : Bool) (l : List Nat) (s1 : Bool) (l' : List Nat) : run ty LD TJ N Try.f16 [.g [.nil, .sl 0 0 m], .sl 1 0 k, .int .i64 q] [.at s0 (.fl .f32 l), .at s1 (.fl .f32 l')] = akX N m k q s0 l s1 l' := by
  rw [aI4]
  unfold akX
  first | (simp only [azO N N]; done) | (simp only [azO N N]; kernel_rfl) | rfl
def avU (m : Nat) (k : Nat) (q : Int) (s0 : Bool) (l : List Nat) (s1 : Bool) (l' : List Nat) : Option (V × H) → Option (Nat × List Nat)
  | some (.tup [.a (.sl 2 0 x1), .a (.bool true)], [.at r0 (.fl .f32 y0), .at r1 (.fl .f32 y1), .at true (.fl .f32 x3)]) => match decide (r0 = s0 ∧ y0 = l ∧ r1 = s1 ∧ y1 = l') with | true => some (x1, x3) | false => none
  | _ => none
theorem aQM {m : Nat} {k : Nat} {q : Int} {s0 : Bool} {l : List Nat} {s1 : Bool} {l' : List Nat} {o : Option (V × H)} {z : Nat × List Nat} (h : avU m k q s0 l s1 l' o = some z) : o = some (.tup [.a (.sl 2 0 z.1), .a (.bool true)], [.at s0 (.fl .f32 l), .at s1 (.fl .f32 l'), .at true (.fl .f32 z.2)]) := by
  unfold avU at h
  split at h
  · split at h
    · rename_i hd
      obtain ⟨rfl, rfl, rfl, rfl⟩ := of_decide_eq_true hd
      cases h
      rfl
    · cases h
  · cases h
noncomputable def qZ (m : Nat) (k : Nat) (q : Int) (s0 : Bool) (l : List Nat) (s1 : Bool) (l' : List Nat) : Option (Nat × List Nat) := avU m k q s0 l s1 l' (akX 30 m k q s0 l s1 l')
noncomputable def fC (m : Nat) (k : Nat) (q : Int) (s0 : Bool) (l : List Nat) (s1 : Bool) (l' : List Nat) : Nat × List Nat := (qZ m k q s0 l s1 l').getD (0, [])
noncomputable def LG : GT := fun vs h => match vs, h with
  | [.g [.nil, .sl 0 0 m], .sl 1 0 k, .int .i64 q], [.at s0 (.fl .f32 l), .at s1 (.fl .f32 l')] => .ite (isS (qZ m k q s0 l s1 l')) (.ret (.tup [.a (.sl 2 0 ((fC m k q s0 l s1 l').1)), .a (.bool true)]) [.at s0 (.fl .f32 l), .at s1 (.fl .f32 l'), .at true (.fl .f32 ((fC m k q s0 l s1 l').2))]) .no
  | _, _ => .no
theorem NF : FnT Try.prog 16 LG := by
  refine fnT avS Try.func16 rfl rfl TJ fun vs h v h' e => ⟨30, ?_⟩
  unfold LG at e
  split at e
  · rename_i m k q s0 l s1 l'
    obtain ⟨hs, e⟩ := T.pre_inv e
    obtain ⟨rfl, rfl⟩ := T.ret_inv e
    skip
    refine Eq.trans (aI5 30 m k q s0 l s1 l') ?_
    obtain ⟨z, hz⟩ := Option.isSome_iff_exists.mp hs
    have hv : fC m k q s0 l s1 l' = z := by unfold fC; rw [hz]; rfl
    rw [hv]
    exact aQM hz
  · exact (T.no_inv e).elim
def dn (q : List Int) : Int := atF q 40 4
def dE (q : List Int) : Nat := fop .quo .f32 (floatOfInt .f32 (IntKind.i64.wrap (1 + (IntKind.i64.wrap (2 * (atF q 41 24)))))) 1090519040
def dq (q : List Int) : Int := IntKind.i64.wrap (1 + (atF q 42 8))
def dt (q : List Int) : Int := IntKind.i64.wrap (1 + (atF q 43 2))
def e2W (e : Nat) : Nat := fop .add .f32 e 1073741824
def X0 (q l : List Int) : List Nat := esV (dn q) l
def X1 (q l : List Int) : List Nat := hsV (dn q) l
def shD (n m : Nat) (a b : List Nat) : Bool := decide (a.length = n ∧ n < 2147483648 ∧ b.length = m ∧ m < 2147483648)
def zA (r : Bool) (l : List Int) (q : Bool) (l' : List Int) : Option (V × H) := some (.bool false, [.at r (.int .u8 l), .at q (.int .u8 l')])
def yA (r : Bool) (l : List Int) (q : Bool) (l' : List Int) : Option (V × H) := some (.bool true, [.at r (.int .u8 l), .at q (.int .u8 l')])
def zB (r : Bool) (l : List Int) : Option (V × H) := some (.bool false, [.at r (.int .u8 l)])
def yB (r : Bool) (l : List Int) : Option (V × H) := some (.bool true, [.at r (.int .u8 l)])
def zD : Option (V × H) := some (.bool false, [])
def yD : Option (V × H) := some (.bool true, [])
structure Row (x0 x1 : List Nat) (e i : Nat) : Prop where
  lt : ltB (x1.getD i 0) e = true → (FloatKind.f32.format.order ((wvL e x1).getD i zz).2 0 != some .eq) = false ∧ gtD (r8G (fop .mul .f32 ((wvL e x1).getD i zz).1 ((wvL e x1).getD i zz).1) (fop .sub .f32 e (x1.getD i 0))) 4562254508917369340 = false
  gt : gtB (x1.getD i 0) e = true → (FloatKind.f32.format.order ((wvL e x1).getD i zz).1 0 != some .eq) = false ∧ gtD (r8G (fop .mul .f32 ((wvL e x1).getD i zz).2 ((wvL e x1).getD i zz).2) (fop .sub .f32 (x1.getD i 0) e)) 4562254508917369340 = false
  ht : ∀ j, i = j + 1 → iH (x0.getD j 0) = true ∧ (FloatKind.f32.format.order (x1.getD (haI x0 (x0.getD j 0)) 0) (x1.getD i 0) != some .eq) = false
structure TF (x0 x1 : List Nat) (n : Int) (e : Nat) (q t : Int) : Prop where
  n3 : n = 1 ∨ n = 2 ∨ n = 3
  l0 : ((x0.length : Nat) : Int) = n
  l1 : x1.length = x0.length + 1
  ss : uC x0 x1 e = true
  ts : ab1 x0 x1 = true
  ss' : uC (tE x0) x1.reverse e = true
  ts' : ab1 (tE x0) x1.reverse = true
  eq0 : I7 (tE (tE x0)) x0 = true
  eq1 : I7 x1.reverse.reverse x1 = true
  t0 : ltB (ssT x0 x1 e) 0 = false
  r0 : ltB (ssR x0 x1 e) 0 = false
  one : gtD (r8G (fop .add .f32 (ssT x0 x1 e) (ssR x0 x1 e)) 1065353216) 4562254508917369340 = false
  gT : gtD (r8G (ssT x0 x1 e) (ssT (tE x0) x1.reverse e)) 4562254508917369340 = false
  gR : gtD (r8G (ssR x0 x1 e) (ssR (tE x0) x1.reverse e)) 4562254508917369340 = false
  pw : gtD (r8G (pwN (waW x0 x1 e).br (waW x0 x1 e).bi) (fop .mul .f32 (ssR x0 x1 e) (pwN (waW x0 x1 e).ar (waW x0 x1 e).ai))) (fop .mul .f64 4562254508917369340 (up (fop .add .f32 1065353216 (pwN (waW x0 x1 e).ar (waW x0 x1 e).ai)))) = false
  row : ∀ i, i < x1.length → Row x0 x1 e i
  sh : agP x0 x1 e (e2W e) q = true
  bt : aCF x0 x1 e (e2W e) = true
  tt : (FloatKind.f32.format.order (ssT x0 x1 e) (ssT x0 x1 e) != some .eq) = false
  b1 : ltB (btV x0 x1 e (e2W e)).2 (ssT x0 x1 e) = false
  b2 : ltB (btV x0 x1 e (e2W e)).2 (ssT x0 x1 (e2W e)) = false
  b3 : ltB (btV x0 x1 e (e2W e)).1 e = false
  b4 : gtB (btV x0 x1 e (e2W e)).1 (e2W e) = false
  w32 : w32 x1 = true
  t12 : t = 1 ∨ t = 2
  rep1 : n = 1 → tX x0 x1 t = true → t = 1
  rep : n ≠ 1 → tX x0 x1 t = true ∧ ((rpE x0 x1 t).length < 1000 ∧ (rpM x0 x1 t).length < 1000) ∧ uC (rpE x0 x1 t) (rpM x0 x1 t) e = true ∧ (((rpE x0 x1 t).length : Nat) : Int) = n * t ∧ ltD (r8G (fop .add .f32 (ssT (rpE x0 x1 t) (rpM x0 x1 t) e) (ssR (rpE x0 x1 t) (rpM x0 x1 t) e)) 1065353216) 4576918229304087675 = true
theorem QP (l : List Nat) : (tE l).length = l.length := by unfold tE; simp
def rs1 : GT := fun vs h => match vs, h with
  | [.sl 0 0 m, .int .i64 n], [.at rw (.int .u8 l)] => .ite (decide (l.length = m ∧ m < 2147483648)) (.ite (decide (n = 1 ∨ n = 2 ∨ n = 3)) (.ret (.g [.sl 1 0 (esV n l).length, .sl 2 0 (hsV n l).length]) [.at rw (.int .u8 l), .at true (.fl .f32 (esV n l)), .at true (.fl .f32 (hsV n l))]) .no) .no
  | [.nil, .int .i64 n], [] => .ite (decide (n = 1 ∨ n = 2 ∨ n = 3)) (.ret (.g [.sl 0 0 (esV n []).length, .sl 1 0 (hsV n []).length]) [.at true (.fl .f32 (esV n [])), .at true (.fl .f32 (hsV n []))]) .no
  | _, _ => .no
def rs0 : GT := fun vs h => match vs, h with
  | [.sl 0 0 m, .int .i64 n], [.at rw (.int .u8 l)] => .ite (decide (l.length = m ∧ m < 2147483648)) (.ite (decide (n = 0)) (.ret (.g [.nil, .sl 1 0 1]) [.at rw (.int .u8 l), .at true (.fl .f32 [0])]) .no) .no
  | [.nil, .int .i64 n], [] => .ite (decide (n = 0)) (.ret (.g [.nil, .sl 0 0 1]) [.at true (.fl .f32 [0])]) .no
  | _, _ => .no
theorem aI6 : FnT Try.prog 6 rs1 := by
  intro vs hp v h' e
  unfold rs1 at e
  split at e
  · rename_i m n rw l
    obtain ⟨h1, e⟩ := T.pre_inv e
    obtain ⟨h2, e⟩ := T.pre_inv e
    refine azJ _ _ _ _ ?_
    have h3 : decide (n = 0) = false := decide_eq_false (by have := of_decide_eq_true h2; omega)
    show T.run (T.ite (decide (l.length = m ∧ m < 2147483648)) (T.ite (decide (n = 0)) _ (T.ite (decide (n = 1 ∨ n = 2 ∨ n = 3)) _ _)) _) = _
    rw [h1, h2, h3]
    exact e
  · rename_i n
    obtain ⟨h2, e⟩ := T.pre_inv e
    refine azJ _ _ _ _ ?_
    have h3 : decide (n = 0) = false := decide_eq_false (by have := of_decide_eq_true h2; omega)
    show T.run (T.ite (decide (n = 0)) _ (T.ite (decide (n = 1 ∨ n = 2 ∨ n = 3)) _ _)) = _
    rw [h2, h3]
    exact e
  · exact (T.no_inv e).elim
theorem akY : FnT Try.prog 6 rs0 := by
  intro vs hp v h' e
  unfold rs0 at e
  split at e
  · rename_i m n rw l
    obtain ⟨h1, e⟩ := T.pre_inv e
    obtain ⟨h2, e⟩ := T.pre_inv e
    refine azJ _ _ _ _ ?_
    show T.run (T.ite (decide (l.length = m ∧ m < 2147483648)) (T.ite (decide (n = 0)) _ _) _) = _
    rw [h1, h2]
    exact e
  · rename_i n
    obtain ⟨h2, e⟩ := T.pre_inv e
    refine azJ _ _ _ _ ?_
    show T.run (T.ite (decide (n = 0)) _ _) = _
    rw [h2]
    exact e
  · exact (T.no_inv e).elim
end Go.Proofs.Ytpjoapgfdjfbdaa.Ab

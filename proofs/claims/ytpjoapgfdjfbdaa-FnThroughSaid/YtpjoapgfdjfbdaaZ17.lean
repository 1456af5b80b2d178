/- What the proof names: lemmas and words, merged by a program from its parts. No condition. -/
import Derived.Test.YtpjoapgfdjfbdaaZ4
import Derived.Test.YtpjoapgfdjfbdaaZ16
namespace Go.Proofs.Ytpjoapgfdjfbdaa.Ab
set_option linter.unusedVariables false
set_option linter.unusedSimpArgs false
open Go
def aWl : List Nat := [3221225472, 3217031168, 3212836864, 3204448256, 0, 1056964608, 1065353216, 1069547520, 1073741824]
def hWl : List Nat := [3212836864, 3208642560, 3204448256, 3196059648, 0, 1048576000, 1056964608, 1061158912, 1065353216, 1067450368, 1069547520, 1071644672, 1073741824]
def aW (k : Nat) : Nat := aWl.getD k 0
def hW (k : Nat) : Nat := hWl.getD k 0
def aL (k : Nat) : Nat := fop .quo .f32 (floatOfInt .f32 ((k : Int) - 4)) 1073741824
def wL (k : Nat) : Nat := fop .quo .f32 (floatOfInt .f32 (1 + (k : Int))) 1082130432
def hL (k : Nat) : Nat := fop .quo .f32 (floatOfInt .f32 ((k : Int) - 4)) 1082130432
theorem am6 : ((List.range 9).all fun k => aL k == aW k) = true ∧ ((List.range 6).all fun k => wL k == wW k) = true ∧ ((List.range 13).all fun k => hL k == hW k) = true := ⟨by kernel_rfl, by kernel_rfl, by kernel_rfl⟩
def e1 (p : Nat) : List Nat := [aW p]
def e2 (p a : Nat) : List Nat := [aW p, fop .add .f32 (aW p) (wW a)]
def e3 (p a b : Nat) : List Nat := [aW p, fop .add .f32 (aW p) (wW a), fop .add .f32 (fop .add .f32 (aW p) (wW a)) (wW b)]
def sd (l : List Nat) (i : Nat) : Nat := fop .sub .f32 (l.getD (i + 1) 0) (l.getD i 0)
def okE (l : List Nat) : Bool := l.all iH && (aAH l && w32 l)
def wdB (l ws : List Nat) : Bool := (List.range ws.length).all fun i => sd l i == wW (ws.getD i 0)
def edB (l ws : List Nat) : Bool := (okE l && okE (tE l)) && (decide (tE (tE l) = l) && ((wdB l ws && wdB (tE l) ws.reverse) && (List.range l.length).all fun j => haI l (l.getD j 0) == j + 1))
def reB (l ws : List Nat) (g : Nat) : Bool := agJ (rpG l) && (okE (jE l l (rpG l)) && wdB (jE l l (rpG l)) (ws ++ g :: ws))
theorem aWM : ((List.range 9).all fun p => edB (e1 p) [] && !agJ (rpG (e1 p))) = true := by kernel_rfl
theorem aWN : ((List.range 54).all fun i => edB (e2 (i % 9) (i / 9)) [i / 9] && reB (e2 (i % 9) (i / 9)) [i / 9] (i / 9)) = true := by kernel_rfl
theorem aDD : ((List.range 9).all fun p => edB (e3 p 0 0) [0, 0] && reB (e3 p 0 0) [0, 0] (0 + 0 + 1)) = true := by kernel_rfl
theorem aDE : ((List.range 9).all fun p => edB (e3 p 0 1) [0, 1] && reB (e3 p 0 1) [0, 1] (0 + 1 + 1)) = true := by kernel_rfl
theorem aDF : ((List.range 9).all fun p => edB (e3 p 0 2) [0, 2] && reB (e3 p 0 2) [0, 2] (0 + 2 + 1)) = true := by kernel_rfl
theorem aDG : ((List.range 9).all fun p => edB (e3 p 0 3) [0, 3] && reB (e3 p 0 3) [0, 3] (0 + 3 + 1)) = true := by kernel_rfl
theorem aDH : ((List.range 9).all fun p => edB (e3 p 0 4) [0, 4] && reB (e3 p 0 4) [0, 4] (0 + 4 + 1)) = true := by kernel_rfl
theorem aDI : ((List.range 9).all fun p => edB (e3 p 0 5) [0, 5] && reB (e3 p 0 5) [0, 5] (0 + 5 + 1)) = true := by kernel_rfl
theorem aDJ : ((List.range 9).all fun p => edB (e3 p 1 0) [1, 0] && reB (e3 p 1 0) [1, 0] (1 + 0 + 1)) = true := by kernel_rfl
theorem aDK : ((List.range 9).all fun p => edB (e3 p 1 1) [1, 1] && reB (e3 p 1 1) [1, 1] (1 + 1 + 1)) = true := by kernel_rfl
theorem aDL : ((List.range 9).all fun p => edB (e3 p 1 2) [1, 2] && reB (e3 p 1 2) [1, 2] (1 + 2 + 1)) = true := by kernel_rfl
theorem aDM : ((List.range 9).all fun p => edB (e3 p 1 3) [1, 3] && reB (e3 p 1 3) [1, 3] (1 + 3 + 1)) = true := by kernel_rfl
theorem aDN : ((List.range 9).all fun p => edB (e3 p 1 4) [1, 4] && reB (e3 p 1 4) [1, 4] (1 + 4 + 1)) = true := by kernel_rfl
theorem aDO : ((List.range 9).all fun p => edB (e3 p 1 5) [1, 5] && reB (e3 p 1 5) [1, 5] (1 + 5 + 1)) = true := by kernel_rfl
theorem aDP : ((List.range 9).all fun p => edB (e3 p 2 0) [2, 0] && reB (e3 p 2 0) [2, 0] (2 + 0 + 1)) = true := by kernel_rfl
theorem aDQ : ((List.range 9).all fun p => edB (e3 p 2 1) [2, 1] && reB (e3 p 2 1) [2, 1] (2 + 1 + 1)) = true := by kernel_rfl
theorem aDR : ((List.range 9).all fun p => edB (e3 p 2 2) [2, 2] && reB (e3 p 2 2) [2, 2] (2 + 2 + 1)) = true := by kernel_rfl
theorem aDS : ((List.range 9).all fun p => edB (e3 p 2 3) [2, 3] && reB (e3 p 2 3) [2, 3] (2 + 3 + 1)) = true := by kernel_rfl
theorem aDT : ((List.range 9).all fun p => edB (e3 p 2 4) [2, 4] && reB (e3 p 2 4) [2, 4] (2 + 4 + 1)) = true := by kernel_rfl
theorem aDU : ((List.range 9).all fun p => edB (e3 p 2 5) [2, 5] && reB (e3 p 2 5) [2, 5] (2 + 5 + 1)) = true := by kernel_rfl
theorem aDV : ((List.range 9).all fun p => edB (e3 p 3 0) [3, 0] && reB (e3 p 3 0) [3, 0] (3 + 0 + 1)) = true := by kernel_rfl
theorem aDW : ((List.range 9).all fun p => edB (e3 p 3 1) [3, 1] && reB (e3 p 3 1) [3, 1] (3 + 1 + 1)) = true := by kernel_rfl
theorem aDX : ((List.range 9).all fun p => edB (e3 p 3 2) [3, 2] && reB (e3 p 3 2) [3, 2] (3 + 2 + 1)) = true := by kernel_rfl
theorem aDY : ((List.range 9).all fun p => edB (e3 p 3 3) [3, 3] && reB (e3 p 3 3) [3, 3] (3 + 3 + 1)) = true := by kernel_rfl
theorem aDZ : ((List.range 9).all fun p => edB (e3 p 3 4) [3, 4] && reB (e3 p 3 4) [3, 4] (3 + 4 + 1)) = true := by kernel_rfl
theorem aD0 : ((List.range 9).all fun p => edB (e3 p 3 5) [3, 5] && reB (e3 p 3 5) [3, 5] (3 + 5 + 1)) = true := by kernel_rfl
theorem aD1 : ((List.range 9).all fun p => edB (e3 p 4 0) [4, 0] && reB (e3 p 4 0) [4, 0] (4 + 0 + 1)) = true := by kernel_rfl
theorem aD2 : ((List.range 9).all fun p => edB (e3 p 4 1) [4, 1] && reB (e3 p 4 1) [4, 1] (4 + 1 + 1)) = true := by kernel_rfl
theorem aD3 : ((List.range 9).all fun p => edB (e3 p 4 2) [4, 2] && reB (e3 p 4 2) [4, 2] (4 + 2 + 1)) = true := by kernel_rfl
theorem aD4 : ((List.range 9).all fun p => edB (e3 p 4 3) [4, 3] && reB (e3 p 4 3) [4, 3] (4 + 3 + 1)) = true := by kernel_rfl
theorem aD5 : ((List.range 9).all fun p => edB (e3 p 4 4) [4, 4] && reB (e3 p 4 4) [4, 4] (4 + 4 + 1)) = true := by kernel_rfl
theorem aD6 : ((List.range 9).all fun p => edB (e3 p 4 5) [4, 5] && reB (e3 p 4 5) [4, 5] (4 + 5 + 1)) = true := by kernel_rfl
theorem aD7 : ((List.range 9).all fun p => edB (e3 p 5 0) [5, 0] && reB (e3 p 5 0) [5, 0] (5 + 0 + 1)) = true := by kernel_rfl
theorem aD8 : ((List.range 9).all fun p => edB (e3 p 5 1) [5, 1] && reB (e3 p 5 1) [5, 1] (5 + 1 + 1)) = true := by kernel_rfl
theorem aD9 : ((List.range 9).all fun p => edB (e3 p 5 2) [5, 2] && reB (e3 p 5 2) [5, 2] (5 + 2 + 1)) = true := by kernel_rfl
theorem aEA : ((List.range 9).all fun p => edB (e3 p 5 3) [5, 3] && reB (e3 p 5 3) [5, 3] (5 + 3 + 1)) = true := by kernel_rfl
theorem aEB : ((List.range 9).all fun p => edB (e3 p 5 4) [5, 4] && reB (e3 p 5 4) [5, 4] (5 + 4 + 1)) = true := by kernel_rfl
theorem aEC : ((List.range 9).all fun p => edB (e3 p 5 5) [5, 5] && reB (e3 p 5 5) [5, 5] (5 + 5 + 1)) = true := by kernel_rfl
def zT (J x : Nat) : Nat × Nat := ((rT J x).re, (rT J x).im)
def hxB (J x : Nat) : Bool := (wvQ (eT J) (hW x) && (wvV (eT J) (hW x) == zT J x && cfB (zT J x))) &&
  ((!(ltB (hW x) (eT J)) || (!(FloatKind.f32.format.order (zT J x).2 0 != some .eq) && !(gtD (r8G (fop .mul .f32 (zT J x).1 (zT J x).1) (fop .sub .f32 (eT J) (hW x))) 4562254508917369340))) && (!(gtB (hW x) (eT J)) || (!(FloatKind.f32.format.order (zT J x).1 0 != some .eq) && !(gtD (r8G (fop .mul .f32 (zT J x).2 (zT J x).2) (fop .sub .f32 (hW x) (eT J))) 4562254508917369340))))
theorem aWO : ((List.range 416).all fun i => hxB (i / 13) (i % 13)) = true := by kernel_rfl
theorem aY2 : ((List.range 13).all fun x => iH (hW x) && (decide (hW x < 4294967296) && !(FloatKind.f32.format.order (hW x) (hW x) != some .eq))) = true := by kernel_rfl
theorem aWP : ((List.range 36).all fun i => (FloatKind.f32.format.order (kW i) 0 != some .eq) && !(eqB (kW i) 0)) = true := by kernel_rfl
theorem aWQ : ((List.range 24).all fun J => (e2W (eT J) == eT (J + 8)) && ((List.range 5).all fun i => eG5 (eT J) (eT (J + 8)) i == eT (J + 2 * i) && (!(ltB (eT (J + 2 * i)) (eT J)) && !(gtB (eT (J + 2 * i)) (eT (J + 8)))))) = true := by kernel_rfl
theorem am7 : ((List.range 32).all fun J => iH (eT J)) = true ∧ ((List.range 24).all fun J => !(gtB (eT J) (eT (J + 8)) || eqB (eT J) (eT (J + 8)))) = true := ⟨by kernel_rfl, by kernel_rfl⟩
theorem aY3 : ((List.range 8).all fun j => ah9 (1 + (j : Int))) = true := by kernel_rfl
end Go.Proofs.Ytpjoapgfdjfbdaa.Ab

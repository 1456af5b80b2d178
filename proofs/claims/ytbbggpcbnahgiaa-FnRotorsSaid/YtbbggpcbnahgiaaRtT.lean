/- FnRotors: what the tables ask. Only lemmas. Printed by gen_rotors.py. -/
import Derived.Test.YtbbggpcbnahgiaaRtD
namespace Go.Proofs.Ytbbggpcbnahgiaa.Ab
set_option linter.unusedVariables false
set_option linter.unusedSimpArgs false
open Go
noncomputable section
def bL : List Nat := [1048576000, 1056964608, 1061158912, 1065353216, 1067450368, 1069547520, 1071644672, 1073741824, 1074790400, 1075838976, 1076887552, 1077936128, 1078984704, 1080033280, 1081081856, 1082130432]
def t1 (b n : Nat) : Bool := nonB b && (ok_rl b 0 ((n + 1 : Nat) : Int) && (ok_tl b b ((n + 1 : Nat) : Int) && (ftB b b b && (eqB (fop .add .f32 b b) (fop .mul .f32 1073741824 b) && (List.range (n + 2)).all (fun i => g23 b ((n + 1 : Nat) : Int) (el_tl b b ((n + 1 : Nat) : Int) i))))))
def t1w (b n : Nat) : Bool := wOk b 1090519040 ((n + 1 : Nat) : Int) && (!(gtD (gapD (sumW b (n + 1)) 4607182418800017408) 4562254508917369340) && (List.range (n + 1)).all (fun i => g16 b (el_rl b 0 0 i) ((wD b 1090519040 (n + 1)).getD i 0) (i : Int)))
def t2 (b o i : Nat) : Bool := finB (el_br b o 1120403456 1 0 i) && (finB (el_br b o 1120403456 (-1) 0 i) && (finB (el_br b o 1120403456 0 0 i) && g38 b o (el_br b o 1120403456 1 0 i) (el_br b o 1120403456 (-1) 0 i) (el_br b o 1120403456 0 0 i) (i : Int)))
def t3 (b o n : Nat) : Bool := decide (hdI b o 1120403456 ((n + 1 : Nat) : Int) < n + 1) && (eqB (hdX b o 1120403456 ((n + 1 : Nat) : Int)) (hdX b o 1120403456 ((n + 1 : Nat) : Int)) && (List.range (n + 1)).all (fun i => h38 (el_br b o 1120403456 1 0 i) (hdX b o 1120403456 ((n + 1 : Nat) : Int)) (i : Int) ((hdI b o 1120403456 ((n + 1 : Nat) : Int) : Nat) : Int)))
end
end Go.Proofs.Ytbbggpcbnahgiaa.Ab

/- What the proof names: lemmas and words, merged by a program from its parts. No condition. -/
import Derived.Test.YtbhfjdlhhjeknaaZ4
namespace Go.Proofs.Ytbhfjdlhhjeknaa.Ab
set_option linter.unusedVariables false
set_option linter.unusedSimpArgs false
open Go
noncomputable section
def an_joiD : Ann := ⟨fun r => if r = 14 then some ([1, 5, 6, 10, 11, 17, 18, 117, 118], [1, 4, 5, 6, 17, 18]) else if r = 22 then some ([1, 5, 6, 10, 11, 20, 21, 22, 23, 117, 118], [1, 5, 6, 10, 11, 20, 21, 22, 117, 118]) else if r = 38 then some ([5, 6, 25, 26, 27, 28, 208, 209], [4, 27]) else none, fun _ _ => .quiet⟩
def tab_joiD : Fns := tabT [(57, gLong), (58, gAt), (52, gJr), (51, gJr), (60, gInts), (64, gTo), (33, gJoin), (56, gJnu), (61, gGap)]
theorem tabok_joiD : ∀ f, FnT Try.prog f (tab_joiD f) := (tabT_cons (k := 57) ok_Long (tabT_cons (k := 58) ok_At (tabT_cons (k := 52) ok_jrI (tabT_cons (k := 51) ok_jrS (tabT_cons (k := 60) ok_Ints (tabT_cons (k := 64) ok_toS (tabT_cons (k := 33) ok_jsI (tabT_cons (k := 56) ok_jnI (tabT_cons (k := 61) ok_Gap tabT_nil)))))))))
def st_joiD14 (t5 : Int) (t6 : Int) (t10n : Nat) (t11n : Nat) (t17 : Int) (t18 : Int) (t117 : Int) (t118 : Int) (l0 : List Int) (l1 : List Int) : St := ⟨(.any :: .nil :: .any :: .any :: .any :: .int .i64 t5 :: .int .i64 t6 :: .any :: .any :: .any :: .sl 0 0 t10n :: .sl 1 0 t11n :: .any :: .any :: .any :: .any :: .any :: .int .i64 t17 :: .int .i64 t18 :: (anys 98 (.int .i64 t117 :: .int .i64 t118 :: (anys 219 [])))), [.at true (.int .i64 l0), .at true (.int .i64 l1)]⟩
abbrev kp_joiD14 : Option (List Nat × List Nat) := some ([1, 5, 6, 10, 11, 17, 18, 117, 118], [1, 4, 5, 6, 17, 18])
noncomputable def lp_joiD14 {R : Type} (N M : Nat) (s : St) (K : X → St → Option R) : Option R := loopH 0 kp_joiD14 (fun st K => exec ty tab_joiD an_joiD N 0 (atOf [true, true, true, true, true, true, true, true, true, true, true, false, true, false, false] Try.f14) st K) M s K
noncomputable def bk_joiD14 {R : Type} (N M : Nat) (K : X → St → Option R) : X → St → Option R := fun x st => match x with | .norm => tidyK 0 (kp_joiD14.map (·.1)) st fun st => lp_joiD14 N M st K | x => tidyK 0 (kp_joiD14.map (·.2)) st fun st => K x st
noncomputable def kt_joiD14 {R : Type} (N : Nat) (K : X → St → Option R) : X → St → Option R := kBlkR 0 (kSeqR tab_joiD an_joiD N 0 (atOf [true, true, true, true, true, true, true, true, true, true, true, true] Try.f14) (K))
def st_joiD22 (t5 : Int) (t6 : Int) (t10n : Nat) (t11n : Nat) (t20 : Int) (t21 : Int) (t22 : Int) (t23 : Int) (t117 : Int) (t118 : Int) (l0 : List Int) (l1 : List Int) : St := ⟨(.any :: .nil :: .any :: .any :: .any :: .int .i64 t5 :: .int .i64 t6 :: .any :: .any :: .any :: .sl 0 0 t10n :: .sl 1 0 t11n :: (anys 8 (.int .i64 t20 :: .int .i64 t21 :: .int .i64 t22 :: .int .i64 t23 :: (anys 93 (.int .i64 t117 :: .int .i64 t118 :: (anys 219 [])))))), [.at true (.int .i64 l0), .at true (.int .i64 l1)]⟩
abbrev kp_joiD22 : Option (List Nat × List Nat) := some ([1, 5, 6, 10, 11, 20, 21, 22, 23, 117, 118], [1, 5, 6, 10, 11, 20, 21, 22, 117, 118])
noncomputable def lp_joiD22 {R : Type} (N M : Nat) (s : St) (K : X → St → Option R) : Option R := loopH 0 kp_joiD22 (fun st K => exec ty tab_joiD an_joiD N 0 (atOf [true, true, true, true, true, true, true, true, true, true, true, false, true, false, false, true, true, false, false, true, true, true, true, true, true, false, false, false] Try.f14) st K) M s K
noncomputable def kt_joiD22 {R : Type} (N : Nat) (K : X → St → Option R) : X → St → Option R := kBlkR 2 (kSeqR tab_joiD an_joiD N 0 (atOf [true, true, true, true, true, true, true, true, true, true, true, false, true, false, false, true, true, false, false, true, true, true, true, true, true, true] Try.f14) (kBlkR 1 (kSeqR tab_joiD an_joiD N 0 (atOf [true, true, true, true, true, true, true, true, true, true, true, false, true, false, false, true, true, true] Try.f14) (K))))
def st_joiD38 (t5 : Int) (t6 : Int) (t25 : Int) (t26 : Int) (t27 : Nat) (t28n : Nat) (t208 : Int) (t209 : Int) (l0 : List Int) : St := ⟨(.any :: .any :: .any :: .any :: .any :: .int .i64 t5 :: .int .i64 t6 :: (anys 18 (.int .i64 t25 :: .int .i64 t26 :: .fl .f64 t27 :: .sl 0 0 t28n :: (anys 179 (.int .i64 t208 :: .int .i64 t209 :: (anys 128 [])))))), [.at true (.int .i64 l0)]⟩
abbrev kp_joiD38 : Option (List Nat × List Nat) := some ([5, 6, 25, 26, 27, 28, 208, 209], [4, 27])
noncomputable def lp_joiD38 {R : Type} (N M : Nat) (s : St) (K : X → St → Option R) : Option R := loopH 0 kp_joiD38 (fun st K => exec ty tab_joiD an_joiD N 0 (atOf [true, true, true, true, true, true, true, true, true, true, true, true, true, true, true, true, true, true, false, true, false, false] Try.f14) st K) M s K
noncomputable def kt_joiD38 {R : Type} (N : Nat) (K : X → St → Option R) : X → St → Option R := kBlkR 4 (kSeqR tab_joiD an_joiD N 0 (atOf [true, true, true, true, true, true, true, true, true, true, true, true, true, true, true, true, true, true, true] Try.f14) (K))
def en_joiD14_0 (t5 : Int) (t6 : Int) (t17 : Int) (t18 : Int) : St := ⟨(.any :: .nil :: .any :: .any :: .bool false :: .int .i64 t5 :: .int .i64 t6 :: (anys 10 (.int .i64 t17 :: .int .i64 t18 :: (anys 319 [])))), []⟩
def en_joiD14_1 (t5 : Int) (t6 : Int) (t17 : Int) (t18 : Int) : St := ⟨(.any :: .nil :: .any :: .any :: .any :: .int .i64 t5 :: .int .i64 t6 :: (anys 10 (.int .i64 t17 :: .int .i64 t18 :: (anys 319 [])))), []⟩
def en_joiD22_0 (t5 : Int) (t6 : Int) (t10n : Nat) (t11n : Nat) (t20 : Int) (t21 : Int) (t22 : Int) (t117 : Int) (t118 : Int) (l0 : List Int) (l1 : List Int) : St := ⟨(.any :: .nil :: .any :: .any :: .any :: .int .i64 t5 :: .int .i64 t6 :: .any :: .any :: .any :: .sl 0 0 t10n :: .sl 1 0 t11n :: (anys 8 (.int .i64 t20 :: .int .i64 t21 :: .int .i64 t22 :: (anys 94 (.int .i64 t117 :: .int .i64 t118 :: (anys 219 [])))))), [.at true (.int .i64 l0), .at true (.int .i64 l1)]⟩
def en_joiD38_0 (t27 : Nat) : St := ⟨(.any :: .any :: .any :: .any :: .bool false :: (anys 22 (.fl .f64 t27 :: (anys 310 [])))), []⟩
def en_joiD38_1 (t27 : Nat) : St := ⟨(anys 27 (.fl .f64 t27 :: (anys 310 []))), []⟩
theorem run_joiD (N : Nat)  : run ty tab_joiD an_joiD N Try.f14 [.nil, .nil] []
    = (match nmO (α := Bool) (longB 0 0) with | some w1 => (match w1 with | true => some (.bool true, []) | false => (match atOk 0 [] 0 with | true => (match nmO (α := Int) (atF [] 0 7) with | some w2 => (match atOk 0 [] 1 with | true => (match nmO (α := Int) (atF [] 1 7) with | some w3 => (match atOk 0 [] 2 with | true => (match nmO (α := Int) (atF [] 2 (IntKind.i64.wrap ((if w3 < w2 then w3 else w2) + 1))) with | some w4 => (match atOk 0 [] 3 with | true => (match nmO (α := Int) (atF [] 3 (IntKind.i64.wrap ((IntKind.i64.wrap ((IntKind.i64.wrap (w2 + w3)) - (IntKind.i64.wrap (2 * w4)))) + 1))) with | some w5 => (match rowS w2 w3 (IntKind.i64.wrap ((IntKind.i64.wrap (w2 + w3)) - (IntKind.i64.wrap (2 * w4)))) (IntKind.i64.wrap ((IntKind.i64.wrap ((IntKind.i64.wrap (w2 + w3)) - (IntKind.i64.wrap (2 * w4)))) - (IntKind.i64.wrap (2 * w5)))) with | true => (match nmO (α := Nat) ((jrD w2 w3 (IntKind.i64.wrap ((IntKind.i64.wrap (w2 + w3)) - (IntKind.i64.wrap (2 * w4)))) (IntKind.i64.wrap ((IntKind.i64.wrap ((IntKind.i64.wrap (w2 + w3)) - (IntKind.i64.wrap (2 * w4)))) - (IntKind.i64.wrap (2 * w5))))).1.length) with | some w6 => (match nmO (α := Nat) ((jrD w2 w3 (IntKind.i64.wrap ((IntKind.i64.wrap (w2 + w3)) - (IntKind.i64.wrap (2 * w4)))) (IntKind.i64.wrap ((IntKind.i64.wrap ((IntKind.i64.wrap (w2 + w3)) - (IntKind.i64.wrap (2 * w4)))) - (IntKind.i64.wrap (2 * w5))))).2.1.length) with | some w7 => (match nmO (α := Nat) ((jrD w2 w3 (IntKind.i64.wrap ((IntKind.i64.wrap (w2 + w3)) - (IntKind.i64.wrap (2 * w4)))) (IntKind.i64.wrap ((IntKind.i64.wrap ((IntKind.i64.wrap (w2 + w3)) - (IntKind.i64.wrap (2 * w4)))) - (IntKind.i64.wrap (2 * w5))))).2.2.length) with | some w8 => (match nmO (α := List Int) ((jrD w2 w3 (IntKind.i64.wrap ((IntKind.i64.wrap (w2 + w3)) - (IntKind.i64.wrap (2 * w4)))) (IntKind.i64.wrap ((IntKind.i64.wrap ((IntKind.i64.wrap (w2 + w3)) - (IntKind.i64.wrap (2 * w4)))) - (IntKind.i64.wrap (2 * w5))))).1) with | some w9 => (match nmO (α := List Int) ((jrD w2 w3 (IntKind.i64.wrap ((IntKind.i64.wrap (w2 + w3)) - (IntKind.i64.wrap (2 * w4)))) (IntKind.i64.wrap ((IntKind.i64.wrap ((IntKind.i64.wrap (w2 + w3)) - (IntKind.i64.wrap (2 * w4)))) - (IntKind.i64.wrap (2 * w5))))).2.1) with | some w10 => (match nmO (α := List Int) ((jrD w2 w3 (IntKind.i64.wrap ((IntKind.i64.wrap (w2 + w3)) - (IntKind.i64.wrap (2 * w4)))) (IntKind.i64.wrap ((IntKind.i64.wrap ((IntKind.i64.wrap (w2 + w3)) - (IntKind.i64.wrap (2 * w4)))) - (IntKind.i64.wrap (2 * w5))))).2.2) with | some w11 => (match rowS w2 w3 (IntKind.i64.wrap ((IntKind.i64.wrap (w2 + w3)) - (IntKind.i64.wrap (2 * w4)))) (IntKind.i64.wrap ((IntKind.i64.wrap ((IntKind.i64.wrap (w2 + w3)) - (IntKind.i64.wrap (2 * w4)))) - (IntKind.i64.wrap (2 * w5)))) with | true => (match nmO (α := Nat) ((jrD w2 w3 (IntKind.i64.wrap ((IntKind.i64.wrap (w2 + w3)) - (IntKind.i64.wrap (2 * w4)))) (IntKind.i64.wrap ((IntKind.i64.wrap ((IntKind.i64.wrap (w2 + w3)) - (IntKind.i64.wrap (2 * w4)))) - (IntKind.i64.wrap (2 * w5))))).1.length) with | some w12 => (match nmO (α := Nat) ((jrD w2 w3 (IntKind.i64.wrap ((IntKind.i64.wrap (w2 + w3)) - (IntKind.i64.wrap (2 * w4)))) (IntKind.i64.wrap ((IntKind.i64.wrap ((IntKind.i64.wrap (w2 + w3)) - (IntKind.i64.wrap (2 * w4)))) - (IntKind.i64.wrap (2 * w5))))).2.1.length) with | some w13 => (match nmO (α := Nat) ((jrD w2 w3 (IntKind.i64.wrap ((IntKind.i64.wrap (w2 + w3)) - (IntKind.i64.wrap (2 * w4)))) (IntKind.i64.wrap ((IntKind.i64.wrap ((IntKind.i64.wrap (w2 + w3)) - (IntKind.i64.wrap (2 * w4)))) - (IntKind.i64.wrap (2 * w5))))).2.2.length) with | some w14 => (match nmO (α := List Int) ((jrD w2 w3 (IntKind.i64.wrap ((IntKind.i64.wrap (w2 + w3)) - (IntKind.i64.wrap (2 * w4)))) (IntKind.i64.wrap ((IntKind.i64.wrap ((IntKind.i64.wrap (w2 + w3)) - (IntKind.i64.wrap (2 * w4)))) - (IntKind.i64.wrap (2 * w5))))).1) with | some w15 => (match nmO (α := List Int) ((jrD w2 w3 (IntKind.i64.wrap ((IntKind.i64.wrap (w2 + w3)) - (IntKind.i64.wrap (2 * w4)))) (IntKind.i64.wrap ((IntKind.i64.wrap ((IntKind.i64.wrap (w2 + w3)) - (IntKind.i64.wrap (2 * w4)))) - (IntKind.i64.wrap (2 * w5))))).2.1) with | some w16 => (match nmO (α := List Int) ((jrD w2 w3 (IntKind.i64.wrap ((IntKind.i64.wrap (w2 + w3)) - (IntKind.i64.wrap (2 * w4)))) (IntKind.i64.wrap ((IntKind.i64.wrap ((IntKind.i64.wrap (w2 + w3)) - (IntKind.i64.wrap (2 * w4)))) - (IntKind.i64.wrap (2 * w5))))).2.2) with | some w17 => (match eqOk w6 w12 w9 w15 with | true => (match nmO (α := Bool) (eqIB w9 w15) with | some w18 => (match !w18 with | true => some (.bool false, []) | false => (match eqOk w7 w13 w10 w16 with | true => (match nmO (α := Bool) (eqIB w10 w16) with | some w19 => (match !w19 with | true => some (.bool false, []) | false => (match eqOk w8 w14 w11 w17 with | true => (match nmO (α := Bool) (eqIB w11 w17) with | some w20 => (match !w20 with | true => some (.bool false, []) | false => (match decide ((((w7 : Nat) : Int) : Int) < 1) with | true => some (.bool false, []) | false => lp_joiD14 N N (st_joiD14 w2 w3 w7 w8 0 1 ((w7 : Nat) : Int) 0 w10 w11) (kt_joiD14 N (kEnd Try.f14 0)))) | none => none) | false => none)) | none => none) | false => none)) | none => none) | false => none) | none => none) | none => none) | none => none) | none => none) | none => none) | none => none) | false => some (.bool false, [])) | none => none) | none => none) | none => none) | none => none) | none => none) | none => none) | false => (match rowS w2 w3 (IntKind.i64.wrap ((IntKind.i64.wrap (w2 + w3)) - (IntKind.i64.wrap (2 * w4)))) (IntKind.i64.wrap ((IntKind.i64.wrap ((IntKind.i64.wrap (w2 + w3)) - (IntKind.i64.wrap (2 * w4)))) - (IntKind.i64.wrap (2 * w5)))) with | true => (match nmO (α := Nat) ((jrD w2 w3 (IntKind.i64.wrap ((IntKind.i64.wrap (w2 + w3)) - (IntKind.i64.wrap (2 * w4)))) (IntKind.i64.wrap ((IntKind.i64.wrap ((IntKind.i64.wrap (w2 + w3)) - (IntKind.i64.wrap (2 * w4)))) - (IntKind.i64.wrap (2 * w5))))).1.length) with | some w21 => (match nmO (α := Nat) ((jrD w2 w3 (IntKind.i64.wrap ((IntKind.i64.wrap (w2 + w3)) - (IntKind.i64.wrap (2 * w4)))) (IntKind.i64.wrap ((IntKind.i64.wrap ((IntKind.i64.wrap (w2 + w3)) - (IntKind.i64.wrap (2 * w4)))) - (IntKind.i64.wrap (2 * w5))))).2.1.length) with | some w22 => (match nmO (α := Nat) ((jrD w2 w3 (IntKind.i64.wrap ((IntKind.i64.wrap (w2 + w3)) - (IntKind.i64.wrap (2 * w4)))) (IntKind.i64.wrap ((IntKind.i64.wrap ((IntKind.i64.wrap (w2 + w3)) - (IntKind.i64.wrap (2 * w4)))) - (IntKind.i64.wrap (2 * w5))))).2.2.length) with | some w23 => (match nmO (α := List Int) ((jrD w2 w3 (IntKind.i64.wrap ((IntKind.i64.wrap (w2 + w3)) - (IntKind.i64.wrap (2 * w4)))) (IntKind.i64.wrap ((IntKind.i64.wrap ((IntKind.i64.wrap (w2 + w3)) - (IntKind.i64.wrap (2 * w4)))) - (IntKind.i64.wrap (2 * w5))))).1) with | some w24 => (match nmO (α := List Int) ((jrD w2 w3 (IntKind.i64.wrap ((IntKind.i64.wrap (w2 + w3)) - (IntKind.i64.wrap (2 * w4)))) (IntKind.i64.wrap ((IntKind.i64.wrap ((IntKind.i64.wrap (w2 + w3)) - (IntKind.i64.wrap (2 * w4)))) - (IntKind.i64.wrap (2 * w5))))).2.1) with | some w25 => (match nmO (α := List Int) ((jrD w2 w3 (IntKind.i64.wrap ((IntKind.i64.wrap (w2 + w3)) - (IntKind.i64.wrap (2 * w4)))) (IntKind.i64.wrap ((IntKind.i64.wrap ((IntKind.i64.wrap (w2 + w3)) - (IntKind.i64.wrap (2 * w4)))) - (IntKind.i64.wrap (2 * w5))))).2.2) with | some w26 => some (.bool false, []) | none => none) | none => none) | none => none) | none => none) | none => none) | none => none) | false => some (.bool false, []))) | none => none) | false => none) | none => none) | false => none) | none => none) | false => none) | none => none) | false => none)) | none => none) := by
  kernel_rfl
theorem step_joiD14 {R : Type} (N M : Nat) (K : X → St → Option R) (t5 : Int) (t6 : Int) (t10n : Nat) (t11n : Nat) (t17 : Int) (t18 : Int) (t117 : Int) (t118 : Int) (l0 : List Int) (l1 : List Int) : lp_joiD14 N (M + 1) (st_joiD14 t5 t6 t10n t11n t17 t18 t117 t118 l0 l1) K
    = (match decide ((t118 : Int) < t117) with | true => (match decide (0 ≤ (t118 : Int) ∧ (t118 : Int) < ((t11n : Nat) : Int)) with | true => (match l1[0 + (t118).toNat * 1]? with | some e1 => (match decide ((e1 : Int) < 1) with | true => K .ret (en_joiD14_0 t5 t6 t17 t18) | false => (match decide (0 ≤ (t118 : Int) ∧ (t118 : Int) < ((t10n : Nat) : Int)) with | true => (match l0[0 + (t118).toNat * 1]? with | some e2 => (match decide ((e2 : Int) < 0) with | true => K .ret (en_joiD14_0 t5 t6 t17 t18) | false => (match decide (0 ≤ (t118 : Int) ∧ (t118 : Int) < ((t10n : Nat) : Int)) with | true => (match l0[0 + (t118).toNat * 1]? with | some e3 => (match decide (0 ≤ (t118 : Int) ∧ (t118 : Int) < ((t11n : Nat) : Int)) with | true => (match l1[0 + (t118).toNat * 1]? with | some e4 => (match decide ((e3 : Int) > e4) with | true => K .ret (en_joiD14_0 t5 t6 t17 t18) | false => (match decide (0 ≤ (t118 : Int) ∧ (t118 : Int) < ((t11n : Nat) : Int)) with | true => (match l1[0 + (t118).toNat * 1]? with | some e5 => (match decide (0 ≤ (t118 : Int) ∧ (t118 : Int) < ((t10n : Nat) : Int)) with | true => (match l0[0 + (t118).toNat * 1]? with | some e6 => (match decide (0 ≤ (t118 : Int) ∧ (t118 : Int) < ((t11n : Nat) : Int)) with | true => (match l1[0 + (t118).toNat * 1]? with | some e7 => lp_joiD22 N N (st_joiD22 t5 t6 t10n t11n (IntKind.i64.wrap ((IntKind.i64.wrap (t17 * e5)) + (IntKind.i64.wrap (e6 * t18)))) (IntKind.i64.wrap (t18 * e7)) (IntKind.i64.wrap ((IntKind.i64.wrap (t17 * e5)) + (IntKind.i64.wrap (e6 * t18)))) (IntKind.i64.wrap (t18 * e7)) t117 t118 l0 l1) (kt_joiD22 N (bk_joiD14 N M K)) | none => none) | false => none) | none => none) | false => none) | none => none) | false => none)) | none => none) | false => none) | none => none) | false => none)) | none => none) | false => none)) | none => none) | false => none) | false => K (.exit 0) (en_joiD14_1 t5 t6 t17 t18)) := by
  kernel_rfl
theorem step_joiD22 {R : Type} (N M : Nat) (K : X → St → Option R) (t5 : Int) (t6 : Int) (t10n : Nat) (t11n : Nat) (t20 : Int) (t21 : Int) (t22 : Int) (t23 : Int) (t117 : Int) (t118 : Int) (l0 : List Int) (l1 : List Int) : lp_joiD22 N (M + 1) (st_joiD22 t5 t6 t10n t11n t20 t21 t22 t23 t117 t118 l0 l1) K
    = (match t23 != 0 with | true => (match decide (t23 = 0) with | true => none | false => lp_joiD22 N M (st_joiD22 t5 t6 t10n t11n t20 t21 t23 (Int.tmod t22 t23) t117 t118 l0 l1) K) | false => K (.exit 2) (en_joiD22_0 t5 t6 t10n t11n t20 t21 t22 t117 t118 l0 l1)) := by
  kernel_rfl
theorem step_joiD38 {R : Type} (N M : Nat) (K : X → St → Option R) (t5 : Int) (t6 : Int) (t25 : Int) (t26 : Int) (t27 : Nat) (t28n : Nat) (t208 : Int) (t209 : Int) (l0 : List Int) : lp_joiD38 N (M + 1) (st_joiD38 t5 t6 t25 t26 t27 t28n t208 t209 l0) K
    = (match decide ((t209 : Int) < t208) with | true => (match decide (0 ≤ (t209 : Int) ∧ (t209 : Int) < ((t28n : Nat) : Int)) with | true => (match l0[0 + (t209).toNat * 1]? with | some e1 => (match decide ((IntKind.i64.wrap (t25 + t26) : Int) > e1) with | true => lp_joiD38 N M (st_joiD38 t5 t6 t25 t26 t27 t28n t208 (IntKind.i64.wrap (t209 + 1)) l0) K | false => (match decide (0 ≤ (t209 : Int) ∧ (t209 : Int) < ((t28n : Nat) : Int)) with | true => (match l0[0 + (t209).toNat * 1]? with | some e2 => (match decide ((IntKind.i64.wrap ((IntKind.i64.wrap (0 - t25)) - t26) : Int) > e2) with | true => lp_joiD38 N M (st_joiD38 t5 t6 t25 t26 t27 t28n t208 (IntKind.i64.wrap (t209 + 1)) l0) K | false => (match decide (0 ≤ (t209 : Int) ∧ (t209 : Int) < ((t28n : Nat) : Int)) with | true => (match l0[0 + (t209).toNat * 1]? with | some e3 => (match canS t5 t25 t6 t26 e3 with | true => (match nmO (α := Int) ((jV t5 t25 t6 t26 e3).1) with | some w4 => (match nmO (α := Int) ((jV t5 t25 t6 t26 e3).2.1) with | some w5 => (match nmO (α := Int) ((jV t5 t25 t6 t26 e3).2.2) with | some w6 => (match decide (0 ≤ (t209 : Int) ∧ (t209 : Int) < ((t28n : Nat) : Int)) with | true => (match l0[0 + (t209).toNat * 1]? with | some e7 => (match canS t5 (IntKind.i64.wrap (0 - t25)) t6 (IntKind.i64.wrap (0 - t26)) e7 with | true => (match nmO (α := Int) ((jV t5 (IntKind.i64.wrap (0 - t25)) t6 (IntKind.i64.wrap (0 - t26)) e7).1) with | some w8 => (match nmO (α := Int) ((jV t5 (IntKind.i64.wrap (0 - t25)) t6 (IntKind.i64.wrap (0 - t26)) e7).2.1) with | some w9 => (match nmO (α := Int) ((jV t5 (IntKind.i64.wrap (0 - t25)) t6 (IntKind.i64.wrap (0 - t26)) e7).2.2) with | some w10 => (match decide (0 ≤ (t209 : Int) ∧ (t209 : Int) < ((t28n : Nat) : Int)) with | true => (match l0[0 + (t209).toNat * 1]? with | some e11 => (match canS t5 t25 t6 t26 e11 with | true => (match nmO (α := Nat) (jF (jV t5 t25 t6 t26 e11)) with | some w12 => (match w5 != w9 with | true => K .ret (en_joiD38_0 t27) | false => (match w6 != w10 with | true => K .ret (en_joiD38_0 t27) | false => (match fconv .f32 w12 .f64 with | some c13 => (match fconv .f32 w12 .f64 with | some c14 => (match nmO (α := Nat) (gapD (fop .mul .f64 (fop .mul .f64 c13 c14) (floatOfInt .f64 w6)) (floatOfInt .f64 w5)) with | some w15 => (match gtD w15 (fop .mul .f64 4562254508917369340 (floatOfInt .f64 w6)) with | true => K .ret (en_joiD38_0 t27) | false => (match decide (0 ≤ (t209 : Int) ∧ (t209 : Int) < ((t28n : Nat) : Int)) with | true => (match l0[0 + (t209).toNat * 1]? with | some e16 => (match (Int.tmod (IntKind.i64.wrap (Int.tdiv (IntKind.i64.wrap ((IntKind.i64.wrap (t5 + t6)) - e16)) 2)) 2) == 1 with | true => (match w8 != (IntKind.i64.wrap (0 - w4)) with | true => K .ret (en_joiD38_0 t27) | false => lp_joiD38 N M (st_joiD38 t5 t6 t25 t26 (fop .add .f64 t27 (fop .quo .f64 (floatOfInt .f64 w5) (floatOfInt .f64 w6))) t28n t208 (IntKind.i64.wrap (t209 + 1)) l0) K) | false => (match w8 != w4 with | true => K .ret (en_joiD38_0 t27) | false => lp_joiD38 N M (st_joiD38 t5 t6 t25 t26 (fop .add .f64 t27 (fop .quo .f64 (floatOfInt .f64 w5) (floatOfInt .f64 w6))) t28n t208 (IntKind.i64.wrap (t209 + 1)) l0) K)) | none => none) | false => none)) | none => none) | none => none) | none => none))) | none => none) | false => K .ret (en_joiD38_0 t27)) | none => none) | false => none) | none => none) | none => none) | none => none) | false => (match decide (0 ≤ (t209 : Int) ∧ (t209 : Int) < ((t28n : Nat) : Int)) with | true => (match l0[0 + (t209).toNat * 1]? with | some e17 => (match canS t5 t25 t6 t26 e17 with | true => (match nmO (α := Nat) (jF (jV t5 t25 t6 t26 e17)) with | some w18 => K .ret (en_joiD38_0 t27) | none => none) | false => K .ret (en_joiD38_0 t27)) | none => none) | false => none)) | none => none) | false => none) | none => none) | none => none) | none => none) | false => (match decide (0 ≤ (t209 : Int) ∧ (t209 : Int) < ((t28n : Nat) : Int)) with | true => (match l0[0 + (t209).toNat * 1]? with | some e19 => (match canS t5 (IntKind.i64.wrap (0 - t25)) t6 (IntKind.i64.wrap (0 - t26)) e19 with | true => (match nmO (α := Int) ((jV t5 (IntKind.i64.wrap (0 - t25)) t6 (IntKind.i64.wrap (0 - t26)) e19).1) with | some w20 => (match nmO (α := Int) ((jV t5 (IntKind.i64.wrap (0 - t25)) t6 (IntKind.i64.wrap (0 - t26)) e19).2.1) with | some w21 => (match nmO (α := Int) ((jV t5 (IntKind.i64.wrap (0 - t25)) t6 (IntKind.i64.wrap (0 - t26)) e19).2.2) with | some w22 => (match decide (0 ≤ (t209 : Int) ∧ (t209 : Int) < ((t28n : Nat) : Int)) with | true => (match l0[0 + (t209).toNat * 1]? with | some e23 => (match canS t5 t25 t6 t26 e23 with | true => (match nmO (α := Nat) (jF (jV t5 t25 t6 t26 e23)) with | some w24 => K .ret (en_joiD38_0 t27) | none => none) | false => K .ret (en_joiD38_0 t27)) | none => none) | false => none) | none => none) | none => none) | none => none) | false => (match decide (0 ≤ (t209 : Int) ∧ (t209 : Int) < ((t28n : Nat) : Int)) with | true => (match l0[0 + (t209).toNat * 1]? with | some e25 => (match canS t5 t25 t6 t26 e25 with | true => (match nmO (α := Nat) (jF (jV t5 t25 t6 t26 e25)) with | some w26 => K .ret (en_joiD38_0 t27) | none => none) | false => K .ret (en_joiD38_0 t27)) | none => none) | false => none)) | none => none) | false => none)) | none => none) | false => none)) | none => none) | false => none)) | none => none) | false => none) | false => K (.exit 4) (en_joiD38_1 t27)) := by
  kernel_rfl
theorem end_joiD14_0 (N : Nat) (t5 : Int) (t6 : Int) (t17 : Int) (t18 : Int) : kt_joiD14 N (kEnd Try.f14 0) .ret (en_joiD14_0 t5 t6 t17 t18)
    = some (.bool false, []) := by
  kernel_rfl
theorem end_joiD14_1 (N : Nat) (t5 : Int) (t6 : Int) (t17 : Int) (t18 : Int) : kt_joiD14 N (kEnd Try.f14 0) (.exit 0) (en_joiD14_1 t5 t6 t17 t18)
    = (match t17 != 1 with | true => some (.bool false, []) | false => (match t18 != 1 with | true => some (.bool false, []) | false => (match atOk 0 [] 4 with | true => (match nmO (α := Int) (atF [] 4 (IntKind.i64.wrap (t5 + 1))) with | some w1 => (match atOk 0 [] 5 with | true => (match nmO (α := Int) (atF [] 5 (IntKind.i64.wrap (t6 + 1))) with | some w2 => (match is6 t5 && is6 t6 with | true => (match nmO (α := Nat) ((toD t5 t6).length) with | some w3 => (match nmO (α := List Int) ((toD t5 t6)) with | some w4 => lp_joiD38 N N (st_joiD38 t5 t6 (IntKind.i64.wrap (t5 - (IntKind.i64.wrap (2 * w1)))) (IntKind.i64.wrap (t6 - (IntKind.i64.wrap (2 * w2)))) 0 w3 ((w3 : Nat) : Int) 0 w4) (kt_joiD38 N (kEnd Try.f14 0)) | none => none) | none => none) | false => some (.bool false, [])) | none => none) | false => none) | none => none) | false => none))) := by
  kernel_rfl
theorem end_joiD22_0 {R : Type} (N M : Nat) (K : X → St → Option R) (t5 : Int) (t6 : Int) (t10n : Nat) (t11n : Nat) (t20 : Int) (t21 : Int) (t22 : Int) (t117 : Int) (t118 : Int) (l0 : List Int) (l1 : List Int) : kt_joiD22 N (bk_joiD14 N M K) (.exit 2) (en_joiD22_0 t5 t6 t10n t11n t20 t21 t22 t117 t118 l0 l1)
    = (match decide (t22 = 0) with | true => none | false => (match decide (t22 = 0) with | true => none | false => lp_joiD14 N M (st_joiD14 t5 t6 t10n t11n (IntKind.i64.wrap (Int.tdiv t20 t22)) (IntKind.i64.wrap (Int.tdiv t21 t22)) t117 (IntKind.i64.wrap (t118 + 1)) l0 l1) K)) := by
  kernel_rfl
theorem end_joiD38_0 (N : Nat) (t27 : Nat) : kt_joiD38 N (kEnd Try.f14 0) .ret (en_joiD38_0 t27)
    = some (.bool false, []) := by
  kernel_rfl
theorem end_joiD38_1 (N : Nat) (t27 : Nat) : kt_joiD38 N (kEnd Try.f14 0) (.exit 4) (en_joiD38_1 t27)
    = (match nmO (α := Nat) (gapD t27 4607182418800017408) with | some w1 => some (.bool (ltD w1 4562254508917369340), []) | none => none) := by
  kernel_rfl
noncomputable def ce_joiD22_0 (N : Nat) (g : Int → Int → Nat → Nat → Int → Int → Int → Int → List Int → List Int → Option (V × H)) (q0 : Int → Int → Int → Int → Option (V × H)) (q1 : Int → Int → Int → Int → Option (V × H))  : Int → Int → Nat → Nat → Int → Int → Int → Int → Int → List Int → List Int → Option (V × H) := fun (t5 : Int) (t6 : Int) (t10n : Nat) (t11n : Nat) (t20 : Int) (t21 : Int) (t22 : Int) (t117 : Int) (t118 : Int) (l0 : List Int) (l1 : List Int) => (match decide (t22 = 0) with | true => none | false => (match decide (t22 = 0) with | true => none | false => (g t5 t6 t10n t11n (IntKind.i64.wrap (Int.tdiv t20 t22)) (IntKind.i64.wrap (Int.tdiv t21 t22)) t117 (IntKind.i64.wrap (t118 + 1)) l0 l1)))
noncomputable def mb_joiD22 (N : Nat) (k0 : Int → Int → Nat → Nat → Int → Int → Int → Int → Int → List Int → List Int → Option (V × H)) (rq : Int → Int → Nat → Nat → Int → Int → Int → Int → Int → Int → List Int → List Int → Option (V × H)) : Int → Int → Nat → Nat → Int → Int → Int → Int → Int → Int → List Int → List Int → Option (V × H) := fun (t5 : Int) (t6 : Int) (t10n : Nat) (t11n : Nat) (t20 : Int) (t21 : Int) (t22 : Int) (t23 : Int) (t117 : Int) (t118 : Int) (l0 : List Int) (l1 : List Int) => (match t23 != 0 with | true => (match decide (t23 = 0) with | true => none | false => (rq t5 t6 t10n t11n t20 t21 t23 (Int.tmod t22 t23) t117 t118 l0 l1)) | false => (k0 t5 t6 t10n t11n t20 t21 t22 t117 t118 l0 l1))
noncomputable def mr_joiD22 (N : Nat) (k0 : Int → Int → Nat → Nat → Int → Int → Int → Int → Int → List Int → List Int → Option (V × H)) (M : Nat) : Int → Int → Nat → Nat → Int → Int → Int → Int → Int → Int → List Int → List Int → Option (V × H) := Nat.rec (motive := fun _ => Int → Int → Nat → Nat → Int → Int → Int → Int → Int → Int → List Int → List Int → Option (V × H)) (fun (_ : Int) (_ : Int) (_ : Nat) (_ : Nat) (_ : Int) (_ : Int) (_ : Int) (_ : Int) (_ : Int) (_ : Int) (_ : List Int) (_ : List Int) => none) (fun _ rq => mb_joiD22 N k0 rq) M
theorem mrs_joiD22 (N : Nat) (k0 : Int → Int → Nat → Nat → Int → Int → Int → Int → Int → List Int → List Int → Option (V × H)) (M : Nat) (t5 : Int) (t6 : Int) (t10n : Nat) (t11n : Nat) (t20 : Int) (t21 : Int) (t22 : Int) (t23 : Int) (t117 : Int) (t118 : Int) (l0 : List Int) (l1 : List Int) : mr_joiD22 N k0 (M + 1) t5 t6 t10n t11n t20 t21 t22 t23 t117 t118 l0 l1 = mb_joiD22 N k0 (mr_joiD22 N k0 M) t5 t6 t10n t11n t20 t21 t22 t23 t117 t118 l0 l1 := rfl
theorem H_joiD22 (N : Nat) (Mp : Nat) (K : X → St → Option (V × H)) (g : Int → Int → Nat → Nat → Int → Int → Int → Int → List Int → List Int → Option (V × H)) (q0 : Int → Int → Int → Int → Option (V × H)) (q1 : Int → Int → Int → Int → Option (V × H)) (hg : ∀ (t5 : Int) (t6 : Int) (t10n : Nat) (t11n : Nat) (t17 : Int) (t18 : Int) (t117 : Int) (t118 : Int) (l0 : List Int) (l1 : List Int), lp_joiD14 N Mp (st_joiD14 t5 t6 t10n t11n t17 t18 t117 t118 l0 l1) K = g t5 t6 t10n t11n t17 t18 t117 t118 l0 l1) (hk0 : ∀ (t5 : Int) (t6 : Int) (t17 : Int) (t18 : Int), K .ret (en_joiD14_0 t5 t6 t17 t18) = q0 t5 t6 t17 t18) (hk1 : ∀ (t5 : Int) (t6 : Int) (t17 : Int) (t18 : Int), K (.exit 0) (en_joiD14_1 t5 t6 t17 t18) = q1 t5 t6 t17 t18) : ∀ (M : Nat) (t5 : Int) (t6 : Int) (t10n : Nat) (t11n : Nat) (t20 : Int) (t21 : Int) (t22 : Int) (t23 : Int) (t117 : Int) (t118 : Int) (l0 : List Int) (l1 : List Int), lp_joiD22 N M (st_joiD22 t5 t6 t10n t11n t20 t21 t22 t23 t117 t118 l0 l1) (kt_joiD22 N (bk_joiD14 N Mp K)) = mr_joiD22 N (ce_joiD22_0 N g q0 q1) M t5 t6 t10n t11n t20 t21 t22 t23 t117 t118 l0 l1 := by
  have he0 : ∀ (t5 : Int) (t6 : Int) (t10n : Nat) (t11n : Nat) (t20 : Int) (t21 : Int) (t22 : Int) (t117 : Int) (t118 : Int) (l0 : List Int) (l1 : List Int), kt_joiD22 N (bk_joiD14 N Mp K) (.exit 2) (en_joiD22_0 t5 t6 t10n t11n t20 t21 t22 t117 t118 l0 l1) = ce_joiD22_0 N g q0 q1 t5 t6 t10n t11n t20 t21 t22 t117 t118 l0 l1 := by
    intro t5 t6 t10n t11n t20 t21 t22 t117 t118 l0 l1
    rw [end_joiD22_0]
    unfold ce_joiD22_0
    first | (simp only [hg, hk0, hk1]; done) | (simp only [hg, hk0, hk1]; kernel_rfl) | rfl
  intro M
  induction M with
  | zero => intros; rfl
  | succ M ih =>
    intro t5 t6 t10n t11n t20 t21 t22 t23 t117 t118 l0 l1
    rw [step_joiD22]
    rw [mrs_joiD22]
    unfold mb_joiD22
    first | (simp only [ih, he0]; done) | (simp only [ih, he0]; kernel_rfl) | rfl
noncomputable def ce_joiD38_0 (N : Nat)  : Nat → Option (V × H) := fun (t27 : Nat) => some (.bool false, [])
noncomputable def ce_joiD38_1 (N : Nat)  : Nat → Option (V × H) := fun (t27 : Nat) => (match nmO (α := Nat) (gapD t27 4607182418800017408) with | some w1 => some (.bool (ltD w1 4562254508917369340), []) | none => none)
noncomputable def mb_joiD38 (N : Nat) (k0 : Nat → Option (V × H)) (k1 : Nat → Option (V × H)) (rq : Int → Int → Int → Int → Nat → Nat → Int → Int → List Int → Option (V × H)) : Int → Int → Int → Int → Nat → Nat → Int → Int → List Int → Option (V × H) := fun (t5 : Int) (t6 : Int) (t25 : Int) (t26 : Int) (t27 : Nat) (t28n : Nat) (t208 : Int) (t209 : Int) (l0 : List Int) => (match decide ((t209 : Int) < t208) with | true => (match decide (0 ≤ (t209 : Int) ∧ (t209 : Int) < ((t28n : Nat) : Int)) with | true => (match l0[0 + (t209).toNat * 1]? with | some e1 => (match decide ((IntKind.i64.wrap (t25 + t26) : Int) > e1) with | true => (rq t5 t6 t25 t26 t27 t28n t208 (IntKind.i64.wrap (t209 + 1)) l0) | false => (match decide (0 ≤ (t209 : Int) ∧ (t209 : Int) < ((t28n : Nat) : Int)) with | true => (match l0[0 + (t209).toNat * 1]? with | some e2 => (match decide ((IntKind.i64.wrap ((IntKind.i64.wrap (0 - t25)) - t26) : Int) > e2) with | true => (rq t5 t6 t25 t26 t27 t28n t208 (IntKind.i64.wrap (t209 + 1)) l0) | false => (match decide (0 ≤ (t209 : Int) ∧ (t209 : Int) < ((t28n : Nat) : Int)) with | true => (match l0[0 + (t209).toNat * 1]? with | some e3 => (match canS t5 t25 t6 t26 e3 with | true => (match nmO (α := Int) ((jV t5 t25 t6 t26 e3).1) with | some w4 => (match nmO (α := Int) ((jV t5 t25 t6 t26 e3).2.1) with | some w5 => (match nmO (α := Int) ((jV t5 t25 t6 t26 e3).2.2) with | some w6 => (match decide (0 ≤ (t209 : Int) ∧ (t209 : Int) < ((t28n : Nat) : Int)) with | true => (match l0[0 + (t209).toNat * 1]? with | some e7 => (match canS t5 (IntKind.i64.wrap (0 - t25)) t6 (IntKind.i64.wrap (0 - t26)) e7 with | true => (match nmO (α := Int) ((jV t5 (IntKind.i64.wrap (0 - t25)) t6 (IntKind.i64.wrap (0 - t26)) e7).1) with | some w8 => (match nmO (α := Int) ((jV t5 (IntKind.i64.wrap (0 - t25)) t6 (IntKind.i64.wrap (0 - t26)) e7).2.1) with | some w9 => (match nmO (α := Int) ((jV t5 (IntKind.i64.wrap (0 - t25)) t6 (IntKind.i64.wrap (0 - t26)) e7).2.2) with | some w10 => (match decide (0 ≤ (t209 : Int) ∧ (t209 : Int) < ((t28n : Nat) : Int)) with | true => (match l0[0 + (t209).toNat * 1]? with | some e11 => (match canS t5 t25 t6 t26 e11 with | true => (match nmO (α := Nat) (jF (jV t5 t25 t6 t26 e11)) with | some w12 => (match w5 != w9 with | true => (k0 t27) | false => (match w6 != w10 with | true => (k0 t27) | false => (match fconv .f32 w12 .f64 with | some c13 => (match fconv .f32 w12 .f64 with | some c14 => (match nmO (α := Nat) (gapD (fop .mul .f64 (fop .mul .f64 c13 c14) (floatOfInt .f64 w6)) (floatOfInt .f64 w5)) with | some w15 => (match gtD w15 (fop .mul .f64 4562254508917369340 (floatOfInt .f64 w6)) with | true => (k0 t27) | false => (match decide (0 ≤ (t209 : Int) ∧ (t209 : Int) < ((t28n : Nat) : Int)) with | true => (match l0[0 + (t209).toNat * 1]? with | some e16 => (match (Int.tmod (IntKind.i64.wrap (Int.tdiv (IntKind.i64.wrap ((IntKind.i64.wrap (t5 + t6)) - e16)) 2)) 2) == 1 with | true => (match w8 != (IntKind.i64.wrap (0 - w4)) with | true => (k0 t27) | false => (rq t5 t6 t25 t26 (fop .add .f64 t27 (fop .quo .f64 (floatOfInt .f64 w5) (floatOfInt .f64 w6))) t28n t208 (IntKind.i64.wrap (t209 + 1)) l0)) | false => (match w8 != w4 with | true => (k0 t27) | false => (rq t5 t6 t25 t26 (fop .add .f64 t27 (fop .quo .f64 (floatOfInt .f64 w5) (floatOfInt .f64 w6))) t28n t208 (IntKind.i64.wrap (t209 + 1)) l0))) | none => none) | false => none)) | none => none) | none => none) | none => none))) | none => none) | false => (k0 t27)) | none => none) | false => none) | none => none) | none => none) | none => none) | false => (match decide (0 ≤ (t209 : Int) ∧ (t209 : Int) < ((t28n : Nat) : Int)) with | true => (match l0[0 + (t209).toNat * 1]? with | some e17 => (match canS t5 t25 t6 t26 e17 with | true => (match nmO (α := Nat) (jF (jV t5 t25 t6 t26 e17)) with | some w18 => (k0 t27) | none => none) | false => (k0 t27)) | none => none) | false => none)) | none => none) | false => none) | none => none) | none => none) | none => none) | false => (match decide (0 ≤ (t209 : Int) ∧ (t209 : Int) < ((t28n : Nat) : Int)) with | true => (match l0[0 + (t209).toNat * 1]? with | some e19 => (match canS t5 (IntKind.i64.wrap (0 - t25)) t6 (IntKind.i64.wrap (0 - t26)) e19 with | true => (match nmO (α := Int) ((jV t5 (IntKind.i64.wrap (0 - t25)) t6 (IntKind.i64.wrap (0 - t26)) e19).1) with | some w20 => (match nmO (α := Int) ((jV t5 (IntKind.i64.wrap (0 - t25)) t6 (IntKind.i64.wrap (0 - t26)) e19).2.1) with | some w21 => (match nmO (α := Int) ((jV t5 (IntKind.i64.wrap (0 - t25)) t6 (IntKind.i64.wrap (0 - t26)) e19).2.2) with | some w22 => (match decide (0 ≤ (t209 : Int) ∧ (t209 : Int) < ((t28n : Nat) : Int)) with | true => (match l0[0 + (t209).toNat * 1]? with | some e23 => (match canS t5 t25 t6 t26 e23 with | true => (match nmO (α := Nat) (jF (jV t5 t25 t6 t26 e23)) with | some w24 => (k0 t27) | none => none) | false => (k0 t27)) | none => none) | false => none) | none => none) | none => none) | none => none) | false => (match decide (0 ≤ (t209 : Int) ∧ (t209 : Int) < ((t28n : Nat) : Int)) with | true => (match l0[0 + (t209).toNat * 1]? with | some e25 => (match canS t5 t25 t6 t26 e25 with | true => (match nmO (α := Nat) (jF (jV t5 t25 t6 t26 e25)) with | some w26 => (k0 t27) | none => none) | false => (k0 t27)) | none => none) | false => none)) | none => none) | false => none)) | none => none) | false => none)) | none => none) | false => none)) | none => none) | false => none) | false => (k1 t27))
noncomputable def mr_joiD38 (N : Nat) (k0 : Nat → Option (V × H)) (k1 : Nat → Option (V × H)) (M : Nat) : Int → Int → Int → Int → Nat → Nat → Int → Int → List Int → Option (V × H) := Nat.rec (motive := fun _ => Int → Int → Int → Int → Nat → Nat → Int → Int → List Int → Option (V × H)) (fun (_ : Int) (_ : Int) (_ : Int) (_ : Int) (_ : Nat) (_ : Nat) (_ : Int) (_ : Int) (_ : List Int) => none) (fun _ rq => mb_joiD38 N k0 k1 rq) M
theorem mrs_joiD38 (N : Nat) (k0 : Nat → Option (V × H)) (k1 : Nat → Option (V × H)) (M : Nat) (t5 : Int) (t6 : Int) (t25 : Int) (t26 : Int) (t27 : Nat) (t28n : Nat) (t208 : Int) (t209 : Int) (l0 : List Int) : mr_joiD38 N k0 k1 (M + 1) t5 t6 t25 t26 t27 t28n t208 t209 l0 = mb_joiD38 N k0 k1 (mr_joiD38 N k0 k1 M) t5 t6 t25 t26 t27 t28n t208 t209 l0 := rfl
theorem H_joiD38 (N : Nat) : ∀ (M : Nat) (t5 : Int) (t6 : Int) (t25 : Int) (t26 : Int) (t27 : Nat) (t28n : Nat) (t208 : Int) (t209 : Int) (l0 : List Int), lp_joiD38 N M (st_joiD38 t5 t6 t25 t26 t27 t28n t208 t209 l0) (kt_joiD38 N (kEnd Try.f14 0)) = mr_joiD38 N (ce_joiD38_0 N) (ce_joiD38_1 N) M t5 t6 t25 t26 t27 t28n t208 t209 l0 := by
  have he0 : ∀ (t27 : Nat), kt_joiD38 N (kEnd Try.f14 0) .ret (en_joiD38_0 t27) = ce_joiD38_0 N t27 := by
    intro t27
    rw [end_joiD38_0]
    unfold ce_joiD38_0
    first | (simp only []; done) | (simp only []; kernel_rfl) | rfl
  have he1 : ∀ (t27 : Nat), kt_joiD38 N (kEnd Try.f14 0) (.exit 4) (en_joiD38_1 t27) = ce_joiD38_1 N t27 := by
    intro t27
    rw [end_joiD38_1]
    unfold ce_joiD38_1
    first | (simp only []; done) | (simp only []; kernel_rfl) | rfl
  intro M
  induction M with
  | zero => intros; rfl
  | succ M ih =>
    intro t5 t6 t25 t26 t27 t28n t208 t209 l0
    rw [step_joiD38]
    rw [mrs_joiD38]
    unfold mb_joiD38
    first | (simp only [ih, he0, he1]; done) | (simp only [ih, he0, he1]; kernel_rfl) | rfl
noncomputable def ce_joiD14_0 (N : Nat)  : Int → Int → Int → Int → Option (V × H) := fun (t5 : Int) (t6 : Int) (t17 : Int) (t18 : Int) => some (.bool false, [])
noncomputable def ce_joiD14_1 (N : Nat)  : Int → Int → Int → Int → Option (V × H) := fun (t5 : Int) (t6 : Int) (t17 : Int) (t18 : Int) => (match t17 != 1 with | true => some (.bool false, []) | false => (match t18 != 1 with | true => some (.bool false, []) | false => (match atOk 0 [] 4 with | true => (match nmO (α := Int) (atF [] 4 (IntKind.i64.wrap (t5 + 1))) with | some w1 => (match atOk 0 [] 5 with | true => (match nmO (α := Int) (atF [] 5 (IntKind.i64.wrap (t6 + 1))) with | some w2 => (match is6 t5 && is6 t6 with | true => (match nmO (α := Nat) ((toD t5 t6).length) with | some w3 => (match nmO (α := List Int) ((toD t5 t6)) with | some w4 => (mr_joiD38 N (ce_joiD38_0 N) (ce_joiD38_1 N) N t5 t6 (IntKind.i64.wrap (t5 - (IntKind.i64.wrap (2 * w1)))) (IntKind.i64.wrap (t6 - (IntKind.i64.wrap (2 * w2)))) 0 w3 ((w3 : Nat) : Int) 0 w4) | none => none) | none => none) | false => some (.bool false, [])) | none => none) | false => none) | none => none) | false => none)))
noncomputable def mb_joiD14 (N : Nat) (k0 : Int → Int → Int → Int → Option (V × H)) (k1 : Int → Int → Int → Int → Option (V × H)) (rq : Int → Int → Nat → Nat → Int → Int → Int → Int → List Int → List Int → Option (V × H)) : Int → Int → Nat → Nat → Int → Int → Int → Int → List Int → List Int → Option (V × H) := fun (t5 : Int) (t6 : Int) (t10n : Nat) (t11n : Nat) (t17 : Int) (t18 : Int) (t117 : Int) (t118 : Int) (l0 : List Int) (l1 : List Int) => (match decide ((t118 : Int) < t117) with | true => (match decide (0 ≤ (t118 : Int) ∧ (t118 : Int) < ((t11n : Nat) : Int)) with | true => (match l1[0 + (t118).toNat * 1]? with | some e1 => (match decide ((e1 : Int) < 1) with | true => (k0 t5 t6 t17 t18) | false => (match decide (0 ≤ (t118 : Int) ∧ (t118 : Int) < ((t10n : Nat) : Int)) with | true => (match l0[0 + (t118).toNat * 1]? with | some e2 => (match decide ((e2 : Int) < 0) with | true => (k0 t5 t6 t17 t18) | false => (match decide (0 ≤ (t118 : Int) ∧ (t118 : Int) < ((t10n : Nat) : Int)) with | true => (match l0[0 + (t118).toNat * 1]? with | some e3 => (match decide (0 ≤ (t118 : Int) ∧ (t118 : Int) < ((t11n : Nat) : Int)) with | true => (match l1[0 + (t118).toNat * 1]? with | some e4 => (match decide ((e3 : Int) > e4) with | true => (k0 t5 t6 t17 t18) | false => (match decide (0 ≤ (t118 : Int) ∧ (t118 : Int) < ((t11n : Nat) : Int)) with | true => (match l1[0 + (t118).toNat * 1]? with | some e5 => (match decide (0 ≤ (t118 : Int) ∧ (t118 : Int) < ((t10n : Nat) : Int)) with | true => (match l0[0 + (t118).toNat * 1]? with | some e6 => (match decide (0 ≤ (t118 : Int) ∧ (t118 : Int) < ((t11n : Nat) : Int)) with | true => (match l1[0 + (t118).toNat * 1]? with | some e7 => (mr_joiD22 N (ce_joiD22_0 N (fun t5 t6 t10n t11n t17 t18 t117 t118 l0 l1 => rq t5 t6 t10n t11n t17 t18 t117 t118 l0 l1) k0 k1) N t5 t6 t10n t11n (IntKind.i64.wrap ((IntKind.i64.wrap (t17 * e5)) + (IntKind.i64.wrap (e6 * t18)))) (IntKind.i64.wrap (t18 * e7)) (IntKind.i64.wrap ((IntKind.i64.wrap (t17 * e5)) + (IntKind.i64.wrap (e6 * t18)))) (IntKind.i64.wrap (t18 * e7)) t117 t118 l0 l1) | none => none) | false => none) | none => none) | false => none) | none => none) | false => none)) | none => none) | false => none) | none => none) | false => none)) | none => none) | false => none)) | none => none) | false => none) | false => (k1 t5 t6 t17 t18))
noncomputable def mr_joiD14 (N : Nat) (k0 : Int → Int → Int → Int → Option (V × H)) (k1 : Int → Int → Int → Int → Option (V × H)) (M : Nat) : Int → Int → Nat → Nat → Int → Int → Int → Int → List Int → List Int → Option (V × H) := Nat.rec (motive := fun _ => Int → Int → Nat → Nat → Int → Int → Int → Int → List Int → List Int → Option (V × H)) (fun (_ : Int) (_ : Int) (_ : Nat) (_ : Nat) (_ : Int) (_ : Int) (_ : Int) (_ : Int) (_ : List Int) (_ : List Int) => none) (fun _ rq => mb_joiD14 N k0 k1 rq) M
theorem mrs_joiD14 (N : Nat) (k0 : Int → Int → Int → Int → Option (V × H)) (k1 : Int → Int → Int → Int → Option (V × H)) (M : Nat) (t5 : Int) (t6 : Int) (t10n : Nat) (t11n : Nat) (t17 : Int) (t18 : Int) (t117 : Int) (t118 : Int) (l0 : List Int) (l1 : List Int) : mr_joiD14 N k0 k1 (M + 1) t5 t6 t10n t11n t17 t18 t117 t118 l0 l1 = mb_joiD14 N k0 k1 (mr_joiD14 N k0 k1 M) t5 t6 t10n t11n t17 t18 t117 t118 l0 l1 := rfl
theorem H_joiD14 (N : Nat) : ∀ (M : Nat) (t5 : Int) (t6 : Int) (t10n : Nat) (t11n : Nat) (t17 : Int) (t18 : Int) (t117 : Int) (t118 : Int) (l0 : List Int) (l1 : List Int), lp_joiD14 N M (st_joiD14 t5 t6 t10n t11n t17 t18 t117 t118 l0 l1) (kt_joiD14 N (kEnd Try.f14 0)) = mr_joiD14 N (ce_joiD14_0 N) (ce_joiD14_1 N) M t5 t6 t10n t11n t17 t18 t117 t118 l0 l1 := by
  have he0 : ∀ (t5 : Int) (t6 : Int) (t17 : Int) (t18 : Int), kt_joiD14 N (kEnd Try.f14 0) .ret (en_joiD14_0 t5 t6 t17 t18) = ce_joiD14_0 N t5 t6 t17 t18 := by
    intro t5 t6 t17 t18
    rw [end_joiD14_0]
    unfold ce_joiD14_0
    first | (simp only []; done) | (simp only []; kernel_rfl) | rfl
  have he1 : ∀ (t5 : Int) (t6 : Int) (t17 : Int) (t18 : Int), kt_joiD14 N (kEnd Try.f14 0) (.exit 0) (en_joiD14_1 t5 t6 t17 t18) = ce_joiD14_1 N t5 t6 t17 t18 := by
    intro t5 t6 t17 t18
    rw [end_joiD14_1]
    unfold ce_joiD14_1
    first | (simp only [H_joiD38 N N]; done) | (simp only [H_joiD38 N N]; kernel_rfl) | rfl
  intro M
  induction M with
  | zero => intros; rfl
  | succ M ih =>
    intro t5 t6 t10n t11n t17 t18 t117 t118 l0 l1
    rw [step_joiD14]
    have hc22 := H_joiD22 N M (kt_joiD14 N (kEnd Try.f14 0)) (fun t5 t6 t10n t11n t17 t18 t117 t118 l0 l1 => mr_joiD14 N (ce_joiD14_0 N) (ce_joiD14_1 N) M t5 t6 t10n t11n t17 t18 t117 t118 l0 l1) (ce_joiD14_0 N) (ce_joiD14_1 N) (fun t5 t6 t10n t11n t17 t18 t117 t118 l0 l1 => ih t5 t6 t10n t11n t17 t18 t117 t118 l0 l1) he0 he1
    rw [mrs_joiD14]
    unfold mb_joiD14
    first | (simp only [ih, he0, he1, hc22 N]; done) | (simp only [ih, he0, he1, hc22 N]; kernel_rfl) | rfl
noncomputable def md_joiD (N : Nat)  : Option (V × H) := (match nmO (α := Bool) (longB 0 0) with | some w1 => (match w1 with | true => some (.bool true, []) | false => (match atOk 0 [] 0 with | true => (match nmO (α := Int) (atF [] 0 7) with | some w2 => (match atOk 0 [] 1 with | true => (match nmO (α := Int) (atF [] 1 7) with | some w3 => (match atOk 0 [] 2 with | true => (match nmO (α := Int) (atF [] 2 (IntKind.i64.wrap ((if w3 < w2 then w3 else w2) + 1))) with | some w4 => (match atOk 0 [] 3 with | true => (match nmO (α := Int) (atF [] 3 (IntKind.i64.wrap ((IntKind.i64.wrap ((IntKind.i64.wrap (w2 + w3)) - (IntKind.i64.wrap (2 * w4)))) + 1))) with | some w5 => (match rowS w2 w3 (IntKind.i64.wrap ((IntKind.i64.wrap (w2 + w3)) - (IntKind.i64.wrap (2 * w4)))) (IntKind.i64.wrap ((IntKind.i64.wrap ((IntKind.i64.wrap (w2 + w3)) - (IntKind.i64.wrap (2 * w4)))) - (IntKind.i64.wrap (2 * w5)))) with | true => (match nmO (α := Nat) ((jrD w2 w3 (IntKind.i64.wrap ((IntKind.i64.wrap (w2 + w3)) - (IntKind.i64.wrap (2 * w4)))) (IntKind.i64.wrap ((IntKind.i64.wrap ((IntKind.i64.wrap (w2 + w3)) - (IntKind.i64.wrap (2 * w4)))) - (IntKind.i64.wrap (2 * w5))))).1.length) with | some w6 => (match nmO (α := Nat) ((jrD w2 w3 (IntKind.i64.wrap ((IntKind.i64.wrap (w2 + w3)) - (IntKind.i64.wrap (2 * w4)))) (IntKind.i64.wrap ((IntKind.i64.wrap ((IntKind.i64.wrap (w2 + w3)) - (IntKind.i64.wrap (2 * w4)))) - (IntKind.i64.wrap (2 * w5))))).2.1.length) with | some w7 => (match nmO (α := Nat) ((jrD w2 w3 (IntKind.i64.wrap ((IntKind.i64.wrap (w2 + w3)) - (IntKind.i64.wrap (2 * w4)))) (IntKind.i64.wrap ((IntKind.i64.wrap ((IntKind.i64.wrap (w2 + w3)) - (IntKind.i64.wrap (2 * w4)))) - (IntKind.i64.wrap (2 * w5))))).2.2.length) with | some w8 => (match nmO (α := List Int) ((jrD w2 w3 (IntKind.i64.wrap ((IntKind.i64.wrap (w2 + w3)) - (IntKind.i64.wrap (2 * w4)))) (IntKind.i64.wrap ((IntKind.i64.wrap ((IntKind.i64.wrap (w2 + w3)) - (IntKind.i64.wrap (2 * w4)))) - (IntKind.i64.wrap (2 * w5))))).1) with | some w9 => (match nmO (α := List Int) ((jrD w2 w3 (IntKind.i64.wrap ((IntKind.i64.wrap (w2 + w3)) - (IntKind.i64.wrap (2 * w4)))) (IntKind.i64.wrap ((IntKind.i64.wrap ((IntKind.i64.wrap (w2 + w3)) - (IntKind.i64.wrap (2 * w4)))) - (IntKind.i64.wrap (2 * w5))))).2.1) with | some w10 => (match nmO (α := List Int) ((jrD w2 w3 (IntKind.i64.wrap ((IntKind.i64.wrap (w2 + w3)) - (IntKind.i64.wrap (2 * w4)))) (IntKind.i64.wrap ((IntKind.i64.wrap ((IntKind.i64.wrap (w2 + w3)) - (IntKind.i64.wrap (2 * w4)))) - (IntKind.i64.wrap (2 * w5))))).2.2) with | some w11 => (match rowS w2 w3 (IntKind.i64.wrap ((IntKind.i64.wrap (w2 + w3)) - (IntKind.i64.wrap (2 * w4)))) (IntKind.i64.wrap ((IntKind.i64.wrap ((IntKind.i64.wrap (w2 + w3)) - (IntKind.i64.wrap (2 * w4)))) - (IntKind.i64.wrap (2 * w5)))) with | true => (match nmO (α := Nat) ((jrD w2 w3 (IntKind.i64.wrap ((IntKind.i64.wrap (w2 + w3)) - (IntKind.i64.wrap (2 * w4)))) (IntKind.i64.wrap ((IntKind.i64.wrap ((IntKind.i64.wrap (w2 + w3)) - (IntKind.i64.wrap (2 * w4)))) - (IntKind.i64.wrap (2 * w5))))).1.length) with | some w12 => (match nmO (α := Nat) ((jrD w2 w3 (IntKind.i64.wrap ((IntKind.i64.wrap (w2 + w3)) - (IntKind.i64.wrap (2 * w4)))) (IntKind.i64.wrap ((IntKind.i64.wrap ((IntKind.i64.wrap (w2 + w3)) - (IntKind.i64.wrap (2 * w4)))) - (IntKind.i64.wrap (2 * w5))))).2.1.length) with | some w13 => (match nmO (α := Nat) ((jrD w2 w3 (IntKind.i64.wrap ((IntKind.i64.wrap (w2 + w3)) - (IntKind.i64.wrap (2 * w4)))) (IntKind.i64.wrap ((IntKind.i64.wrap ((IntKind.i64.wrap (w2 + w3)) - (IntKind.i64.wrap (2 * w4)))) - (IntKind.i64.wrap (2 * w5))))).2.2.length) with | some w14 => (match nmO (α := List Int) ((jrD w2 w3 (IntKind.i64.wrap ((IntKind.i64.wrap (w2 + w3)) - (IntKind.i64.wrap (2 * w4)))) (IntKind.i64.wrap ((IntKind.i64.wrap ((IntKind.i64.wrap (w2 + w3)) - (IntKind.i64.wrap (2 * w4)))) - (IntKind.i64.wrap (2 * w5))))).1) with | some w15 => (match nmO (α := List Int) ((jrD w2 w3 (IntKind.i64.wrap ((IntKind.i64.wrap (w2 + w3)) - (IntKind.i64.wrap (2 * w4)))) (IntKind.i64.wrap ((IntKind.i64.wrap ((IntKind.i64.wrap (w2 + w3)) - (IntKind.i64.wrap (2 * w4)))) - (IntKind.i64.wrap (2 * w5))))).2.1) with | some w16 => (match nmO (α := List Int) ((jrD w2 w3 (IntKind.i64.wrap ((IntKind.i64.wrap (w2 + w3)) - (IntKind.i64.wrap (2 * w4)))) (IntKind.i64.wrap ((IntKind.i64.wrap ((IntKind.i64.wrap (w2 + w3)) - (IntKind.i64.wrap (2 * w4)))) - (IntKind.i64.wrap (2 * w5))))).2.2) with | some w17 => (match eqOk w6 w12 w9 w15 with | true => (match nmO (α := Bool) (eqIB w9 w15) with | some w18 => (match !w18 with | true => some (.bool false, []) | false => (match eqOk w7 w13 w10 w16 with | true => (match nmO (α := Bool) (eqIB w10 w16) with | some w19 => (match !w19 with | true => some (.bool false, []) | false => (match eqOk w8 w14 w11 w17 with | true => (match nmO (α := Bool) (eqIB w11 w17) with | some w20 => (match !w20 with | true => some (.bool false, []) | false => (match decide ((((w7 : Nat) : Int) : Int) < 1) with | true => some (.bool false, []) | false => (mr_joiD14 N (ce_joiD14_0 N) (ce_joiD14_1 N) N w2 w3 w7 w8 0 1 ((w7 : Nat) : Int) 0 w10 w11))) | none => none) | false => none)) | none => none) | false => none)) | none => none) | false => none) | none => none) | none => none) | none => none) | none => none) | none => none) | none => none) | false => some (.bool false, [])) | none => none) | none => none) | none => none) | none => none) | none => none) | none => none) | false => (match rowS w2 w3 (IntKind.i64.wrap ((IntKind.i64.wrap (w2 + w3)) - (IntKind.i64.wrap (2 * w4)))) (IntKind.i64.wrap ((IntKind.i64.wrap ((IntKind.i64.wrap (w2 + w3)) - (IntKind.i64.wrap (2 * w4)))) - (IntKind.i64.wrap (2 * w5)))) with | true => (match nmO (α := Nat) ((jrD w2 w3 (IntKind.i64.wrap ((IntKind.i64.wrap (w2 + w3)) - (IntKind.i64.wrap (2 * w4)))) (IntKind.i64.wrap ((IntKind.i64.wrap ((IntKind.i64.wrap (w2 + w3)) - (IntKind.i64.wrap (2 * w4)))) - (IntKind.i64.wrap (2 * w5))))).1.length) with | some w21 => (match nmO (α := Nat) ((jrD w2 w3 (IntKind.i64.wrap ((IntKind.i64.wrap (w2 + w3)) - (IntKind.i64.wrap (2 * w4)))) (IntKind.i64.wrap ((IntKind.i64.wrap ((IntKind.i64.wrap (w2 + w3)) - (IntKind.i64.wrap (2 * w4)))) - (IntKind.i64.wrap (2 * w5))))).2.1.length) with | some w22 => (match nmO (α := Nat) ((jrD w2 w3 (IntKind.i64.wrap ((IntKind.i64.wrap (w2 + w3)) - (IntKind.i64.wrap (2 * w4)))) (IntKind.i64.wrap ((IntKind.i64.wrap ((IntKind.i64.wrap (w2 + w3)) - (IntKind.i64.wrap (2 * w4)))) - (IntKind.i64.wrap (2 * w5))))).2.2.length) with | some w23 => (match nmO (α := List Int) ((jrD w2 w3 (IntKind.i64.wrap ((IntKind.i64.wrap (w2 + w3)) - (IntKind.i64.wrap (2 * w4)))) (IntKind.i64.wrap ((IntKind.i64.wrap ((IntKind.i64.wrap (w2 + w3)) - (IntKind.i64.wrap (2 * w4)))) - (IntKind.i64.wrap (2 * w5))))).1) with | some w24 => (match nmO (α := List Int) ((jrD w2 w3 (IntKind.i64.wrap ((IntKind.i64.wrap (w2 + w3)) - (IntKind.i64.wrap (2 * w4)))) (IntKind.i64.wrap ((IntKind.i64.wrap ((IntKind.i64.wrap (w2 + w3)) - (IntKind.i64.wrap (2 * w4)))) - (IntKind.i64.wrap (2 * w5))))).2.1) with | some w25 => (match nmO (α := List Int) ((jrD w2 w3 (IntKind.i64.wrap ((IntKind.i64.wrap (w2 + w3)) - (IntKind.i64.wrap (2 * w4)))) (IntKind.i64.wrap ((IntKind.i64.wrap ((IntKind.i64.wrap (w2 + w3)) - (IntKind.i64.wrap (2 * w4)))) - (IntKind.i64.wrap (2 * w5))))).2.2) with | some w26 => some (.bool false, []) | none => none) | none => none) | none => none) | none => none) | none => none) | none => none) | false => some (.bool false, []))) | none => none) | false => none) | none => none) | false => none) | none => none) | false => none) | none => none) | false => none)) | none => none)
theorem mdl_joiD (N : Nat)  : run ty tab_joiD an_joiD N Try.f14 [.nil, .nil] [] = md_joiD N  := by
  rw [run_joiD]
  unfold md_joiD
  first | (simp only [H_joiD14 N N]; done) | (simp only [H_joiD14 N N]; kernel_rfl) | rfl
def an_joiA : Ann := ⟨fun r => if r = 14 then some ([1, 5, 6, 10, 11, 17, 18, 117, 118], [1, 4, 5, 6, 17, 18]) else if r = 22 then some ([1, 5, 6, 10, 11, 20, 21, 22, 23, 117, 118], [1, 5, 6, 10, 11, 20, 21, 22, 117, 118]) else if r = 38 then some ([5, 6, 25, 26, 27, 28, 208, 209], [4, 27]) else none, fun _ _ => .quiet⟩
def tab_joiA : Fns := tabT [(57, gLong), (58, gAt), (52, gJr), (51, gJr), (60, gInts), (64, gTo), (33, gJoin), (56, gJnu), (61, gGap)]
theorem tabok_joiA : ∀ f, FnT Try.prog f (tab_joiA f) := (tabT_cons (k := 57) ok_Long (tabT_cons (k := 58) ok_At (tabT_cons (k := 52) ok_jrI (tabT_cons (k := 51) ok_jrS (tabT_cons (k := 60) ok_Ints (tabT_cons (k := 64) ok_toS (tabT_cons (k := 33) ok_jsI (tabT_cons (k := 56) ok_jnI (tabT_cons (k := 61) ok_Gap tabT_nil)))))))))
def st_joiA14 (t1n : Nat) (t5 : Int) (t6 : Int) (t10n : Nat) (t11n : Nat) (t17 : Int) (t18 : Int) (t117 : Int) (t118 : Int) (l0 : List Int) (l1 : List Int) (l2 : List Int) (l3 : List Int) : St := ⟨(.any :: .sl 1 0 t1n :: .any :: .any :: .any :: .int .i64 t5 :: .int .i64 t6 :: .any :: .any :: .any :: .sl 2 0 t10n :: .sl 3 0 t11n :: .any :: .any :: .any :: .any :: .any :: .int .i64 t17 :: .int .i64 t18 :: (anys 98 (.int .i64 t117 :: .int .i64 t118 :: (anys 219 [])))), [.at false (.int .u8 l0), .at false (.int .u8 l1), .at true (.int .i64 l2), .at true (.int .i64 l3)]⟩
abbrev kp_joiA14 : Option (List Nat × List Nat) := some ([1, 5, 6, 10, 11, 17, 18, 117, 118], [1, 4, 5, 6, 17, 18])
noncomputable def lp_joiA14 {R : Type} (N M : Nat) (s : St) (K : X → St → Option R) : Option R := loopH 2 kp_joiA14 (fun st K => exec ty tab_joiA an_joiA N 2 (atOf [true, true, true, true, true, true, true, true, true, true, true, false, true, false, false] Try.f14) st K) M s K
noncomputable def bk_joiA14 {R : Type} (N M : Nat) (K : X → St → Option R) : X → St → Option R := fun x st => match x with | .norm => tidyK 2 (kp_joiA14.map (·.1)) st fun st => lp_joiA14 N M st K | x => tidyK 2 (kp_joiA14.map (·.2)) st fun st => K x st
noncomputable def kt_joiA14 {R : Type} (N : Nat) (K : X → St → Option R) : X → St → Option R := kBlkR 0 (kSeqR tab_joiA an_joiA N 2 (atOf [true, true, true, true, true, true, true, true, true, true, true, true] Try.f14) (K))
def st_joiA22 (t1n : Nat) (t5 : Int) (t6 : Int) (t10n : Nat) (t11n : Nat) (t20 : Int) (t21 : Int) (t22 : Int) (t23 : Int) (t117 : Int) (t118 : Int) (l0 : List Int) (l1 : List Int) (l2 : List Int) (l3 : List Int) : St := ⟨(.any :: .sl 1 0 t1n :: .any :: .any :: .any :: .int .i64 t5 :: .int .i64 t6 :: .any :: .any :: .any :: .sl 2 0 t10n :: .sl 3 0 t11n :: (anys 8 (.int .i64 t20 :: .int .i64 t21 :: .int .i64 t22 :: .int .i64 t23 :: (anys 93 (.int .i64 t117 :: .int .i64 t118 :: (anys 219 [])))))), [.at false (.int .u8 l0), .at false (.int .u8 l1), .at true (.int .i64 l2), .at true (.int .i64 l3)]⟩
abbrev kp_joiA22 : Option (List Nat × List Nat) := some ([1, 5, 6, 10, 11, 20, 21, 22, 23, 117, 118], [1, 5, 6, 10, 11, 20, 21, 22, 117, 118])
noncomputable def lp_joiA22 {R : Type} (N M : Nat) (s : St) (K : X → St → Option R) : Option R := loopH 2 kp_joiA22 (fun st K => exec ty tab_joiA an_joiA N 2 (atOf [true, true, true, true, true, true, true, true, true, true, true, false, true, false, false, true, true, false, false, true, true, true, true, true, true, false, false, false] Try.f14) st K) M s K
noncomputable def kt_joiA22 {R : Type} (N : Nat) (K : X → St → Option R) : X → St → Option R := kBlkR 2 (kSeqR tab_joiA an_joiA N 2 (atOf [true, true, true, true, true, true, true, true, true, true, true, false, true, false, false, true, true, false, false, true, true, true, true, true, true, true] Try.f14) (kBlkR 1 (kSeqR tab_joiA an_joiA N 2 (atOf [true, true, true, true, true, true, true, true, true, true, true, false, true, false, false, true, true, true] Try.f14) (K))))
def st_joiA38 (t5 : Int) (t6 : Int) (t25 : Int) (t26 : Int) (t27 : Nat) (t28n : Nat) (t208 : Int) (t209 : Int) (l0 : List Int) (l1 : List Int) (l2 : List Int) : St := ⟨(.any :: .any :: .any :: .any :: .any :: .int .i64 t5 :: .int .i64 t6 :: (anys 18 (.int .i64 t25 :: .int .i64 t26 :: .fl .f64 t27 :: .sl 2 0 t28n :: (anys 179 (.int .i64 t208 :: .int .i64 t209 :: (anys 128 [])))))), [.at false (.int .u8 l0), .at false (.int .u8 l1), .at true (.int .i64 l2)]⟩
abbrev kp_joiA38 : Option (List Nat × List Nat) := some ([5, 6, 25, 26, 27, 28, 208, 209], [4, 27])
noncomputable def lp_joiA38 {R : Type} (N M : Nat) (s : St) (K : X → St → Option R) : Option R := loopH 2 kp_joiA38 (fun st K => exec ty tab_joiA an_joiA N 2 (atOf [true, true, true, true, true, true, true, true, true, true, true, true, true, true, true, true, true, true, false, true, false, false] Try.f14) st K) M s K
noncomputable def kt_joiA38 {R : Type} (N : Nat) (K : X → St → Option R) : X → St → Option R := kBlkR 4 (kSeqR tab_joiA an_joiA N 2 (atOf [true, true, true, true, true, true, true, true, true, true, true, true, true, true, true, true, true, true, true] Try.f14) (K))
def en_joiA14_0 (t1n : Nat) (t5 : Int) (t6 : Int) (t17 : Int) (t18 : Int) (l0 : List Int) (l1 : List Int) : St := ⟨(.any :: .sl 1 0 t1n :: .any :: .any :: .bool false :: .int .i64 t5 :: .int .i64 t6 :: (anys 10 (.int .i64 t17 :: .int .i64 t18 :: (anys 319 [])))), [.at false (.int .u8 l0), .at false (.int .u8 l1)]⟩
def en_joiA14_1 (t1n : Nat) (t5 : Int) (t6 : Int) (t17 : Int) (t18 : Int) (l0 : List Int) (l1 : List Int) : St := ⟨(.any :: .sl 1 0 t1n :: .any :: .any :: .any :: .int .i64 t5 :: .int .i64 t6 :: (anys 10 (.int .i64 t17 :: .int .i64 t18 :: (anys 319 [])))), [.at false (.int .u8 l0), .at false (.int .u8 l1)]⟩
def en_joiA22_0 (t1n : Nat) (t5 : Int) (t6 : Int) (t10n : Nat) (t11n : Nat) (t20 : Int) (t21 : Int) (t22 : Int) (t117 : Int) (t118 : Int) (l0 : List Int) (l1 : List Int) (l2 : List Int) (l3 : List Int) : St := ⟨(.any :: .sl 1 0 t1n :: .any :: .any :: .any :: .int .i64 t5 :: .int .i64 t6 :: .any :: .any :: .any :: .sl 2 0 t10n :: .sl 3 0 t11n :: (anys 8 (.int .i64 t20 :: .int .i64 t21 :: .int .i64 t22 :: (anys 94 (.int .i64 t117 :: .int .i64 t118 :: (anys 219 [])))))), [.at false (.int .u8 l0), .at false (.int .u8 l1), .at true (.int .i64 l2), .at true (.int .i64 l3)]⟩
def en_joiA38_0 (t27 : Nat) (l0 : List Int) (l1 : List Int) : St := ⟨(.any :: .any :: .any :: .any :: .bool false :: (anys 22 (.fl .f64 t27 :: (anys 310 [])))), [.at false (.int .u8 l0), .at false (.int .u8 l1)]⟩
def en_joiA38_1 (t27 : Nat) (l0 : List Int) (l1 : List Int) : St := ⟨(anys 27 (.fl .f64 t27 :: (anys 310 []))), [.at false (.int .u8 l0), .at false (.int .u8 l1)]⟩
theorem run_joiA (N : Nat) (n : Nat) (m : Nat) (l0 : List Int) (l1 : List Int) : run ty tab_joiA an_joiA N Try.f14 [.sl 0 0 n, .sl 1 0 m] [.at false (.int .u8 l0), .at false (.int .u8 l1)]
    = (match nmO (α := Bool) (longB n m) with | some w1 => (match w1 with | true => some (.bool true, [.at false (.int .u8 l0), .at false (.int .u8 l1)]) | false => (match atOk m l1 0 with | true => (match nmO (α := Int) (atF l1 0 7) with | some w2 => (match atOk m l1 1 with | true => (match nmO (α := Int) (atF l1 1 7) with | some w3 => (match atOk m l1 2 with | true => (match nmO (α := Int) (atF l1 2 (IntKind.i64.wrap ((if w3 < w2 then w3 else w2) + 1))) with | some w4 => (match atOk m l1 3 with | true => (match nmO (α := Int) (atF l1 3 (IntKind.i64.wrap ((IntKind.i64.wrap ((IntKind.i64.wrap (w2 + w3)) - (IntKind.i64.wrap (2 * w4)))) + 1))) with | some w5 => (match rowS w2 w3 (IntKind.i64.wrap ((IntKind.i64.wrap (w2 + w3)) - (IntKind.i64.wrap (2 * w4)))) (IntKind.i64.wrap ((IntKind.i64.wrap ((IntKind.i64.wrap (w2 + w3)) - (IntKind.i64.wrap (2 * w4)))) - (IntKind.i64.wrap (2 * w5)))) with | true => (match nmO (α := Nat) ((jrD w2 w3 (IntKind.i64.wrap ((IntKind.i64.wrap (w2 + w3)) - (IntKind.i64.wrap (2 * w4)))) (IntKind.i64.wrap ((IntKind.i64.wrap ((IntKind.i64.wrap (w2 + w3)) - (IntKind.i64.wrap (2 * w4)))) - (IntKind.i64.wrap (2 * w5))))).1.length) with | some w6 => (match nmO (α := Nat) ((jrD w2 w3 (IntKind.i64.wrap ((IntKind.i64.wrap (w2 + w3)) - (IntKind.i64.wrap (2 * w4)))) (IntKind.i64.wrap ((IntKind.i64.wrap ((IntKind.i64.wrap (w2 + w3)) - (IntKind.i64.wrap (2 * w4)))) - (IntKind.i64.wrap (2 * w5))))).2.1.length) with | some w7 => (match nmO (α := Nat) ((jrD w2 w3 (IntKind.i64.wrap ((IntKind.i64.wrap (w2 + w3)) - (IntKind.i64.wrap (2 * w4)))) (IntKind.i64.wrap ((IntKind.i64.wrap ((IntKind.i64.wrap (w2 + w3)) - (IntKind.i64.wrap (2 * w4)))) - (IntKind.i64.wrap (2 * w5))))).2.2.length) with | some w8 => (match nmO (α := List Int) ((jrD w2 w3 (IntKind.i64.wrap ((IntKind.i64.wrap (w2 + w3)) - (IntKind.i64.wrap (2 * w4)))) (IntKind.i64.wrap ((IntKind.i64.wrap ((IntKind.i64.wrap (w2 + w3)) - (IntKind.i64.wrap (2 * w4)))) - (IntKind.i64.wrap (2 * w5))))).1) with | some w9 => (match nmO (α := List Int) ((jrD w2 w3 (IntKind.i64.wrap ((IntKind.i64.wrap (w2 + w3)) - (IntKind.i64.wrap (2 * w4)))) (IntKind.i64.wrap ((IntKind.i64.wrap ((IntKind.i64.wrap (w2 + w3)) - (IntKind.i64.wrap (2 * w4)))) - (IntKind.i64.wrap (2 * w5))))).2.1) with | some w10 => (match nmO (α := List Int) ((jrD w2 w3 (IntKind.i64.wrap ((IntKind.i64.wrap (w2 + w3)) - (IntKind.i64.wrap (2 * w4)))) (IntKind.i64.wrap ((IntKind.i64.wrap ((IntKind.i64.wrap (w2 + w3)) - (IntKind.i64.wrap (2 * w4)))) - (IntKind.i64.wrap (2 * w5))))).2.2) with | some w11 => (match rowS w2 w3 (IntKind.i64.wrap ((IntKind.i64.wrap (w2 + w3)) - (IntKind.i64.wrap (2 * w4)))) (IntKind.i64.wrap ((IntKind.i64.wrap ((IntKind.i64.wrap (w2 + w3)) - (IntKind.i64.wrap (2 * w4)))) - (IntKind.i64.wrap (2 * w5)))) with | true => (match nmO (α := Nat) ((jrD w2 w3 (IntKind.i64.wrap ((IntKind.i64.wrap (w2 + w3)) - (IntKind.i64.wrap (2 * w4)))) (IntKind.i64.wrap ((IntKind.i64.wrap ((IntKind.i64.wrap (w2 + w3)) - (IntKind.i64.wrap (2 * w4)))) - (IntKind.i64.wrap (2 * w5))))).1.length) with | some w12 => (match nmO (α := Nat) ((jrD w2 w3 (IntKind.i64.wrap ((IntKind.i64.wrap (w2 + w3)) - (IntKind.i64.wrap (2 * w4)))) (IntKind.i64.wrap ((IntKind.i64.wrap ((IntKind.i64.wrap (w2 + w3)) - (IntKind.i64.wrap (2 * w4)))) - (IntKind.i64.wrap (2 * w5))))).2.1.length) with | some w13 => (match nmO (α := Nat) ((jrD w2 w3 (IntKind.i64.wrap ((IntKind.i64.wrap (w2 + w3)) - (IntKind.i64.wrap (2 * w4)))) (IntKind.i64.wrap ((IntKind.i64.wrap ((IntKind.i64.wrap (w2 + w3)) - (IntKind.i64.wrap (2 * w4)))) - (IntKind.i64.wrap (2 * w5))))).2.2.length) with | some w14 => (match nmO (α := List Int) ((jrD w2 w3 (IntKind.i64.wrap ((IntKind.i64.wrap (w2 + w3)) - (IntKind.i64.wrap (2 * w4)))) (IntKind.i64.wrap ((IntKind.i64.wrap ((IntKind.i64.wrap (w2 + w3)) - (IntKind.i64.wrap (2 * w4)))) - (IntKind.i64.wrap (2 * w5))))).1) with | some w15 => (match nmO (α := List Int) ((jrD w2 w3 (IntKind.i64.wrap ((IntKind.i64.wrap (w2 + w3)) - (IntKind.i64.wrap (2 * w4)))) (IntKind.i64.wrap ((IntKind.i64.wrap ((IntKind.i64.wrap (w2 + w3)) - (IntKind.i64.wrap (2 * w4)))) - (IntKind.i64.wrap (2 * w5))))).2.1) with | some w16 => (match nmO (α := List Int) ((jrD w2 w3 (IntKind.i64.wrap ((IntKind.i64.wrap (w2 + w3)) - (IntKind.i64.wrap (2 * w4)))) (IntKind.i64.wrap ((IntKind.i64.wrap ((IntKind.i64.wrap (w2 + w3)) - (IntKind.i64.wrap (2 * w4)))) - (IntKind.i64.wrap (2 * w5))))).2.2) with | some w17 => (match eqOk w6 w12 w9 w15 with | true => (match nmO (α := Bool) (eqIB w9 w15) with | some w18 => (match !w18 with | true => some (.bool false, [.at false (.int .u8 l0), .at false (.int .u8 l1)]) | false => (match eqOk w7 w13 w10 w16 with | true => (match nmO (α := Bool) (eqIB w10 w16) with | some w19 => (match !w19 with | true => some (.bool false, [.at false (.int .u8 l0), .at false (.int .u8 l1)]) | false => (match eqOk w8 w14 w11 w17 with | true => (match nmO (α := Bool) (eqIB w11 w17) with | some w20 => (match !w20 with | true => some (.bool false, [.at false (.int .u8 l0), .at false (.int .u8 l1)]) | false => (match decide ((((w7 : Nat) : Int) : Int) < 1) with | true => some (.bool false, [.at false (.int .u8 l0), .at false (.int .u8 l1)]) | false => lp_joiA14 N N (st_joiA14 m w2 w3 w7 w8 0 1 ((w7 : Nat) : Int) 0 l0 l1 w10 w11) (kt_joiA14 N (kEnd Try.f14 2)))) | none => none) | false => none)) | none => none) | false => none)) | none => none) | false => none) | none => none) | none => none) | none => none) | none => none) | none => none) | none => none) | false => some (.bool false, [.at false (.int .u8 l0), .at false (.int .u8 l1)])) | none => none) | none => none) | none => none) | none => none) | none => none) | none => none) | false => (match rowS w2 w3 (IntKind.i64.wrap ((IntKind.i64.wrap (w2 + w3)) - (IntKind.i64.wrap (2 * w4)))) (IntKind.i64.wrap ((IntKind.i64.wrap ((IntKind.i64.wrap (w2 + w3)) - (IntKind.i64.wrap (2 * w4)))) - (IntKind.i64.wrap (2 * w5)))) with | true => (match nmO (α := Nat) ((jrD w2 w3 (IntKind.i64.wrap ((IntKind.i64.wrap (w2 + w3)) - (IntKind.i64.wrap (2 * w4)))) (IntKind.i64.wrap ((IntKind.i64.wrap ((IntKind.i64.wrap (w2 + w3)) - (IntKind.i64.wrap (2 * w4)))) - (IntKind.i64.wrap (2 * w5))))).1.length) with | some w21 => (match nmO (α := Nat) ((jrD w2 w3 (IntKind.i64.wrap ((IntKind.i64.wrap (w2 + w3)) - (IntKind.i64.wrap (2 * w4)))) (IntKind.i64.wrap ((IntKind.i64.wrap ((IntKind.i64.wrap (w2 + w3)) - (IntKind.i64.wrap (2 * w4)))) - (IntKind.i64.wrap (2 * w5))))).2.1.length) with | some w22 => (match nmO (α := Nat) ((jrD w2 w3 (IntKind.i64.wrap ((IntKind.i64.wrap (w2 + w3)) - (IntKind.i64.wrap (2 * w4)))) (IntKind.i64.wrap ((IntKind.i64.wrap ((IntKind.i64.wrap (w2 + w3)) - (IntKind.i64.wrap (2 * w4)))) - (IntKind.i64.wrap (2 * w5))))).2.2.length) with | some w23 => (match nmO (α := List Int) ((jrD w2 w3 (IntKind.i64.wrap ((IntKind.i64.wrap (w2 + w3)) - (IntKind.i64.wrap (2 * w4)))) (IntKind.i64.wrap ((IntKind.i64.wrap ((IntKind.i64.wrap (w2 + w3)) - (IntKind.i64.wrap (2 * w4)))) - (IntKind.i64.wrap (2 * w5))))).1) with | some w24 => (match nmO (α := List Int) ((jrD w2 w3 (IntKind.i64.wrap ((IntKind.i64.wrap (w2 + w3)) - (IntKind.i64.wrap (2 * w4)))) (IntKind.i64.wrap ((IntKind.i64.wrap ((IntKind.i64.wrap (w2 + w3)) - (IntKind.i64.wrap (2 * w4)))) - (IntKind.i64.wrap (2 * w5))))).2.1) with | some w25 => (match nmO (α := List Int) ((jrD w2 w3 (IntKind.i64.wrap ((IntKind.i64.wrap (w2 + w3)) - (IntKind.i64.wrap (2 * w4)))) (IntKind.i64.wrap ((IntKind.i64.wrap ((IntKind.i64.wrap (w2 + w3)) - (IntKind.i64.wrap (2 * w4)))) - (IntKind.i64.wrap (2 * w5))))).2.2) with | some w26 => some (.bool false, [.at false (.int .u8 l0), .at false (.int .u8 l1)]) | none => none) | none => none) | none => none) | none => none) | none => none) | none => none) | false => some (.bool false, [.at false (.int .u8 l0), .at false (.int .u8 l1)]))) | none => none) | false => none) | none => none) | false => none) | none => none) | false => none) | none => none) | false => none)) | none => none) := by
  kernel_rfl
theorem step_joiA14 {R : Type} (N M : Nat) (K : X → St → Option R) (t1n : Nat) (t5 : Int) (t6 : Int) (t10n : Nat) (t11n : Nat) (t17 : Int) (t18 : Int) (t117 : Int) (t118 : Int) (l0 : List Int) (l1 : List Int) (l2 : List Int) (l3 : List Int) : lp_joiA14 N (M + 1) (st_joiA14 t1n t5 t6 t10n t11n t17 t18 t117 t118 l0 l1 l2 l3) K
    = (match decide ((t118 : Int) < t117) with | true => (match decide (0 ≤ (t118 : Int) ∧ (t118 : Int) < ((t11n : Nat) : Int)) with | true => (match l3[0 + (t118).toNat * 1]? with | some e1 => (match decide ((e1 : Int) < 1) with | true => K .ret (en_joiA14_0 t1n t5 t6 t17 t18 l0 l1) | false => (match decide (0 ≤ (t118 : Int) ∧ (t118 : Int) < ((t10n : Nat) : Int)) with | true => (match l2[0 + (t118).toNat * 1]? with | some e2 => (match decide ((e2 : Int) < 0) with | true => K .ret (en_joiA14_0 t1n t5 t6 t17 t18 l0 l1) | false => (match decide (0 ≤ (t118 : Int) ∧ (t118 : Int) < ((t10n : Nat) : Int)) with | true => (match l2[0 + (t118).toNat * 1]? with | some e3 => (match decide (0 ≤ (t118 : Int) ∧ (t118 : Int) < ((t11n : Nat) : Int)) with | true => (match l3[0 + (t118).toNat * 1]? with | some e4 => (match decide ((e3 : Int) > e4) with | true => K .ret (en_joiA14_0 t1n t5 t6 t17 t18 l0 l1) | false => (match decide (0 ≤ (t118 : Int) ∧ (t118 : Int) < ((t11n : Nat) : Int)) with | true => (match l3[0 + (t118).toNat * 1]? with | some e5 => (match decide (0 ≤ (t118 : Int) ∧ (t118 : Int) < ((t10n : Nat) : Int)) with | true => (match l2[0 + (t118).toNat * 1]? with | some e6 => (match decide (0 ≤ (t118 : Int) ∧ (t118 : Int) < ((t11n : Nat) : Int)) with | true => (match l3[0 + (t118).toNat * 1]? with | some e7 => lp_joiA22 N N (st_joiA22 t1n t5 t6 t10n t11n (IntKind.i64.wrap ((IntKind.i64.wrap (t17 * e5)) + (IntKind.i64.wrap (e6 * t18)))) (IntKind.i64.wrap (t18 * e7)) (IntKind.i64.wrap ((IntKind.i64.wrap (t17 * e5)) + (IntKind.i64.wrap (e6 * t18)))) (IntKind.i64.wrap (t18 * e7)) t117 t118 l0 l1 l2 l3) (kt_joiA22 N (bk_joiA14 N M K)) | none => none) | false => none) | none => none) | false => none) | none => none) | false => none)) | none => none) | false => none) | none => none) | false => none)) | none => none) | false => none)) | none => none) | false => none) | false => K (.exit 0) (en_joiA14_1 t1n t5 t6 t17 t18 l0 l1)) := by
  kernel_rfl
theorem step_joiA22 {R : Type} (N M : Nat) (K : X → St → Option R) (t1n : Nat) (t5 : Int) (t6 : Int) (t10n : Nat) (t11n : Nat) (t20 : Int) (t21 : Int) (t22 : Int) (t23 : Int) (t117 : Int) (t118 : Int) (l0 : List Int) (l1 : List Int) (l2 : List Int) (l3 : List Int) : lp_joiA22 N (M + 1) (st_joiA22 t1n t5 t6 t10n t11n t20 t21 t22 t23 t117 t118 l0 l1 l2 l3) K
    = (match t23 != 0 with | true => (match decide (t23 = 0) with | true => none | false => lp_joiA22 N M (st_joiA22 t1n t5 t6 t10n t11n t20 t21 t23 (Int.tmod t22 t23) t117 t118 l0 l1 l2 l3) K) | false => K (.exit 2) (en_joiA22_0 t1n t5 t6 t10n t11n t20 t21 t22 t117 t118 l0 l1 l2 l3)) := by
  kernel_rfl
theorem step_joiA38 {R : Type} (N M : Nat) (K : X → St → Option R) (t5 : Int) (t6 : Int) (t25 : Int) (t26 : Int) (t27 : Nat) (t28n : Nat) (t208 : Int) (t209 : Int) (l0 : List Int) (l1 : List Int) (l2 : List Int) : lp_joiA38 N (M + 1) (st_joiA38 t5 t6 t25 t26 t27 t28n t208 t209 l0 l1 l2) K
    = (match decide ((t209 : Int) < t208) with | true => (match decide (0 ≤ (t209 : Int) ∧ (t209 : Int) < ((t28n : Nat) : Int)) with | true => (match l2[0 + (t209).toNat * 1]? with | some e1 => (match decide ((IntKind.i64.wrap (t25 + t26) : Int) > e1) with | true => lp_joiA38 N M (st_joiA38 t5 t6 t25 t26 t27 t28n t208 (IntKind.i64.wrap (t209 + 1)) l0 l1 l2) K | false => (match decide (0 ≤ (t209 : Int) ∧ (t209 : Int) < ((t28n : Nat) : Int)) with | true => (match l2[0 + (t209).toNat * 1]? with | some e2 => (match decide ((IntKind.i64.wrap ((IntKind.i64.wrap (0 - t25)) - t26) : Int) > e2) with | true => lp_joiA38 N M (st_joiA38 t5 t6 t25 t26 t27 t28n t208 (IntKind.i64.wrap (t209 + 1)) l0 l1 l2) K | false => (match decide (0 ≤ (t209 : Int) ∧ (t209 : Int) < ((t28n : Nat) : Int)) with | true => (match l2[0 + (t209).toNat * 1]? with | some e3 => (match canS t5 t25 t6 t26 e3 with | true => (match nmO (α := Int) ((jV t5 t25 t6 t26 e3).1) with | some w4 => (match nmO (α := Int) ((jV t5 t25 t6 t26 e3).2.1) with | some w5 => (match nmO (α := Int) ((jV t5 t25 t6 t26 e3).2.2) with | some w6 => (match decide (0 ≤ (t209 : Int) ∧ (t209 : Int) < ((t28n : Nat) : Int)) with | true => (match l2[0 + (t209).toNat * 1]? with | some e7 => (match canS t5 (IntKind.i64.wrap (0 - t25)) t6 (IntKind.i64.wrap (0 - t26)) e7 with | true => (match nmO (α := Int) ((jV t5 (IntKind.i64.wrap (0 - t25)) t6 (IntKind.i64.wrap (0 - t26)) e7).1) with | some w8 => (match nmO (α := Int) ((jV t5 (IntKind.i64.wrap (0 - t25)) t6 (IntKind.i64.wrap (0 - t26)) e7).2.1) with | some w9 => (match nmO (α := Int) ((jV t5 (IntKind.i64.wrap (0 - t25)) t6 (IntKind.i64.wrap (0 - t26)) e7).2.2) with | some w10 => (match decide (0 ≤ (t209 : Int) ∧ (t209 : Int) < ((t28n : Nat) : Int)) with | true => (match l2[0 + (t209).toNat * 1]? with | some e11 => (match canS t5 t25 t6 t26 e11 with | true => (match nmO (α := Nat) (jF (jV t5 t25 t6 t26 e11)) with | some w12 => (match w5 != w9 with | true => K .ret (en_joiA38_0 t27 l0 l1) | false => (match w6 != w10 with | true => K .ret (en_joiA38_0 t27 l0 l1) | false => (match fconv .f32 w12 .f64 with | some c13 => (match fconv .f32 w12 .f64 with | some c14 => (match nmO (α := Nat) (gapD (fop .mul .f64 (fop .mul .f64 c13 c14) (floatOfInt .f64 w6)) (floatOfInt .f64 w5)) with | some w15 => (match gtD w15 (fop .mul .f64 4562254508917369340 (floatOfInt .f64 w6)) with | true => K .ret (en_joiA38_0 t27 l0 l1) | false => (match decide (0 ≤ (t209 : Int) ∧ (t209 : Int) < ((t28n : Nat) : Int)) with | true => (match l2[0 + (t209).toNat * 1]? with | some e16 => (match (Int.tmod (IntKind.i64.wrap (Int.tdiv (IntKind.i64.wrap ((IntKind.i64.wrap (t5 + t6)) - e16)) 2)) 2) == 1 with | true => (match w8 != (IntKind.i64.wrap (0 - w4)) with | true => K .ret (en_joiA38_0 t27 l0 l1) | false => lp_joiA38 N M (st_joiA38 t5 t6 t25 t26 (fop .add .f64 t27 (fop .quo .f64 (floatOfInt .f64 w5) (floatOfInt .f64 w6))) t28n t208 (IntKind.i64.wrap (t209 + 1)) l0 l1 l2) K) | false => (match w8 != w4 with | true => K .ret (en_joiA38_0 t27 l0 l1) | false => lp_joiA38 N M (st_joiA38 t5 t6 t25 t26 (fop .add .f64 t27 (fop .quo .f64 (floatOfInt .f64 w5) (floatOfInt .f64 w6))) t28n t208 (IntKind.i64.wrap (t209 + 1)) l0 l1 l2) K)) | none => none) | false => none)) | none => none) | none => none) | none => none))) | none => none) | false => K .ret (en_joiA38_0 t27 l0 l1)) | none => none) | false => none) | none => none) | none => none) | none => none) | false => (match decide (0 ≤ (t209 : Int) ∧ (t209 : Int) < ((t28n : Nat) : Int)) with | true => (match l2[0 + (t209).toNat * 1]? with | some e17 => (match canS t5 t25 t6 t26 e17 with | true => (match nmO (α := Nat) (jF (jV t5 t25 t6 t26 e17)) with | some w18 => K .ret (en_joiA38_0 t27 l0 l1) | none => none) | false => K .ret (en_joiA38_0 t27 l0 l1)) | none => none) | false => none)) | none => none) | false => none) | none => none) | none => none) | none => none) | false => (match decide (0 ≤ (t209 : Int) ∧ (t209 : Int) < ((t28n : Nat) : Int)) with | true => (match l2[0 + (t209).toNat * 1]? with | some e19 => (match canS t5 (IntKind.i64.wrap (0 - t25)) t6 (IntKind.i64.wrap (0 - t26)) e19 with | true => (match nmO (α := Int) ((jV t5 (IntKind.i64.wrap (0 - t25)) t6 (IntKind.i64.wrap (0 - t26)) e19).1) with | some w20 => (match nmO (α := Int) ((jV t5 (IntKind.i64.wrap (0 - t25)) t6 (IntKind.i64.wrap (0 - t26)) e19).2.1) with | some w21 => (match nmO (α := Int) ((jV t5 (IntKind.i64.wrap (0 - t25)) t6 (IntKind.i64.wrap (0 - t26)) e19).2.2) with | some w22 => (match decide (0 ≤ (t209 : Int) ∧ (t209 : Int) < ((t28n : Nat) : Int)) with | true => (match l2[0 + (t209).toNat * 1]? with | some e23 => (match canS t5 t25 t6 t26 e23 with | true => (match nmO (α := Nat) (jF (jV t5 t25 t6 t26 e23)) with | some w24 => K .ret (en_joiA38_0 t27 l0 l1) | none => none) | false => K .ret (en_joiA38_0 t27 l0 l1)) | none => none) | false => none) | none => none) | none => none) | none => none) | false => (match decide (0 ≤ (t209 : Int) ∧ (t209 : Int) < ((t28n : Nat) : Int)) with | true => (match l2[0 + (t209).toNat * 1]? with | some e25 => (match canS t5 t25 t6 t26 e25 with | true => (match nmO (α := Nat) (jF (jV t5 t25 t6 t26 e25)) with | some w26 => K .ret (en_joiA38_0 t27 l0 l1) | none => none) | false => K .ret (en_joiA38_0 t27 l0 l1)) | none => none) | false => none)) | none => none) | false => none)) | none => none) | false => none)) | none => none) | false => none)) | none => none) | false => none) | false => K (.exit 4) (en_joiA38_1 t27 l0 l1)) := by
  kernel_rfl
theorem end_joiA14_0 (N : Nat) (t1n : Nat) (t5 : Int) (t6 : Int) (t17 : Int) (t18 : Int) (l0 : List Int) (l1 : List Int) : kt_joiA14 N (kEnd Try.f14 2) .ret (en_joiA14_0 t1n t5 t6 t17 t18 l0 l1)
    = some (.bool false, [.at false (.int .u8 l0), .at false (.int .u8 l1)]) := by
  kernel_rfl
theorem end_joiA14_1 (N : Nat) (t1n : Nat) (t5 : Int) (t6 : Int) (t17 : Int) (t18 : Int) (l0 : List Int) (l1 : List Int) : kt_joiA14 N (kEnd Try.f14 2) (.exit 0) (en_joiA14_1 t1n t5 t6 t17 t18 l0 l1)
    = (match t17 != 1 with | true => some (.bool false, [.at false (.int .u8 l0), .at false (.int .u8 l1)]) | false => (match t18 != 1 with | true => some (.bool false, [.at false (.int .u8 l0), .at false (.int .u8 l1)]) | false => (match atOk t1n l1 4 with | true => (match nmO (α := Int) (atF l1 4 (IntKind.i64.wrap (t5 + 1))) with | some w1 => (match atOk t1n l1 5 with | true => (match nmO (α := Int) (atF l1 5 (IntKind.i64.wrap (t6 + 1))) with | some w2 => (match is6 t5 && is6 t6 with | true => (match nmO (α := Nat) ((toD t5 t6).length) with | some w3 => (match nmO (α := List Int) ((toD t5 t6)) with | some w4 => lp_joiA38 N N (st_joiA38 t5 t6 (IntKind.i64.wrap (t5 - (IntKind.i64.wrap (2 * w1)))) (IntKind.i64.wrap (t6 - (IntKind.i64.wrap (2 * w2)))) 0 w3 ((w3 : Nat) : Int) 0 l0 l1 w4) (kt_joiA38 N (kEnd Try.f14 2)) | none => none) | none => none) | false => some (.bool false, [.at false (.int .u8 l0), .at false (.int .u8 l1)])) | none => none) | false => none) | none => none) | false => none))) := by
  kernel_rfl
theorem end_joiA22_0 {R : Type} (N M : Nat) (K : X → St → Option R) (t1n : Nat) (t5 : Int) (t6 : Int) (t10n : Nat) (t11n : Nat) (t20 : Int) (t21 : Int) (t22 : Int) (t117 : Int) (t118 : Int) (l0 : List Int) (l1 : List Int) (l2 : List Int) (l3 : List Int) : kt_joiA22 N (bk_joiA14 N M K) (.exit 2) (en_joiA22_0 t1n t5 t6 t10n t11n t20 t21 t22 t117 t118 l0 l1 l2 l3)
    = (match decide (t22 = 0) with | true => none | false => (match decide (t22 = 0) with | true => none | false => lp_joiA14 N M (st_joiA14 t1n t5 t6 t10n t11n (IntKind.i64.wrap (Int.tdiv t20 t22)) (IntKind.i64.wrap (Int.tdiv t21 t22)) t117 (IntKind.i64.wrap (t118 + 1)) l0 l1 l2 l3) K)) := by
  kernel_rfl
theorem end_joiA38_0 (N : Nat) (t27 : Nat) (l0 : List Int) (l1 : List Int) : kt_joiA38 N (kEnd Try.f14 2) .ret (en_joiA38_0 t27 l0 l1)
    = some (.bool false, [.at false (.int .u8 l0), .at false (.int .u8 l1)]) := by
  kernel_rfl
theorem end_joiA38_1 (N : Nat) (t27 : Nat) (l0 : List Int) (l1 : List Int) : kt_joiA38 N (kEnd Try.f14 2) (.exit 4) (en_joiA38_1 t27 l0 l1)
    = (match nmO (α := Nat) (gapD t27 4607182418800017408) with | some w1 => some (.bool (ltD w1 4562254508917369340), [.at false (.int .u8 l0), .at false (.int .u8 l1)]) | none => none) := by
  kernel_rfl
noncomputable def ce_joiA22_0 (N : Nat) (g : Nat → Int → Int → Nat → Nat → Int → Int → Int → Int → List Int → List Int → List Int → List Int → Option (V × H)) (q0 : Nat → Int → Int → Int → Int → List Int → List Int → Option (V × H)) (q1 : Nat → Int → Int → Int → Int → List Int → List Int → Option (V × H))  : Nat → Int → Int → Nat → Nat → Int → Int → Int → Int → Int → List Int → List Int → List Int → List Int → Option (V × H) := fun (t1n : Nat) (t5 : Int) (t6 : Int) (t10n : Nat) (t11n : Nat) (t20 : Int) (t21 : Int) (t22 : Int) (t117 : Int) (t118 : Int) (l0 : List Int) (l1 : List Int) (l2 : List Int) (l3 : List Int) => (match decide (t22 = 0) with | true => none | false => (match decide (t22 = 0) with | true => none | false => (g t1n t5 t6 t10n t11n (IntKind.i64.wrap (Int.tdiv t20 t22)) (IntKind.i64.wrap (Int.tdiv t21 t22)) t117 (IntKind.i64.wrap (t118 + 1)) l0 l1 l2 l3)))
noncomputable def mb_joiA22 (N : Nat) (k0 : Nat → Int → Int → Nat → Nat → Int → Int → Int → Int → Int → List Int → List Int → List Int → List Int → Option (V × H)) (rq : Nat → Int → Int → Nat → Nat → Int → Int → Int → Int → Int → Int → List Int → List Int → List Int → List Int → Option (V × H)) : Nat → Int → Int → Nat → Nat → Int → Int → Int → Int → Int → Int → List Int → List Int → List Int → List Int → Option (V × H) := fun (t1n : Nat) (t5 : Int) (t6 : Int) (t10n : Nat) (t11n : Nat) (t20 : Int) (t21 : Int) (t22 : Int) (t23 : Int) (t117 : Int) (t118 : Int) (l0 : List Int) (l1 : List Int) (l2 : List Int) (l3 : List Int) => (match t23 != 0 with | true => (match decide (t23 = 0) with | true => none | false => (rq t1n t5 t6 t10n t11n t20 t21 t23 (Int.tmod t22 t23) t117 t118 l0 l1 l2 l3)) | false => (k0 t1n t5 t6 t10n t11n t20 t21 t22 t117 t118 l0 l1 l2 l3))
noncomputable def mr_joiA22 (N : Nat) (k0 : Nat → Int → Int → Nat → Nat → Int → Int → Int → Int → Int → List Int → List Int → List Int → List Int → Option (V × H)) (M : Nat) : Nat → Int → Int → Nat → Nat → Int → Int → Int → Int → Int → Int → List Int → List Int → List Int → List Int → Option (V × H) := Nat.rec (motive := fun _ => Nat → Int → Int → Nat → Nat → Int → Int → Int → Int → Int → Int → List Int → List Int → List Int → List Int → Option (V × H)) (fun (_ : Nat) (_ : Int) (_ : Int) (_ : Nat) (_ : Nat) (_ : Int) (_ : Int) (_ : Int) (_ : Int) (_ : Int) (_ : Int) (_ : List Int) (_ : List Int) (_ : List Int) (_ : List Int) => none) (fun _ rq => mb_joiA22 N k0 rq) M
theorem mrs_joiA22 (N : Nat) (k0 : Nat → Int → Int → Nat → Nat → Int → Int → Int → Int → Int → List Int → List Int → List Int → List Int → Option (V × H)) (M : Nat) (t1n : Nat) (t5 : Int) (t6 : Int) (t10n : Nat) (t11n : Nat) (t20 : Int) (t21 : Int) (t22 : Int) (t23 : Int) (t117 : Int) (t118 : Int) (l0 : List Int) (l1 : List Int) (l2 : List Int) (l3 : List Int) : mr_joiA22 N k0 (M + 1) t1n t5 t6 t10n t11n t20 t21 t22 t23 t117 t118 l0 l1 l2 l3 = mb_joiA22 N k0 (mr_joiA22 N k0 M) t1n t5 t6 t10n t11n t20 t21 t22 t23 t117 t118 l0 l1 l2 l3 := rfl
theorem H_joiA22 (N : Nat) (Mp : Nat) (K : X → St → Option (V × H)) (g : Nat → Int → Int → Nat → Nat → Int → Int → Int → Int → List Int → List Int → List Int → List Int → Option (V × H)) (q0 : Nat → Int → Int → Int → Int → List Int → List Int → Option (V × H)) (q1 : Nat → Int → Int → Int → Int → List Int → List Int → Option (V × H)) (hg : ∀ (t1n : Nat) (t5 : Int) (t6 : Int) (t10n : Nat) (t11n : Nat) (t17 : Int) (t18 : Int) (t117 : Int) (t118 : Int) (l0 : List Int) (l1 : List Int) (l2 : List Int) (l3 : List Int), lp_joiA14 N Mp (st_joiA14 t1n t5 t6 t10n t11n t17 t18 t117 t118 l0 l1 l2 l3) K = g t1n t5 t6 t10n t11n t17 t18 t117 t118 l0 l1 l2 l3) (hk0 : ∀ (t1n : Nat) (t5 : Int) (t6 : Int) (t17 : Int) (t18 : Int) (l0 : List Int) (l1 : List Int), K .ret (en_joiA14_0 t1n t5 t6 t17 t18 l0 l1) = q0 t1n t5 t6 t17 t18 l0 l1) (hk1 : ∀ (t1n : Nat) (t5 : Int) (t6 : Int) (t17 : Int) (t18 : Int) (l0 : List Int) (l1 : List Int), K (.exit 0) (en_joiA14_1 t1n t5 t6 t17 t18 l0 l1) = q1 t1n t5 t6 t17 t18 l0 l1) : ∀ (M : Nat) (t1n : Nat) (t5 : Int) (t6 : Int) (t10n : Nat) (t11n : Nat) (t20 : Int) (t21 : Int) (t22 : Int) (t23 : Int) (t117 : Int) (t118 : Int) (l0 : List Int) (l1 : List Int) (l2 : List Int) (l3 : List Int), lp_joiA22 N M (st_joiA22 t1n t5 t6 t10n t11n t20 t21 t22 t23 t117 t118 l0 l1 l2 l3) (kt_joiA22 N (bk_joiA14 N Mp K)) = mr_joiA22 N (ce_joiA22_0 N g q0 q1) M t1n t5 t6 t10n t11n t20 t21 t22 t23 t117 t118 l0 l1 l2 l3 := by
  have he0 : ∀ (t1n : Nat) (t5 : Int) (t6 : Int) (t10n : Nat) (t11n : Nat) (t20 : Int) (t21 : Int) (t22 : Int) (t117 : Int) (t118 : Int) (l0 : List Int) (l1 : List Int) (l2 : List Int) (l3 : List Int), kt_joiA22 N (bk_joiA14 N Mp K) (.exit 2) (en_joiA22_0 t1n t5 t6 t10n t11n t20 t21 t22 t117 t118 l0 l1 l2 l3) = ce_joiA22_0 N g q0 q1 t1n t5 t6 t10n t11n t20 t21 t22 t117 t118 l0 l1 l2 l3 := by
    intro t1n t5 t6 t10n t11n t20 t21 t22 t117 t118 l0 l1 l2 l3
    rw [end_joiA22_0]
    unfold ce_joiA22_0
    first | (simp only [hg, hk0, hk1]; done) | (simp only [hg, hk0, hk1]; kernel_rfl) | rfl
  intro M
  induction M with
  | zero => intros; rfl
  | succ M ih =>
    intro t1n t5 t6 t10n t11n t20 t21 t22 t23 t117 t118 l0 l1 l2 l3
    rw [step_joiA22]
    rw [mrs_joiA22]
    unfold mb_joiA22
    first | (simp only [ih, he0]; done) | (simp only [ih, he0]; kernel_rfl) | rfl
noncomputable def ce_joiA38_0 (N : Nat)  : Nat → List Int → List Int → Option (V × H) := fun (t27 : Nat) (l0 : List Int) (l1 : List Int) => some (.bool false, [.at false (.int .u8 l0), .at false (.int .u8 l1)])
noncomputable def ce_joiA38_1 (N : Nat)  : Nat → List Int → List Int → Option (V × H) := fun (t27 : Nat) (l0 : List Int) (l1 : List Int) => (match nmO (α := Nat) (gapD t27 4607182418800017408) with | some w1 => some (.bool (ltD w1 4562254508917369340), [.at false (.int .u8 l0), .at false (.int .u8 l1)]) | none => none)
noncomputable def mb_joiA38 (N : Nat) (k0 : Nat → List Int → List Int → Option (V × H)) (k1 : Nat → List Int → List Int → Option (V × H)) (rq : Int → Int → Int → Int → Nat → Nat → Int → Int → List Int → List Int → List Int → Option (V × H)) : Int → Int → Int → Int → Nat → Nat → Int → Int → List Int → List Int → List Int → Option (V × H) := fun (t5 : Int) (t6 : Int) (t25 : Int) (t26 : Int) (t27 : Nat) (t28n : Nat) (t208 : Int) (t209 : Int) (l0 : List Int) (l1 : List Int) (l2 : List Int) => (match decide ((t209 : Int) < t208) with | true => (match decide (0 ≤ (t209 : Int) ∧ (t209 : Int) < ((t28n : Nat) : Int)) with | true => (match l2[0 + (t209).toNat * 1]? with | some e1 => (match decide ((IntKind.i64.wrap (t25 + t26) : Int) > e1) with | true => (rq t5 t6 t25 t26 t27 t28n t208 (IntKind.i64.wrap (t209 + 1)) l0 l1 l2) | false => (match decide (0 ≤ (t209 : Int) ∧ (t209 : Int) < ((t28n : Nat) : Int)) with | true => (match l2[0 + (t209).toNat * 1]? with | some e2 => (match decide ((IntKind.i64.wrap ((IntKind.i64.wrap (0 - t25)) - t26) : Int) > e2) with | true => (rq t5 t6 t25 t26 t27 t28n t208 (IntKind.i64.wrap (t209 + 1)) l0 l1 l2) | false => (match decide (0 ≤ (t209 : Int) ∧ (t209 : Int) < ((t28n : Nat) : Int)) with | true => (match l2[0 + (t209).toNat * 1]? with | some e3 => (match canS t5 t25 t6 t26 e3 with | true => (match nmO (α := Int) ((jV t5 t25 t6 t26 e3).1) with | some w4 => (match nmO (α := Int) ((jV t5 t25 t6 t26 e3).2.1) with | some w5 => (match nmO (α := Int) ((jV t5 t25 t6 t26 e3).2.2) with | some w6 => (match decide (0 ≤ (t209 : Int) ∧ (t209 : Int) < ((t28n : Nat) : Int)) with | true => (match l2[0 + (t209).toNat * 1]? with | some e7 => (match canS t5 (IntKind.i64.wrap (0 - t25)) t6 (IntKind.i64.wrap (0 - t26)) e7 with | true => (match nmO (α := Int) ((jV t5 (IntKind.i64.wrap (0 - t25)) t6 (IntKind.i64.wrap (0 - t26)) e7).1) with | some w8 => (match nmO (α := Int) ((jV t5 (IntKind.i64.wrap (0 - t25)) t6 (IntKind.i64.wrap (0 - t26)) e7).2.1) with | some w9 => (match nmO (α := Int) ((jV t5 (IntKind.i64.wrap (0 - t25)) t6 (IntKind.i64.wrap (0 - t26)) e7).2.2) with | some w10 => (match decide (0 ≤ (t209 : Int) ∧ (t209 : Int) < ((t28n : Nat) : Int)) with | true => (match l2[0 + (t209).toNat * 1]? with | some e11 => (match canS t5 t25 t6 t26 e11 with | true => (match nmO (α := Nat) (jF (jV t5 t25 t6 t26 e11)) with | some w12 => (match w5 != w9 with | true => (k0 t27 l0 l1) | false => (match w6 != w10 with | true => (k0 t27 l0 l1) | false => (match fconv .f32 w12 .f64 with | some c13 => (match fconv .f32 w12 .f64 with | some c14 => (match nmO (α := Nat) (gapD (fop .mul .f64 (fop .mul .f64 c13 c14) (floatOfInt .f64 w6)) (floatOfInt .f64 w5)) with | some w15 => (match gtD w15 (fop .mul .f64 4562254508917369340 (floatOfInt .f64 w6)) with | true => (k0 t27 l0 l1) | false => (match decide (0 ≤ (t209 : Int) ∧ (t209 : Int) < ((t28n : Nat) : Int)) with | true => (match l2[0 + (t209).toNat * 1]? with | some e16 => (match (Int.tmod (IntKind.i64.wrap (Int.tdiv (IntKind.i64.wrap ((IntKind.i64.wrap (t5 + t6)) - e16)) 2)) 2) == 1 with | true => (match w8 != (IntKind.i64.wrap (0 - w4)) with | true => (k0 t27 l0 l1) | false => (rq t5 t6 t25 t26 (fop .add .f64 t27 (fop .quo .f64 (floatOfInt .f64 w5) (floatOfInt .f64 w6))) t28n t208 (IntKind.i64.wrap (t209 + 1)) l0 l1 l2)) | false => (match w8 != w4 with | true => (k0 t27 l0 l1) | false => (rq t5 t6 t25 t26 (fop .add .f64 t27 (fop .quo .f64 (floatOfInt .f64 w5) (floatOfInt .f64 w6))) t28n t208 (IntKind.i64.wrap (t209 + 1)) l0 l1 l2))) | none => none) | false => none)) | none => none) | none => none) | none => none))) | none => none) | false => (k0 t27 l0 l1)) | none => none) | false => none) | none => none) | none => none) | none => none) | false => (match decide (0 ≤ (t209 : Int) ∧ (t209 : Int) < ((t28n : Nat) : Int)) with | true => (match l2[0 + (t209).toNat * 1]? with | some e17 => (match canS t5 t25 t6 t26 e17 with | true => (match nmO (α := Nat) (jF (jV t5 t25 t6 t26 e17)) with | some w18 => (k0 t27 l0 l1) | none => none) | false => (k0 t27 l0 l1)) | none => none) | false => none)) | none => none) | false => none) | none => none) | none => none) | none => none) | false => (match decide (0 ≤ (t209 : Int) ∧ (t209 : Int) < ((t28n : Nat) : Int)) with | true => (match l2[0 + (t209).toNat * 1]? with | some e19 => (match canS t5 (IntKind.i64.wrap (0 - t25)) t6 (IntKind.i64.wrap (0 - t26)) e19 with | true => (match nmO (α := Int) ((jV t5 (IntKind.i64.wrap (0 - t25)) t6 (IntKind.i64.wrap (0 - t26)) e19).1) with | some w20 => (match nmO (α := Int) ((jV t5 (IntKind.i64.wrap (0 - t25)) t6 (IntKind.i64.wrap (0 - t26)) e19).2.1) with | some w21 => (match nmO (α := Int) ((jV t5 (IntKind.i64.wrap (0 - t25)) t6 (IntKind.i64.wrap (0 - t26)) e19).2.2) with | some w22 => (match decide (0 ≤ (t209 : Int) ∧ (t209 : Int) < ((t28n : Nat) : Int)) with | true => (match l2[0 + (t209).toNat * 1]? with | some e23 => (match canS t5 t25 t6 t26 e23 with | true => (match nmO (α := Nat) (jF (jV t5 t25 t6 t26 e23)) with | some w24 => (k0 t27 l0 l1) | none => none) | false => (k0 t27 l0 l1)) | none => none) | false => none) | none => none) | none => none) | none => none) | false => (match decide (0 ≤ (t209 : Int) ∧ (t209 : Int) < ((t28n : Nat) : Int)) with | true => (match l2[0 + (t209).toNat * 1]? with | some e25 => (match canS t5 t25 t6 t26 e25 with | true => (match nmO (α := Nat) (jF (jV t5 t25 t6 t26 e25)) with | some w26 => (k0 t27 l0 l1) | none => none) | false => (k0 t27 l0 l1)) | none => none) | false => none)) | none => none) | false => none)) | none => none) | false => none)) | none => none) | false => none)) | none => none) | false => none) | false => (k1 t27 l0 l1))
noncomputable def mr_joiA38 (N : Nat) (k0 : Nat → List Int → List Int → Option (V × H)) (k1 : Nat → List Int → List Int → Option (V × H)) (M : Nat) : Int → Int → Int → Int → Nat → Nat → Int → Int → List Int → List Int → List Int → Option (V × H) := Nat.rec (motive := fun _ => Int → Int → Int → Int → Nat → Nat → Int → Int → List Int → List Int → List Int → Option (V × H)) (fun (_ : Int) (_ : Int) (_ : Int) (_ : Int) (_ : Nat) (_ : Nat) (_ : Int) (_ : Int) (_ : List Int) (_ : List Int) (_ : List Int) => none) (fun _ rq => mb_joiA38 N k0 k1 rq) M
theorem mrs_joiA38 (N : Nat) (k0 : Nat → List Int → List Int → Option (V × H)) (k1 : Nat → List Int → List Int → Option (V × H)) (M : Nat) (t5 : Int) (t6 : Int) (t25 : Int) (t26 : Int) (t27 : Nat) (t28n : Nat) (t208 : Int) (t209 : Int) (l0 : List Int) (l1 : List Int) (l2 : List Int) : mr_joiA38 N k0 k1 (M + 1) t5 t6 t25 t26 t27 t28n t208 t209 l0 l1 l2 = mb_joiA38 N k0 k1 (mr_joiA38 N k0 k1 M) t5 t6 t25 t26 t27 t28n t208 t209 l0 l1 l2 := rfl
theorem H_joiA38 (N : Nat) : ∀ (M : Nat) (t5 : Int) (t6 : Int) (t25 : Int) (t26 : Int) (t27 : Nat) (t28n : Nat) (t208 : Int) (t209 : Int) (l0 : List Int) (l1 : List Int) (l2 : List Int), lp_joiA38 N M (st_joiA38 t5 t6 t25 t26 t27 t28n t208 t209 l0 l1 l2) (kt_joiA38 N (kEnd Try.f14 2)) = mr_joiA38 N (ce_joiA38_0 N) (ce_joiA38_1 N) M t5 t6 t25 t26 t27 t28n t208 t209 l0 l1 l2 := by
  have he0 : ∀ (t27 : Nat) (l0 : List Int) (l1 : List Int), kt_joiA38 N (kEnd Try.f14 2) .ret (en_joiA38_0 t27 l0 l1) = ce_joiA38_0 N t27 l0 l1 := by
    intro t27 l0 l1
    rw [end_joiA38_0]
    unfold ce_joiA38_0
    first | (simp only []; done) | (simp only []; kernel_rfl) | rfl
  have he1 : ∀ (t27 : Nat) (l0 : List Int) (l1 : List Int), kt_joiA38 N (kEnd Try.f14 2) (.exit 4) (en_joiA38_1 t27 l0 l1) = ce_joiA38_1 N t27 l0 l1 := by
    intro t27 l0 l1
    rw [end_joiA38_1]
    unfold ce_joiA38_1
    first | (simp only []; done) | (simp only []; kernel_rfl) | rfl
  intro M
  induction M with
  | zero => intros; rfl
  | succ M ih =>
    intro t5 t6 t25 t26 t27 t28n t208 t209 l0 l1 l2
    rw [step_joiA38]
    rw [mrs_joiA38]
    unfold mb_joiA38
    first | (simp only [ih, he0, he1]; done) | (simp only [ih, he0, he1]; kernel_rfl) | rfl
noncomputable def ce_joiA14_0 (N : Nat)  : Nat → Int → Int → Int → Int → List Int → List Int → Option (V × H) := fun (t1n : Nat) (t5 : Int) (t6 : Int) (t17 : Int) (t18 : Int) (l0 : List Int) (l1 : List Int) => some (.bool false, [.at false (.int .u8 l0), .at false (.int .u8 l1)])
noncomputable def ce_joiA14_1 (N : Nat)  : Nat → Int → Int → Int → Int → List Int → List Int → Option (V × H) := fun (t1n : Nat) (t5 : Int) (t6 : Int) (t17 : Int) (t18 : Int) (l0 : List Int) (l1 : List Int) => (match t17 != 1 with | true => some (.bool false, [.at false (.int .u8 l0), .at false (.int .u8 l1)]) | false => (match t18 != 1 with | true => some (.bool false, [.at false (.int .u8 l0), .at false (.int .u8 l1)]) | false => (match atOk t1n l1 4 with | true => (match nmO (α := Int) (atF l1 4 (IntKind.i64.wrap (t5 + 1))) with | some w1 => (match atOk t1n l1 5 with | true => (match nmO (α := Int) (atF l1 5 (IntKind.i64.wrap (t6 + 1))) with | some w2 => (match is6 t5 && is6 t6 with | true => (match nmO (α := Nat) ((toD t5 t6).length) with | some w3 => (match nmO (α := List Int) ((toD t5 t6)) with | some w4 => (mr_joiA38 N (ce_joiA38_0 N) (ce_joiA38_1 N) N t5 t6 (IntKind.i64.wrap (t5 - (IntKind.i64.wrap (2 * w1)))) (IntKind.i64.wrap (t6 - (IntKind.i64.wrap (2 * w2)))) 0 w3 ((w3 : Nat) : Int) 0 l0 l1 w4) | none => none) | none => none) | false => some (.bool false, [.at false (.int .u8 l0), .at false (.int .u8 l1)])) | none => none) | false => none) | none => none) | false => none)))
noncomputable def mb_joiA14 (N : Nat) (k0 : Nat → Int → Int → Int → Int → List Int → List Int → Option (V × H)) (k1 : Nat → Int → Int → Int → Int → List Int → List Int → Option (V × H)) (rq : Nat → Int → Int → Nat → Nat → Int → Int → Int → Int → List Int → List Int → List Int → List Int → Option (V × H)) : Nat → Int → Int → Nat → Nat → Int → Int → Int → Int → List Int → List Int → List Int → List Int → Option (V × H) := fun (t1n : Nat) (t5 : Int) (t6 : Int) (t10n : Nat) (t11n : Nat) (t17 : Int) (t18 : Int) (t117 : Int) (t118 : Int) (l0 : List Int) (l1 : List Int) (l2 : List Int) (l3 : List Int) => (match decide ((t118 : Int) < t117) with | true => (match decide (0 ≤ (t118 : Int) ∧ (t118 : Int) < ((t11n : Nat) : Int)) with | true => (match l3[0 + (t118).toNat * 1]? with | some e1 => (match decide ((e1 : Int) < 1) with | true => (k0 t1n t5 t6 t17 t18 l0 l1) | false => (match decide (0 ≤ (t118 : Int) ∧ (t118 : Int) < ((t10n : Nat) : Int)) with | true => (match l2[0 + (t118).toNat * 1]? with | some e2 => (match decide ((e2 : Int) < 0) with | true => (k0 t1n t5 t6 t17 t18 l0 l1) | false => (match decide (0 ≤ (t118 : Int) ∧ (t118 : Int) < ((t10n : Nat) : Int)) with | true => (match l2[0 + (t118).toNat * 1]? with | some e3 => (match decide (0 ≤ (t118 : Int) ∧ (t118 : Int) < ((t11n : Nat) : Int)) with | true => (match l3[0 + (t118).toNat * 1]? with | some e4 => (match decide ((e3 : Int) > e4) with | true => (k0 t1n t5 t6 t17 t18 l0 l1) | false => (match decide (0 ≤ (t118 : Int) ∧ (t118 : Int) < ((t11n : Nat) : Int)) with | true => (match l3[0 + (t118).toNat * 1]? with | some e5 => (match decide (0 ≤ (t118 : Int) ∧ (t118 : Int) < ((t10n : Nat) : Int)) with | true => (match l2[0 + (t118).toNat * 1]? with | some e6 => (match decide (0 ≤ (t118 : Int) ∧ (t118 : Int) < ((t11n : Nat) : Int)) with | true => (match l3[0 + (t118).toNat * 1]? with | some e7 => (mr_joiA22 N (ce_joiA22_0 N (fun t1n t5 t6 t10n t11n t17 t18 t117 t118 l0 l1 l2 l3 => rq t1n t5 t6 t10n t11n t17 t18 t117 t118 l0 l1 l2 l3) k0 k1) N t1n t5 t6 t10n t11n (IntKind.i64.wrap ((IntKind.i64.wrap (t17 * e5)) + (IntKind.i64.wrap (e6 * t18)))) (IntKind.i64.wrap (t18 * e7)) (IntKind.i64.wrap ((IntKind.i64.wrap (t17 * e5)) + (IntKind.i64.wrap (e6 * t18)))) (IntKind.i64.wrap (t18 * e7)) t117 t118 l0 l1 l2 l3) | none => none) | false => none) | none => none) | false => none) | none => none) | false => none)) | none => none) | false => none) | none => none) | false => none)) | none => none) | false => none)) | none => none) | false => none) | false => (k1 t1n t5 t6 t17 t18 l0 l1))
noncomputable def mr_joiA14 (N : Nat) (k0 : Nat → Int → Int → Int → Int → List Int → List Int → Option (V × H)) (k1 : Nat → Int → Int → Int → Int → List Int → List Int → Option (V × H)) (M : Nat) : Nat → Int → Int → Nat → Nat → Int → Int → Int → Int → List Int → List Int → List Int → List Int → Option (V × H) := Nat.rec (motive := fun _ => Nat → Int → Int → Nat → Nat → Int → Int → Int → Int → List Int → List Int → List Int → List Int → Option (V × H)) (fun (_ : Nat) (_ : Int) (_ : Int) (_ : Nat) (_ : Nat) (_ : Int) (_ : Int) (_ : Int) (_ : Int) (_ : List Int) (_ : List Int) (_ : List Int) (_ : List Int) => none) (fun _ rq => mb_joiA14 N k0 k1 rq) M
theorem mrs_joiA14 (N : Nat) (k0 : Nat → Int → Int → Int → Int → List Int → List Int → Option (V × H)) (k1 : Nat → Int → Int → Int → Int → List Int → List Int → Option (V × H)) (M : Nat) (t1n : Nat) (t5 : Int) (t6 : Int) (t10n : Nat) (t11n : Nat) (t17 : Int) (t18 : Int) (t117 : Int) (t118 : Int) (l0 : List Int) (l1 : List Int) (l2 : List Int) (l3 : List Int) : mr_joiA14 N k0 k1 (M + 1) t1n t5 t6 t10n t11n t17 t18 t117 t118 l0 l1 l2 l3 = mb_joiA14 N k0 k1 (mr_joiA14 N k0 k1 M) t1n t5 t6 t10n t11n t17 t18 t117 t118 l0 l1 l2 l3 := rfl
theorem H_joiA14 (N : Nat) : ∀ (M : Nat) (t1n : Nat) (t5 : Int) (t6 : Int) (t10n : Nat) (t11n : Nat) (t17 : Int) (t18 : Int) (t117 : Int) (t118 : Int) (l0 : List Int) (l1 : List Int) (l2 : List Int) (l3 : List Int), lp_joiA14 N M (st_joiA14 t1n t5 t6 t10n t11n t17 t18 t117 t118 l0 l1 l2 l3) (kt_joiA14 N (kEnd Try.f14 2)) = mr_joiA14 N (ce_joiA14_0 N) (ce_joiA14_1 N) M t1n t5 t6 t10n t11n t17 t18 t117 t118 l0 l1 l2 l3 := by
  have he0 : ∀ (t1n : Nat) (t5 : Int) (t6 : Int) (t17 : Int) (t18 : Int) (l0 : List Int) (l1 : List Int), kt_joiA14 N (kEnd Try.f14 2) .ret (en_joiA14_0 t1n t5 t6 t17 t18 l0 l1) = ce_joiA14_0 N t1n t5 t6 t17 t18 l0 l1 := by
    intro t1n t5 t6 t17 t18 l0 l1
    rw [end_joiA14_0]
    unfold ce_joiA14_0
    first | (simp only []; done) | (simp only []; kernel_rfl) | rfl
  have he1 : ∀ (t1n : Nat) (t5 : Int) (t6 : Int) (t17 : Int) (t18 : Int) (l0 : List Int) (l1 : List Int), kt_joiA14 N (kEnd Try.f14 2) (.exit 0) (en_joiA14_1 t1n t5 t6 t17 t18 l0 l1) = ce_joiA14_1 N t1n t5 t6 t17 t18 l0 l1 := by
    intro t1n t5 t6 t17 t18 l0 l1
    rw [end_joiA14_1]
    unfold ce_joiA14_1
    first | (simp only [H_joiA38 N N]; done) | (simp only [H_joiA38 N N]; kernel_rfl) | rfl
  intro M
  induction M with
  | zero => intros; rfl
  | succ M ih =>
    intro t1n t5 t6 t10n t11n t17 t18 t117 t118 l0 l1 l2 l3
    rw [step_joiA14]
    have hc22 := H_joiA22 N M (kt_joiA14 N (kEnd Try.f14 2)) (fun t1n t5 t6 t10n t11n t17 t18 t117 t118 l0 l1 l2 l3 => mr_joiA14 N (ce_joiA14_0 N) (ce_joiA14_1 N) M t1n t5 t6 t10n t11n t17 t18 t117 t118 l0 l1 l2 l3) (ce_joiA14_0 N) (ce_joiA14_1 N) (fun t1n t5 t6 t10n t11n t17 t18 t117 t118 l0 l1 l2 l3 => ih t1n t5 t6 t10n t11n t17 t18 t117 t118 l0 l1 l2 l3) he0 he1
    rw [mrs_joiA14]
    unfold mb_joiA14
    first | (simp only [ih, he0, he1, hc22 N]; done) | (simp only [ih, he0, he1, hc22 N]; kernel_rfl) | rfl
noncomputable def md_joiA (N : Nat) (n : Nat) (m : Nat) (l0 : List Int) (l1 : List Int) : Option (V × H) := (match nmO (α := Bool) (longB n m) with | some w1 => (match w1 with | true => some (.bool true, [.at false (.int .u8 l0), .at false (.int .u8 l1)]) | false => (match atOk m l1 0 with | true => (match nmO (α := Int) (atF l1 0 7) with | some w2 => (match atOk m l1 1 with | true => (match nmO (α := Int) (atF l1 1 7) with | some w3 => (match atOk m l1 2 with | true => (match nmO (α := Int) (atF l1 2 (IntKind.i64.wrap ((if w3 < w2 then w3 else w2) + 1))) with | some w4 => (match atOk m l1 3 with | true => (match nmO (α := Int) (atF l1 3 (IntKind.i64.wrap ((IntKind.i64.wrap ((IntKind.i64.wrap (w2 + w3)) - (IntKind.i64.wrap (2 * w4)))) + 1))) with | some w5 => (match rowS w2 w3 (IntKind.i64.wrap ((IntKind.i64.wrap (w2 + w3)) - (IntKind.i64.wrap (2 * w4)))) (IntKind.i64.wrap ((IntKind.i64.wrap ((IntKind.i64.wrap (w2 + w3)) - (IntKind.i64.wrap (2 * w4)))) - (IntKind.i64.wrap (2 * w5)))) with | true => (match nmO (α := Nat) ((jrD w2 w3 (IntKind.i64.wrap ((IntKind.i64.wrap (w2 + w3)) - (IntKind.i64.wrap (2 * w4)))) (IntKind.i64.wrap ((IntKind.i64.wrap ((IntKind.i64.wrap (w2 + w3)) - (IntKind.i64.wrap (2 * w4)))) - (IntKind.i64.wrap (2 * w5))))).1.length) with | some w6 => (match nmO (α := Nat) ((jrD w2 w3 (IntKind.i64.wrap ((IntKind.i64.wrap (w2 + w3)) - (IntKind.i64.wrap (2 * w4)))) (IntKind.i64.wrap ((IntKind.i64.wrap ((IntKind.i64.wrap (w2 + w3)) - (IntKind.i64.wrap (2 * w4)))) - (IntKind.i64.wrap (2 * w5))))).2.1.length) with | some w7 => (match nmO (α := Nat) ((jrD w2 w3 (IntKind.i64.wrap ((IntKind.i64.wrap (w2 + w3)) - (IntKind.i64.wrap (2 * w4)))) (IntKind.i64.wrap ((IntKind.i64.wrap ((IntKind.i64.wrap (w2 + w3)) - (IntKind.i64.wrap (2 * w4)))) - (IntKind.i64.wrap (2 * w5))))).2.2.length) with | some w8 => (match nmO (α := List Int) ((jrD w2 w3 (IntKind.i64.wrap ((IntKind.i64.wrap (w2 + w3)) - (IntKind.i64.wrap (2 * w4)))) (IntKind.i64.wrap ((IntKind.i64.wrap ((IntKind.i64.wrap (w2 + w3)) - (IntKind.i64.wrap (2 * w4)))) - (IntKind.i64.wrap (2 * w5))))).1) with | some w9 => (match nmO (α := List Int) ((jrD w2 w3 (IntKind.i64.wrap ((IntKind.i64.wrap (w2 + w3)) - (IntKind.i64.wrap (2 * w4)))) (IntKind.i64.wrap ((IntKind.i64.wrap ((IntKind.i64.wrap (w2 + w3)) - (IntKind.i64.wrap (2 * w4)))) - (IntKind.i64.wrap (2 * w5))))).2.1) with | some w10 => (match nmO (α := List Int) ((jrD w2 w3 (IntKind.i64.wrap ((IntKind.i64.wrap (w2 + w3)) - (IntKind.i64.wrap (2 * w4)))) (IntKind.i64.wrap ((IntKind.i64.wrap ((IntKind.i64.wrap (w2 + w3)) - (IntKind.i64.wrap (2 * w4)))) - (IntKind.i64.wrap (2 * w5))))).2.2) with | some w11 => (match rowS w2 w3 (IntKind.i64.wrap ((IntKind.i64.wrap (w2 + w3)) - (IntKind.i64.wrap (2 * w4)))) (IntKind.i64.wrap ((IntKind.i64.wrap ((IntKind.i64.wrap (w2 + w3)) - (IntKind.i64.wrap (2 * w4)))) - (IntKind.i64.wrap (2 * w5)))) with | true => (match nmO (α := Nat) ((jrD w2 w3 (IntKind.i64.wrap ((IntKind.i64.wrap (w2 + w3)) - (IntKind.i64.wrap (2 * w4)))) (IntKind.i64.wrap ((IntKind.i64.wrap ((IntKind.i64.wrap (w2 + w3)) - (IntKind.i64.wrap (2 * w4)))) - (IntKind.i64.wrap (2 * w5))))).1.length) with | some w12 => (match nmO (α := Nat) ((jrD w2 w3 (IntKind.i64.wrap ((IntKind.i64.wrap (w2 + w3)) - (IntKind.i64.wrap (2 * w4)))) (IntKind.i64.wrap ((IntKind.i64.wrap ((IntKind.i64.wrap (w2 + w3)) - (IntKind.i64.wrap (2 * w4)))) - (IntKind.i64.wrap (2 * w5))))).2.1.length) with | some w13 => (match nmO (α := Nat) ((jrD w2 w3 (IntKind.i64.wrap ((IntKind.i64.wrap (w2 + w3)) - (IntKind.i64.wrap (2 * w4)))) (IntKind.i64.wrap ((IntKind.i64.wrap ((IntKind.i64.wrap (w2 + w3)) - (IntKind.i64.wrap (2 * w4)))) - (IntKind.i64.wrap (2 * w5))))).2.2.length) with | some w14 => (match nmO (α := List Int) ((jrD w2 w3 (IntKind.i64.wrap ((IntKind.i64.wrap (w2 + w3)) - (IntKind.i64.wrap (2 * w4)))) (IntKind.i64.wrap ((IntKind.i64.wrap ((IntKind.i64.wrap (w2 + w3)) - (IntKind.i64.wrap (2 * w4)))) - (IntKind.i64.wrap (2 * w5))))).1) with | some w15 => (match nmO (α := List Int) ((jrD w2 w3 (IntKind.i64.wrap ((IntKind.i64.wrap (w2 + w3)) - (IntKind.i64.wrap (2 * w4)))) (IntKind.i64.wrap ((IntKind.i64.wrap ((IntKind.i64.wrap (w2 + w3)) - (IntKind.i64.wrap (2 * w4)))) - (IntKind.i64.wrap (2 * w5))))).2.1) with | some w16 => (match nmO (α := List Int) ((jrD w2 w3 (IntKind.i64.wrap ((IntKind.i64.wrap (w2 + w3)) - (IntKind.i64.wrap (2 * w4)))) (IntKind.i64.wrap ((IntKind.i64.wrap ((IntKind.i64.wrap (w2 + w3)) - (IntKind.i64.wrap (2 * w4)))) - (IntKind.i64.wrap (2 * w5))))).2.2) with | some w17 => (match eqOk w6 w12 w9 w15 with | true => (match nmO (α := Bool) (eqIB w9 w15) with | some w18 => (match !w18 with | true => some (.bool false, [.at false (.int .u8 l0), .at false (.int .u8 l1)]) | false => (match eqOk w7 w13 w10 w16 with | true => (match nmO (α := Bool) (eqIB w10 w16) with | some w19 => (match !w19 with | true => some (.bool false, [.at false (.int .u8 l0), .at false (.int .u8 l1)]) | false => (match eqOk w8 w14 w11 w17 with | true => (match nmO (α := Bool) (eqIB w11 w17) with | some w20 => (match !w20 with | true => some (.bool false, [.at false (.int .u8 l0), .at false (.int .u8 l1)]) | false => (match decide ((((w7 : Nat) : Int) : Int) < 1) with | true => some (.bool false, [.at false (.int .u8 l0), .at false (.int .u8 l1)]) | false => (mr_joiA14 N (ce_joiA14_0 N) (ce_joiA14_1 N) N m w2 w3 w7 w8 0 1 ((w7 : Nat) : Int) 0 l0 l1 w10 w11))) | none => none) | false => none)) | none => none) | false => none)) | none => none) | false => none) | none => none) | none => none) | none => none) | none => none) | none => none) | none => none) | false => some (.bool false, [.at false (.int .u8 l0), .at false (.int .u8 l1)])) | none => none) | none => none) | none => none) | none => none) | none => none) | none => none) | false => (match rowS w2 w3 (IntKind.i64.wrap ((IntKind.i64.wrap (w2 + w3)) - (IntKind.i64.wrap (2 * w4)))) (IntKind.i64.wrap ((IntKind.i64.wrap ((IntKind.i64.wrap (w2 + w3)) - (IntKind.i64.wrap (2 * w4)))) - (IntKind.i64.wrap (2 * w5)))) with | true => (match nmO (α := Nat) ((jrD w2 w3 (IntKind.i64.wrap ((IntKind.i64.wrap (w2 + w3)) - (IntKind.i64.wrap (2 * w4)))) (IntKind.i64.wrap ((IntKind.i64.wrap ((IntKind.i64.wrap (w2 + w3)) - (IntKind.i64.wrap (2 * w4)))) - (IntKind.i64.wrap (2 * w5))))).1.length) with | some w21 => (match nmO (α := Nat) ((jrD w2 w3 (IntKind.i64.wrap ((IntKind.i64.wrap (w2 + w3)) - (IntKind.i64.wrap (2 * w4)))) (IntKind.i64.wrap ((IntKind.i64.wrap ((IntKind.i64.wrap (w2 + w3)) - (IntKind.i64.wrap (2 * w4)))) - (IntKind.i64.wrap (2 * w5))))).2.1.length) with | some w22 => (match nmO (α := Nat) ((jrD w2 w3 (IntKind.i64.wrap ((IntKind.i64.wrap (w2 + w3)) - (IntKind.i64.wrap (2 * w4)))) (IntKind.i64.wrap ((IntKind.i64.wrap ((IntKind.i64.wrap (w2 + w3)) - (IntKind.i64.wrap (2 * w4)))) - (IntKind.i64.wrap (2 * w5))))).2.2.length) with | some w23 => (match nmO (α := List Int) ((jrD w2 w3 (IntKind.i64.wrap ((IntKind.i64.wrap (w2 + w3)) - (IntKind.i64.wrap (2 * w4)))) (IntKind.i64.wrap ((IntKind.i64.wrap ((IntKind.i64.wrap (w2 + w3)) - (IntKind.i64.wrap (2 * w4)))) - (IntKind.i64.wrap (2 * w5))))).1) with | some w24 => (match nmO (α := List Int) ((jrD w2 w3 (IntKind.i64.wrap ((IntKind.i64.wrap (w2 + w3)) - (IntKind.i64.wrap (2 * w4)))) (IntKind.i64.wrap ((IntKind.i64.wrap ((IntKind.i64.wrap (w2 + w3)) - (IntKind.i64.wrap (2 * w4)))) - (IntKind.i64.wrap (2 * w5))))).2.1) with | some w25 => (match nmO (α := List Int) ((jrD w2 w3 (IntKind.i64.wrap ((IntKind.i64.wrap (w2 + w3)) - (IntKind.i64.wrap (2 * w4)))) (IntKind.i64.wrap ((IntKind.i64.wrap ((IntKind.i64.wrap (w2 + w3)) - (IntKind.i64.wrap (2 * w4)))) - (IntKind.i64.wrap (2 * w5))))).2.2) with | some w26 => some (.bool false, [.at false (.int .u8 l0), .at false (.int .u8 l1)]) | none => none) | none => none) | none => none) | none => none) | none => none) | none => none) | false => some (.bool false, [.at false (.int .u8 l0), .at false (.int .u8 l1)]))) | none => none) | false => none) | none => none) | false => none) | none => none) | false => none) | none => none) | false => none)) | none => none)
theorem mdl_joiA (N : Nat) (n : Nat) (m : Nat) (l0 : List Int) (l1 : List Int) : run ty tab_joiA an_joiA N Try.f14 [.sl 0 0 n, .sl 1 0 m] [.at false (.int .u8 l0), .at false (.int .u8 l1)] = md_joiA N n m l0 l1 := by
  rw [run_joiA]
  unfold md_joiA
  first | (simp only [H_joiA14 N N]; done) | (simp only [H_joiA14 N N]; kernel_rfl) | rfl
def an_joiB : Ann := ⟨fun r => if r = 14 then some ([1, 5, 6, 10, 11, 17, 18, 117, 118], [1, 4, 5, 6, 17, 18]) else if r = 22 then some ([1, 5, 6, 10, 11, 20, 21, 22, 23, 117, 118], [1, 5, 6, 10, 11, 20, 21, 22, 117, 118]) else if r = 38 then some ([5, 6, 25, 26, 27, 28, 208, 209], [4, 27]) else none, fun _ _ => .quiet⟩
def tab_joiB : Fns := tabT [(57, gLong), (58, gAt), (52, gJr), (51, gJr), (60, gInts), (64, gTo), (33, gJoin), (56, gJnu), (61, gGap)]
theorem tabok_joiB : ∀ f, FnT Try.prog f (tab_joiB f) := (tabT_cons (k := 57) ok_Long (tabT_cons (k := 58) ok_At (tabT_cons (k := 52) ok_jrI (tabT_cons (k := 51) ok_jrS (tabT_cons (k := 60) ok_Ints (tabT_cons (k := 64) ok_toS (tabT_cons (k := 33) ok_jsI (tabT_cons (k := 56) ok_jnI (tabT_cons (k := 61) ok_Gap tabT_nil)))))))))
def st_joiB14 (t5 : Int) (t6 : Int) (t10n : Nat) (t11n : Nat) (t17 : Int) (t18 : Int) (t117 : Int) (t118 : Int) (l0 : List Int) (l1 : List Int) (l2 : List Int) : St := ⟨(.any :: .nil :: .any :: .any :: .any :: .int .i64 t5 :: .int .i64 t6 :: .any :: .any :: .any :: .sl 1 0 t10n :: .sl 2 0 t11n :: .any :: .any :: .any :: .any :: .any :: .int .i64 t17 :: .int .i64 t18 :: (anys 98 (.int .i64 t117 :: .int .i64 t118 :: (anys 219 [])))), [.at false (.int .u8 l0), .at true (.int .i64 l1), .at true (.int .i64 l2)]⟩
abbrev kp_joiB14 : Option (List Nat × List Nat) := some ([1, 5, 6, 10, 11, 17, 18, 117, 118], [1, 4, 5, 6, 17, 18])
noncomputable def lp_joiB14 {R : Type} (N M : Nat) (s : St) (K : X → St → Option R) : Option R := loopH 1 kp_joiB14 (fun st K => exec ty tab_joiB an_joiB N 1 (atOf [true, true, true, true, true, true, true, true, true, true, true, false, true, false, false] Try.f14) st K) M s K
noncomputable def bk_joiB14 {R : Type} (N M : Nat) (K : X → St → Option R) : X → St → Option R := fun x st => match x with | .norm => tidyK 1 (kp_joiB14.map (·.1)) st fun st => lp_joiB14 N M st K | x => tidyK 1 (kp_joiB14.map (·.2)) st fun st => K x st
noncomputable def kt_joiB14 {R : Type} (N : Nat) (K : X → St → Option R) : X → St → Option R := kBlkR 0 (kSeqR tab_joiB an_joiB N 1 (atOf [true, true, true, true, true, true, true, true, true, true, true, true] Try.f14) (K))
def st_joiB22 (t5 : Int) (t6 : Int) (t10n : Nat) (t11n : Nat) (t20 : Int) (t21 : Int) (t22 : Int) (t23 : Int) (t117 : Int) (t118 : Int) (l0 : List Int) (l1 : List Int) (l2 : List Int) : St := ⟨(.any :: .nil :: .any :: .any :: .any :: .int .i64 t5 :: .int .i64 t6 :: .any :: .any :: .any :: .sl 1 0 t10n :: .sl 2 0 t11n :: (anys 8 (.int .i64 t20 :: .int .i64 t21 :: .int .i64 t22 :: .int .i64 t23 :: (anys 93 (.int .i64 t117 :: .int .i64 t118 :: (anys 219 [])))))), [.at false (.int .u8 l0), .at true (.int .i64 l1), .at true (.int .i64 l2)]⟩
abbrev kp_joiB22 : Option (List Nat × List Nat) := some ([1, 5, 6, 10, 11, 20, 21, 22, 23, 117, 118], [1, 5, 6, 10, 11, 20, 21, 22, 117, 118])
noncomputable def lp_joiB22 {R : Type} (N M : Nat) (s : St) (K : X → St → Option R) : Option R := loopH 1 kp_joiB22 (fun st K => exec ty tab_joiB an_joiB N 1 (atOf [true, true, true, true, true, true, true, true, true, true, true, false, true, false, false, true, true, false, false, true, true, true, true, true, true, false, false, false] Try.f14) st K) M s K
noncomputable def kt_joiB22 {R : Type} (N : Nat) (K : X → St → Option R) : X → St → Option R := kBlkR 2 (kSeqR tab_joiB an_joiB N 1 (atOf [true, true, true, true, true, true, true, true, true, true, true, false, true, false, false, true, true, false, false, true, true, true, true, true, true, true] Try.f14) (kBlkR 1 (kSeqR tab_joiB an_joiB N 1 (atOf [true, true, true, true, true, true, true, true, true, true, true, false, true, false, false, true, true, true] Try.f14) (K))))
def st_joiB38 (t5 : Int) (t6 : Int) (t25 : Int) (t26 : Int) (t27 : Nat) (t28n : Nat) (t208 : Int) (t209 : Int) (l0 : List Int) (l1 : List Int) : St := ⟨(.any :: .any :: .any :: .any :: .any :: .int .i64 t5 :: .int .i64 t6 :: (anys 18 (.int .i64 t25 :: .int .i64 t26 :: .fl .f64 t27 :: .sl 1 0 t28n :: (anys 179 (.int .i64 t208 :: .int .i64 t209 :: (anys 128 [])))))), [.at false (.int .u8 l0), .at true (.int .i64 l1)]⟩
abbrev kp_joiB38 : Option (List Nat × List Nat) := some ([5, 6, 25, 26, 27, 28, 208, 209], [4, 27])
noncomputable def lp_joiB38 {R : Type} (N M : Nat) (s : St) (K : X → St → Option R) : Option R := loopH 1 kp_joiB38 (fun st K => exec ty tab_joiB an_joiB N 1 (atOf [true, true, true, true, true, true, true, true, true, true, true, true, true, true, true, true, true, true, false, true, false, false] Try.f14) st K) M s K
noncomputable def kt_joiB38 {R : Type} (N : Nat) (K : X → St → Option R) : X → St → Option R := kBlkR 4 (kSeqR tab_joiB an_joiB N 1 (atOf [true, true, true, true, true, true, true, true, true, true, true, true, true, true, true, true, true, true, true] Try.f14) (K))
def en_joiB14_0 (t5 : Int) (t6 : Int) (t17 : Int) (t18 : Int) (l0 : List Int) : St := ⟨(.any :: .nil :: .any :: .any :: .bool false :: .int .i64 t5 :: .int .i64 t6 :: (anys 10 (.int .i64 t17 :: .int .i64 t18 :: (anys 319 [])))), [.at false (.int .u8 l0)]⟩
def en_joiB14_1 (t5 : Int) (t6 : Int) (t17 : Int) (t18 : Int) (l0 : List Int) : St := ⟨(.any :: .nil :: .any :: .any :: .any :: .int .i64 t5 :: .int .i64 t6 :: (anys 10 (.int .i64 t17 :: .int .i64 t18 :: (anys 319 [])))), [.at false (.int .u8 l0)]⟩
def en_joiB22_0 (t5 : Int) (t6 : Int) (t10n : Nat) (t11n : Nat) (t20 : Int) (t21 : Int) (t22 : Int) (t117 : Int) (t118 : Int) (l0 : List Int) (l1 : List Int) (l2 : List Int) : St := ⟨(.any :: .nil :: .any :: .any :: .any :: .int .i64 t5 :: .int .i64 t6 :: .any :: .any :: .any :: .sl 1 0 t10n :: .sl 2 0 t11n :: (anys 8 (.int .i64 t20 :: .int .i64 t21 :: .int .i64 t22 :: (anys 94 (.int .i64 t117 :: .int .i64 t118 :: (anys 219 [])))))), [.at false (.int .u8 l0), .at true (.int .i64 l1), .at true (.int .i64 l2)]⟩
def en_joiB38_0 (t27 : Nat) (l0 : List Int) : St := ⟨(.any :: .any :: .any :: .any :: .bool false :: (anys 22 (.fl .f64 t27 :: (anys 310 [])))), [.at false (.int .u8 l0)]⟩
def en_joiB38_1 (t27 : Nat) (l0 : List Int) : St := ⟨(anys 27 (.fl .f64 t27 :: (anys 310 []))), [.at false (.int .u8 l0)]⟩
theorem run_joiB (N : Nat) (n : Nat) (l0 : List Int) : run ty tab_joiB an_joiB N Try.f14 [.sl 0 0 n, .nil] [.at false (.int .u8 l0)]
    = (match nmO (α := Bool) (longB n 0) with | some w1 => (match w1 with | true => some (.bool true, [.at false (.int .u8 l0)]) | false => (match atOk 0 [] 0 with | true => (match nmO (α := Int) (atF [] 0 7) with | some w2 => (match atOk 0 [] 1 with | true => (match nmO (α := Int) (atF [] 1 7) with | some w3 => (match atOk 0 [] 2 with | true => (match nmO (α := Int) (atF [] 2 (IntKind.i64.wrap ((if w3 < w2 then w3 else w2) + 1))) with | some w4 => (match atOk 0 [] 3 with | true => (match nmO (α := Int) (atF [] 3 (IntKind.i64.wrap ((IntKind.i64.wrap ((IntKind.i64.wrap (w2 + w3)) - (IntKind.i64.wrap (2 * w4)))) + 1))) with | some w5 => (match rowS w2 w3 (IntKind.i64.wrap ((IntKind.i64.wrap (w2 + w3)) - (IntKind.i64.wrap (2 * w4)))) (IntKind.i64.wrap ((IntKind.i64.wrap ((IntKind.i64.wrap (w2 + w3)) - (IntKind.i64.wrap (2 * w4)))) - (IntKind.i64.wrap (2 * w5)))) with | true => (match nmO (α := Nat) ((jrD w2 w3 (IntKind.i64.wrap ((IntKind.i64.wrap (w2 + w3)) - (IntKind.i64.wrap (2 * w4)))) (IntKind.i64.wrap ((IntKind.i64.wrap ((IntKind.i64.wrap (w2 + w3)) - (IntKind.i64.wrap (2 * w4)))) - (IntKind.i64.wrap (2 * w5))))).1.length) with | some w6 => (match nmO (α := Nat) ((jrD w2 w3 (IntKind.i64.wrap ((IntKind.i64.wrap (w2 + w3)) - (IntKind.i64.wrap (2 * w4)))) (IntKind.i64.wrap ((IntKind.i64.wrap ((IntKind.i64.wrap (w2 + w3)) - (IntKind.i64.wrap (2 * w4)))) - (IntKind.i64.wrap (2 * w5))))).2.1.length) with | some w7 => (match nmO (α := Nat) ((jrD w2 w3 (IntKind.i64.wrap ((IntKind.i64.wrap (w2 + w3)) - (IntKind.i64.wrap (2 * w4)))) (IntKind.i64.wrap ((IntKind.i64.wrap ((IntKind.i64.wrap (w2 + w3)) - (IntKind.i64.wrap (2 * w4)))) - (IntKind.i64.wrap (2 * w5))))).2.2.length) with | some w8 => (match nmO (α := List Int) ((jrD w2 w3 (IntKind.i64.wrap ((IntKind.i64.wrap (w2 + w3)) - (IntKind.i64.wrap (2 * w4)))) (IntKind.i64.wrap ((IntKind.i64.wrap ((IntKind.i64.wrap (w2 + w3)) - (IntKind.i64.wrap (2 * w4)))) - (IntKind.i64.wrap (2 * w5))))).1) with | some w9 => (match nmO (α := List Int) ((jrD w2 w3 (IntKind.i64.wrap ((IntKind.i64.wrap (w2 + w3)) - (IntKind.i64.wrap (2 * w4)))) (IntKind.i64.wrap ((IntKind.i64.wrap ((IntKind.i64.wrap (w2 + w3)) - (IntKind.i64.wrap (2 * w4)))) - (IntKind.i64.wrap (2 * w5))))).2.1) with | some w10 => (match nmO (α := List Int) ((jrD w2 w3 (IntKind.i64.wrap ((IntKind.i64.wrap (w2 + w3)) - (IntKind.i64.wrap (2 * w4)))) (IntKind.i64.wrap ((IntKind.i64.wrap ((IntKind.i64.wrap (w2 + w3)) - (IntKind.i64.wrap (2 * w4)))) - (IntKind.i64.wrap (2 * w5))))).2.2) with | some w11 => (match rowS w2 w3 (IntKind.i64.wrap ((IntKind.i64.wrap (w2 + w3)) - (IntKind.i64.wrap (2 * w4)))) (IntKind.i64.wrap ((IntKind.i64.wrap ((IntKind.i64.wrap (w2 + w3)) - (IntKind.i64.wrap (2 * w4)))) - (IntKind.i64.wrap (2 * w5)))) with | true => (match nmO (α := Nat) ((jrD w2 w3 (IntKind.i64.wrap ((IntKind.i64.wrap (w2 + w3)) - (IntKind.i64.wrap (2 * w4)))) (IntKind.i64.wrap ((IntKind.i64.wrap ((IntKind.i64.wrap (w2 + w3)) - (IntKind.i64.wrap (2 * w4)))) - (IntKind.i64.wrap (2 * w5))))).1.length) with | some w12 => (match nmO (α := Nat) ((jrD w2 w3 (IntKind.i64.wrap ((IntKind.i64.wrap (w2 + w3)) - (IntKind.i64.wrap (2 * w4)))) (IntKind.i64.wrap ((IntKind.i64.wrap ((IntKind.i64.wrap (w2 + w3)) - (IntKind.i64.wrap (2 * w4)))) - (IntKind.i64.wrap (2 * w5))))).2.1.length) with | some w13 => (match nmO (α := Nat) ((jrD w2 w3 (IntKind.i64.wrap ((IntKind.i64.wrap (w2 + w3)) - (IntKind.i64.wrap (2 * w4)))) (IntKind.i64.wrap ((IntKind.i64.wrap ((IntKind.i64.wrap (w2 + w3)) - (IntKind.i64.wrap (2 * w4)))) - (IntKind.i64.wrap (2 * w5))))).2.2.length) with | some w14 => (match nmO (α := List Int) ((jrD w2 w3 (IntKind.i64.wrap ((IntKind.i64.wrap (w2 + w3)) - (IntKind.i64.wrap (2 * w4)))) (IntKind.i64.wrap ((IntKind.i64.wrap ((IntKind.i64.wrap (w2 + w3)) - (IntKind.i64.wrap (2 * w4)))) - (IntKind.i64.wrap (2 * w5))))).1) with | some w15 => (match nmO (α := List Int) ((jrD w2 w3 (IntKind.i64.wrap ((IntKind.i64.wrap (w2 + w3)) - (IntKind.i64.wrap (2 * w4)))) (IntKind.i64.wrap ((IntKind.i64.wrap ((IntKind.i64.wrap (w2 + w3)) - (IntKind.i64.wrap (2 * w4)))) - (IntKind.i64.wrap (2 * w5))))).2.1) with | some w16 => (match nmO (α := List Int) ((jrD w2 w3 (IntKind.i64.wrap ((IntKind.i64.wrap (w2 + w3)) - (IntKind.i64.wrap (2 * w4)))) (IntKind.i64.wrap ((IntKind.i64.wrap ((IntKind.i64.wrap (w2 + w3)) - (IntKind.i64.wrap (2 * w4)))) - (IntKind.i64.wrap (2 * w5))))).2.2) with | some w17 => (match eqOk w6 w12 w9 w15 with | true => (match nmO (α := Bool) (eqIB w9 w15) with | some w18 => (match !w18 with | true => some (.bool false, [.at false (.int .u8 l0)]) | false => (match eqOk w7 w13 w10 w16 with | true => (match nmO (α := Bool) (eqIB w10 w16) with | some w19 => (match !w19 with | true => some (.bool false, [.at false (.int .u8 l0)]) | false => (match eqOk w8 w14 w11 w17 with | true => (match nmO (α := Bool) (eqIB w11 w17) with | some w20 => (match !w20 with | true => some (.bool false, [.at false (.int .u8 l0)]) | false => (match decide ((((w7 : Nat) : Int) : Int) < 1) with | true => some (.bool false, [.at false (.int .u8 l0)]) | false => lp_joiB14 N N (st_joiB14 w2 w3 w7 w8 0 1 ((w7 : Nat) : Int) 0 l0 w10 w11) (kt_joiB14 N (kEnd Try.f14 1)))) | none => none) | false => none)) | none => none) | false => none)) | none => none) | false => none) | none => none) | none => none) | none => none) | none => none) | none => none) | none => none) | false => some (.bool false, [.at false (.int .u8 l0)])) | none => none) | none => none) | none => none) | none => none) | none => none) | none => none) | false => (match rowS w2 w3 (IntKind.i64.wrap ((IntKind.i64.wrap (w2 + w3)) - (IntKind.i64.wrap (2 * w4)))) (IntKind.i64.wrap ((IntKind.i64.wrap ((IntKind.i64.wrap (w2 + w3)) - (IntKind.i64.wrap (2 * w4)))) - (IntKind.i64.wrap (2 * w5)))) with | true => (match nmO (α := Nat) ((jrD w2 w3 (IntKind.i64.wrap ((IntKind.i64.wrap (w2 + w3)) - (IntKind.i64.wrap (2 * w4)))) (IntKind.i64.wrap ((IntKind.i64.wrap ((IntKind.i64.wrap (w2 + w3)) - (IntKind.i64.wrap (2 * w4)))) - (IntKind.i64.wrap (2 * w5))))).1.length) with | some w21 => (match nmO (α := Nat) ((jrD w2 w3 (IntKind.i64.wrap ((IntKind.i64.wrap (w2 + w3)) - (IntKind.i64.wrap (2 * w4)))) (IntKind.i64.wrap ((IntKind.i64.wrap ((IntKind.i64.wrap (w2 + w3)) - (IntKind.i64.wrap (2 * w4)))) - (IntKind.i64.wrap (2 * w5))))).2.1.length) with | some w22 => (match nmO (α := Nat) ((jrD w2 w3 (IntKind.i64.wrap ((IntKind.i64.wrap (w2 + w3)) - (IntKind.i64.wrap (2 * w4)))) (IntKind.i64.wrap ((IntKind.i64.wrap ((IntKind.i64.wrap (w2 + w3)) - (IntKind.i64.wrap (2 * w4)))) - (IntKind.i64.wrap (2 * w5))))).2.2.length) with | some w23 => (match nmO (α := List Int) ((jrD w2 w3 (IntKind.i64.wrap ((IntKind.i64.wrap (w2 + w3)) - (IntKind.i64.wrap (2 * w4)))) (IntKind.i64.wrap ((IntKind.i64.wrap ((IntKind.i64.wrap (w2 + w3)) - (IntKind.i64.wrap (2 * w4)))) - (IntKind.i64.wrap (2 * w5))))).1) with | some w24 => (match nmO (α := List Int) ((jrD w2 w3 (IntKind.i64.wrap ((IntKind.i64.wrap (w2 + w3)) - (IntKind.i64.wrap (2 * w4)))) (IntKind.i64.wrap ((IntKind.i64.wrap ((IntKind.i64.wrap (w2 + w3)) - (IntKind.i64.wrap (2 * w4)))) - (IntKind.i64.wrap (2 * w5))))).2.1) with | some w25 => (match nmO (α := List Int) ((jrD w2 w3 (IntKind.i64.wrap ((IntKind.i64.wrap (w2 + w3)) - (IntKind.i64.wrap (2 * w4)))) (IntKind.i64.wrap ((IntKind.i64.wrap ((IntKind.i64.wrap (w2 + w3)) - (IntKind.i64.wrap (2 * w4)))) - (IntKind.i64.wrap (2 * w5))))).2.2) with | some w26 => some (.bool false, [.at false (.int .u8 l0)]) | none => none) | none => none) | none => none) | none => none) | none => none) | none => none) | false => some (.bool false, [.at false (.int .u8 l0)]))) | none => none) | false => none) | none => none) | false => none) | none => none) | false => none) | none => none) | false => none)) | none => none) := by
  kernel_rfl
theorem step_joiB14 {R : Type} (N M : Nat) (K : X → St → Option R) (t5 : Int) (t6 : Int) (t10n : Nat) (t11n : Nat) (t17 : Int) (t18 : Int) (t117 : Int) (t118 : Int) (l0 : List Int) (l1 : List Int) (l2 : List Int) : lp_joiB14 N (M + 1) (st_joiB14 t5 t6 t10n t11n t17 t18 t117 t118 l0 l1 l2) K
    = (match decide ((t118 : Int) < t117) with | true => (match decide (0 ≤ (t118 : Int) ∧ (t118 : Int) < ((t11n : Nat) : Int)) with | true => (match l2[0 + (t118).toNat * 1]? with | some e1 => (match decide ((e1 : Int) < 1) with | true => K .ret (en_joiB14_0 t5 t6 t17 t18 l0) | false => (match decide (0 ≤ (t118 : Int) ∧ (t118 : Int) < ((t10n : Nat) : Int)) with | true => (match l1[0 + (t118).toNat * 1]? with | some e2 => (match decide ((e2 : Int) < 0) with | true => K .ret (en_joiB14_0 t5 t6 t17 t18 l0) | false => (match decide (0 ≤ (t118 : Int) ∧ (t118 : Int) < ((t10n : Nat) : Int)) with | true => (match l1[0 + (t118).toNat * 1]? with | some e3 => (match decide (0 ≤ (t118 : Int) ∧ (t118 : Int) < ((t11n : Nat) : Int)) with | true => (match l2[0 + (t118).toNat * 1]? with | some e4 => (match decide ((e3 : Int) > e4) with | true => K .ret (en_joiB14_0 t5 t6 t17 t18 l0) | false => (match decide (0 ≤ (t118 : Int) ∧ (t118 : Int) < ((t11n : Nat) : Int)) with | true => (match l2[0 + (t118).toNat * 1]? with | some e5 => (match decide (0 ≤ (t118 : Int) ∧ (t118 : Int) < ((t10n : Nat) : Int)) with | true => (match l1[0 + (t118).toNat * 1]? with | some e6 => (match decide (0 ≤ (t118 : Int) ∧ (t118 : Int) < ((t11n : Nat) : Int)) with | true => (match l2[0 + (t118).toNat * 1]? with | some e7 => lp_joiB22 N N (st_joiB22 t5 t6 t10n t11n (IntKind.i64.wrap ((IntKind.i64.wrap (t17 * e5)) + (IntKind.i64.wrap (e6 * t18)))) (IntKind.i64.wrap (t18 * e7)) (IntKind.i64.wrap ((IntKind.i64.wrap (t17 * e5)) + (IntKind.i64.wrap (e6 * t18)))) (IntKind.i64.wrap (t18 * e7)) t117 t118 l0 l1 l2) (kt_joiB22 N (bk_joiB14 N M K)) | none => none) | false => none) | none => none) | false => none) | none => none) | false => none)) | none => none) | false => none) | none => none) | false => none)) | none => none) | false => none)) | none => none) | false => none) | false => K (.exit 0) (en_joiB14_1 t5 t6 t17 t18 l0)) := by
  kernel_rfl
theorem step_joiB22 {R : Type} (N M : Nat) (K : X → St → Option R) (t5 : Int) (t6 : Int) (t10n : Nat) (t11n : Nat) (t20 : Int) (t21 : Int) (t22 : Int) (t23 : Int) (t117 : Int) (t118 : Int) (l0 : List Int) (l1 : List Int) (l2 : List Int) : lp_joiB22 N (M + 1) (st_joiB22 t5 t6 t10n t11n t20 t21 t22 t23 t117 t118 l0 l1 l2) K
    = (match t23 != 0 with | true => (match decide (t23 = 0) with | true => none | false => lp_joiB22 N M (st_joiB22 t5 t6 t10n t11n t20 t21 t23 (Int.tmod t22 t23) t117 t118 l0 l1 l2) K) | false => K (.exit 2) (en_joiB22_0 t5 t6 t10n t11n t20 t21 t22 t117 t118 l0 l1 l2)) := by
  kernel_rfl
theorem step_joiB38 {R : Type} (N M : Nat) (K : X → St → Option R) (t5 : Int) (t6 : Int) (t25 : Int) (t26 : Int) (t27 : Nat) (t28n : Nat) (t208 : Int) (t209 : Int) (l0 : List Int) (l1 : List Int) : lp_joiB38 N (M + 1) (st_joiB38 t5 t6 t25 t26 t27 t28n t208 t209 l0 l1) K
    = (match decide ((t209 : Int) < t208) with | true => (match decide (0 ≤ (t209 : Int) ∧ (t209 : Int) < ((t28n : Nat) : Int)) with | true => (match l1[0 + (t209).toNat * 1]? with | some e1 => (match decide ((IntKind.i64.wrap (t25 + t26) : Int) > e1) with | true => lp_joiB38 N M (st_joiB38 t5 t6 t25 t26 t27 t28n t208 (IntKind.i64.wrap (t209 + 1)) l0 l1) K | false => (match decide (0 ≤ (t209 : Int) ∧ (t209 : Int) < ((t28n : Nat) : Int)) with | true => (match l1[0 + (t209).toNat * 1]? with | some e2 => (match decide ((IntKind.i64.wrap ((IntKind.i64.wrap (0 - t25)) - t26) : Int) > e2) with | true => lp_joiB38 N M (st_joiB38 t5 t6 t25 t26 t27 t28n t208 (IntKind.i64.wrap (t209 + 1)) l0 l1) K | false => (match decide (0 ≤ (t209 : Int) ∧ (t209 : Int) < ((t28n : Nat) : Int)) with | true => (match l1[0 + (t209).toNat * 1]? with | some e3 => (match canS t5 t25 t6 t26 e3 with | true => (match nmO (α := Int) ((jV t5 t25 t6 t26 e3).1) with | some w4 => (match nmO (α := Int) ((jV t5 t25 t6 t26 e3).2.1) with | some w5 => (match nmO (α := Int) ((jV t5 t25 t6 t26 e3).2.2) with | some w6 => (match decide (0 ≤ (t209 : Int) ∧ (t209 : Int) < ((t28n : Nat) : Int)) with | true => (match l1[0 + (t209).toNat * 1]? with | some e7 => (match canS t5 (IntKind.i64.wrap (0 - t25)) t6 (IntKind.i64.wrap (0 - t26)) e7 with | true => (match nmO (α := Int) ((jV t5 (IntKind.i64.wrap (0 - t25)) t6 (IntKind.i64.wrap (0 - t26)) e7).1) with | some w8 => (match nmO (α := Int) ((jV t5 (IntKind.i64.wrap (0 - t25)) t6 (IntKind.i64.wrap (0 - t26)) e7).2.1) with | some w9 => (match nmO (α := Int) ((jV t5 (IntKind.i64.wrap (0 - t25)) t6 (IntKind.i64.wrap (0 - t26)) e7).2.2) with | some w10 => (match decide (0 ≤ (t209 : Int) ∧ (t209 : Int) < ((t28n : Nat) : Int)) with | true => (match l1[0 + (t209).toNat * 1]? with | some e11 => (match canS t5 t25 t6 t26 e11 with | true => (match nmO (α := Nat) (jF (jV t5 t25 t6 t26 e11)) with | some w12 => (match w5 != w9 with | true => K .ret (en_joiB38_0 t27 l0) | false => (match w6 != w10 with | true => K .ret (en_joiB38_0 t27 l0) | false => (match fconv .f32 w12 .f64 with | some c13 => (match fconv .f32 w12 .f64 with | some c14 => (match nmO (α := Nat) (gapD (fop .mul .f64 (fop .mul .f64 c13 c14) (floatOfInt .f64 w6)) (floatOfInt .f64 w5)) with | some w15 => (match gtD w15 (fop .mul .f64 4562254508917369340 (floatOfInt .f64 w6)) with | true => K .ret (en_joiB38_0 t27 l0) | false => (match decide (0 ≤ (t209 : Int) ∧ (t209 : Int) < ((t28n : Nat) : Int)) with | true => (match l1[0 + (t209).toNat * 1]? with | some e16 => (match (Int.tmod (IntKind.i64.wrap (Int.tdiv (IntKind.i64.wrap ((IntKind.i64.wrap (t5 + t6)) - e16)) 2)) 2) == 1 with | true => (match w8 != (IntKind.i64.wrap (0 - w4)) with | true => K .ret (en_joiB38_0 t27 l0) | false => lp_joiB38 N M (st_joiB38 t5 t6 t25 t26 (fop .add .f64 t27 (fop .quo .f64 (floatOfInt .f64 w5) (floatOfInt .f64 w6))) t28n t208 (IntKind.i64.wrap (t209 + 1)) l0 l1) K) | false => (match w8 != w4 with | true => K .ret (en_joiB38_0 t27 l0) | false => lp_joiB38 N M (st_joiB38 t5 t6 t25 t26 (fop .add .f64 t27 (fop .quo .f64 (floatOfInt .f64 w5) (floatOfInt .f64 w6))) t28n t208 (IntKind.i64.wrap (t209 + 1)) l0 l1) K)) | none => none) | false => none)) | none => none) | none => none) | none => none))) | none => none) | false => K .ret (en_joiB38_0 t27 l0)) | none => none) | false => none) | none => none) | none => none) | none => none) | false => (match decide (0 ≤ (t209 : Int) ∧ (t209 : Int) < ((t28n : Nat) : Int)) with | true => (match l1[0 + (t209).toNat * 1]? with | some e17 => (match canS t5 t25 t6 t26 e17 with | true => (match nmO (α := Nat) (jF (jV t5 t25 t6 t26 e17)) with | some w18 => K .ret (en_joiB38_0 t27 l0) | none => none) | false => K .ret (en_joiB38_0 t27 l0)) | none => none) | false => none)) | none => none) | false => none) | none => none) | none => none) | none => none) | false => (match decide (0 ≤ (t209 : Int) ∧ (t209 : Int) < ((t28n : Nat) : Int)) with | true => (match l1[0 + (t209).toNat * 1]? with | some e19 => (match canS t5 (IntKind.i64.wrap (0 - t25)) t6 (IntKind.i64.wrap (0 - t26)) e19 with | true => (match nmO (α := Int) ((jV t5 (IntKind.i64.wrap (0 - t25)) t6 (IntKind.i64.wrap (0 - t26)) e19).1) with | some w20 => (match nmO (α := Int) ((jV t5 (IntKind.i64.wrap (0 - t25)) t6 (IntKind.i64.wrap (0 - t26)) e19).2.1) with | some w21 => (match nmO (α := Int) ((jV t5 (IntKind.i64.wrap (0 - t25)) t6 (IntKind.i64.wrap (0 - t26)) e19).2.2) with | some w22 => (match decide (0 ≤ (t209 : Int) ∧ (t209 : Int) < ((t28n : Nat) : Int)) with | true => (match l1[0 + (t209).toNat * 1]? with | some e23 => (match canS t5 t25 t6 t26 e23 with | true => (match nmO (α := Nat) (jF (jV t5 t25 t6 t26 e23)) with | some w24 => K .ret (en_joiB38_0 t27 l0) | none => none) | false => K .ret (en_joiB38_0 t27 l0)) | none => none) | false => none) | none => none) | none => none) | none => none) | false => (match decide (0 ≤ (t209 : Int) ∧ (t209 : Int) < ((t28n : Nat) : Int)) with | true => (match l1[0 + (t209).toNat * 1]? with | some e25 => (match canS t5 t25 t6 t26 e25 with | true => (match nmO (α := Nat) (jF (jV t5 t25 t6 t26 e25)) with | some w26 => K .ret (en_joiB38_0 t27 l0) | none => none) | false => K .ret (en_joiB38_0 t27 l0)) | none => none) | false => none)) | none => none) | false => none)) | none => none) | false => none)) | none => none) | false => none)) | none => none) | false => none) | false => K (.exit 4) (en_joiB38_1 t27 l0)) := by
  kernel_rfl
theorem end_joiB14_0 (N : Nat) (t5 : Int) (t6 : Int) (t17 : Int) (t18 : Int) (l0 : List Int) : kt_joiB14 N (kEnd Try.f14 1) .ret (en_joiB14_0 t5 t6 t17 t18 l0)
    = some (.bool false, [.at false (.int .u8 l0)]) := by
  kernel_rfl
theorem end_joiB14_1 (N : Nat) (t5 : Int) (t6 : Int) (t17 : Int) (t18 : Int) (l0 : List Int) : kt_joiB14 N (kEnd Try.f14 1) (.exit 0) (en_joiB14_1 t5 t6 t17 t18 l0)
    = (match t17 != 1 with | true => some (.bool false, [.at false (.int .u8 l0)]) | false => (match t18 != 1 with | true => some (.bool false, [.at false (.int .u8 l0)]) | false => (match atOk 0 [] 4 with | true => (match nmO (α := Int) (atF [] 4 (IntKind.i64.wrap (t5 + 1))) with | some w1 => (match atOk 0 [] 5 with | true => (match nmO (α := Int) (atF [] 5 (IntKind.i64.wrap (t6 + 1))) with | some w2 => (match is6 t5 && is6 t6 with | true => (match nmO (α := Nat) ((toD t5 t6).length) with | some w3 => (match nmO (α := List Int) ((toD t5 t6)) with | some w4 => lp_joiB38 N N (st_joiB38 t5 t6 (IntKind.i64.wrap (t5 - (IntKind.i64.wrap (2 * w1)))) (IntKind.i64.wrap (t6 - (IntKind.i64.wrap (2 * w2)))) 0 w3 ((w3 : Nat) : Int) 0 l0 w4) (kt_joiB38 N (kEnd Try.f14 1)) | none => none) | none => none) | false => some (.bool false, [.at false (.int .u8 l0)])) | none => none) | false => none) | none => none) | false => none))) := by
  kernel_rfl
theorem end_joiB22_0 {R : Type} (N M : Nat) (K : X → St → Option R) (t5 : Int) (t6 : Int) (t10n : Nat) (t11n : Nat) (t20 : Int) (t21 : Int) (t22 : Int) (t117 : Int) (t118 : Int) (l0 : List Int) (l1 : List Int) (l2 : List Int) : kt_joiB22 N (bk_joiB14 N M K) (.exit 2) (en_joiB22_0 t5 t6 t10n t11n t20 t21 t22 t117 t118 l0 l1 l2)
    = (match decide (t22 = 0) with | true => none | false => (match decide (t22 = 0) with | true => none | false => lp_joiB14 N M (st_joiB14 t5 t6 t10n t11n (IntKind.i64.wrap (Int.tdiv t20 t22)) (IntKind.i64.wrap (Int.tdiv t21 t22)) t117 (IntKind.i64.wrap (t118 + 1)) l0 l1 l2) K)) := by
  kernel_rfl
theorem end_joiB38_0 (N : Nat) (t27 : Nat) (l0 : List Int) : kt_joiB38 N (kEnd Try.f14 1) .ret (en_joiB38_0 t27 l0)
    = some (.bool false, [.at false (.int .u8 l0)]) := by
  kernel_rfl
theorem end_joiB38_1 (N : Nat) (t27 : Nat) (l0 : List Int) : kt_joiB38 N (kEnd Try.f14 1) (.exit 4) (en_joiB38_1 t27 l0)
    = (match nmO (α := Nat) (gapD t27 4607182418800017408) with | some w1 => some (.bool (ltD w1 4562254508917369340), [.at false (.int .u8 l0)]) | none => none) := by
  kernel_rfl
noncomputable def ce_joiB22_0 (N : Nat) (g : Int → Int → Nat → Nat → Int → Int → Int → Int → List Int → List Int → List Int → Option (V × H)) (q0 : Int → Int → Int → Int → List Int → Option (V × H)) (q1 : Int → Int → Int → Int → List Int → Option (V × H))  : Int → Int → Nat → Nat → Int → Int → Int → Int → Int → List Int → List Int → List Int → Option (V × H) := fun (t5 : Int) (t6 : Int) (t10n : Nat) (t11n : Nat) (t20 : Int) (t21 : Int) (t22 : Int) (t117 : Int) (t118 : Int) (l0 : List Int) (l1 : List Int) (l2 : List Int) => (match decide (t22 = 0) with | true => none | false => (match decide (t22 = 0) with | true => none | false => (g t5 t6 t10n t11n (IntKind.i64.wrap (Int.tdiv t20 t22)) (IntKind.i64.wrap (Int.tdiv t21 t22)) t117 (IntKind.i64.wrap (t118 + 1)) l0 l1 l2)))
noncomputable def mb_joiB22 (N : Nat) (k0 : Int → Int → Nat → Nat → Int → Int → Int → Int → Int → List Int → List Int → List Int → Option (V × H)) (rq : Int → Int → Nat → Nat → Int → Int → Int → Int → Int → Int → List Int → List Int → List Int → Option (V × H)) : Int → Int → Nat → Nat → Int → Int → Int → Int → Int → Int → List Int → List Int → List Int → Option (V × H) := fun (t5 : Int) (t6 : Int) (t10n : Nat) (t11n : Nat) (t20 : Int) (t21 : Int) (t22 : Int) (t23 : Int) (t117 : Int) (t118 : Int) (l0 : List Int) (l1 : List Int) (l2 : List Int) => (match t23 != 0 with | true => (match decide (t23 = 0) with | true => none | false => (rq t5 t6 t10n t11n t20 t21 t23 (Int.tmod t22 t23) t117 t118 l0 l1 l2)) | false => (k0 t5 t6 t10n t11n t20 t21 t22 t117 t118 l0 l1 l2))
noncomputable def mr_joiB22 (N : Nat) (k0 : Int → Int → Nat → Nat → Int → Int → Int → Int → Int → List Int → List Int → List Int → Option (V × H)) (M : Nat) : Int → Int → Nat → Nat → Int → Int → Int → Int → Int → Int → List Int → List Int → List Int → Option (V × H) := Nat.rec (motive := fun _ => Int → Int → Nat → Nat → Int → Int → Int → Int → Int → Int → List Int → List Int → List Int → Option (V × H)) (fun (_ : Int) (_ : Int) (_ : Nat) (_ : Nat) (_ : Int) (_ : Int) (_ : Int) (_ : Int) (_ : Int) (_ : Int) (_ : List Int) (_ : List Int) (_ : List Int) => none) (fun _ rq => mb_joiB22 N k0 rq) M
theorem mrs_joiB22 (N : Nat) (k0 : Int → Int → Nat → Nat → Int → Int → Int → Int → Int → List Int → List Int → List Int → Option (V × H)) (M : Nat) (t5 : Int) (t6 : Int) (t10n : Nat) (t11n : Nat) (t20 : Int) (t21 : Int) (t22 : Int) (t23 : Int) (t117 : Int) (t118 : Int) (l0 : List Int) (l1 : List Int) (l2 : List Int) : mr_joiB22 N k0 (M + 1) t5 t6 t10n t11n t20 t21 t22 t23 t117 t118 l0 l1 l2 = mb_joiB22 N k0 (mr_joiB22 N k0 M) t5 t6 t10n t11n t20 t21 t22 t23 t117 t118 l0 l1 l2 := rfl
theorem H_joiB22 (N : Nat) (Mp : Nat) (K : X → St → Option (V × H)) (g : Int → Int → Nat → Nat → Int → Int → Int → Int → List Int → List Int → List Int → Option (V × H)) (q0 : Int → Int → Int → Int → List Int → Option (V × H)) (q1 : Int → Int → Int → Int → List Int → Option (V × H)) (hg : ∀ (t5 : Int) (t6 : Int) (t10n : Nat) (t11n : Nat) (t17 : Int) (t18 : Int) (t117 : Int) (t118 : Int) (l0 : List Int) (l1 : List Int) (l2 : List Int), lp_joiB14 N Mp (st_joiB14 t5 t6 t10n t11n t17 t18 t117 t118 l0 l1 l2) K = g t5 t6 t10n t11n t17 t18 t117 t118 l0 l1 l2) (hk0 : ∀ (t5 : Int) (t6 : Int) (t17 : Int) (t18 : Int) (l0 : List Int), K .ret (en_joiB14_0 t5 t6 t17 t18 l0) = q0 t5 t6 t17 t18 l0) (hk1 : ∀ (t5 : Int) (t6 : Int) (t17 : Int) (t18 : Int) (l0 : List Int), K (.exit 0) (en_joiB14_1 t5 t6 t17 t18 l0) = q1 t5 t6 t17 t18 l0) : ∀ (M : Nat) (t5 : Int) (t6 : Int) (t10n : Nat) (t11n : Nat) (t20 : Int) (t21 : Int) (t22 : Int) (t23 : Int) (t117 : Int) (t118 : Int) (l0 : List Int) (l1 : List Int) (l2 : List Int), lp_joiB22 N M (st_joiB22 t5 t6 t10n t11n t20 t21 t22 t23 t117 t118 l0 l1 l2) (kt_joiB22 N (bk_joiB14 N Mp K)) = mr_joiB22 N (ce_joiB22_0 N g q0 q1) M t5 t6 t10n t11n t20 t21 t22 t23 t117 t118 l0 l1 l2 := by
  have he0 : ∀ (t5 : Int) (t6 : Int) (t10n : Nat) (t11n : Nat) (t20 : Int) (t21 : Int) (t22 : Int) (t117 : Int) (t118 : Int) (l0 : List Int) (l1 : List Int) (l2 : List Int), kt_joiB22 N (bk_joiB14 N Mp K) (.exit 2) (en_joiB22_0 t5 t6 t10n t11n t20 t21 t22 t117 t118 l0 l1 l2) = ce_joiB22_0 N g q0 q1 t5 t6 t10n t11n t20 t21 t22 t117 t118 l0 l1 l2 := by
    intro t5 t6 t10n t11n t20 t21 t22 t117 t118 l0 l1 l2
    rw [end_joiB22_0]
    unfold ce_joiB22_0
    first | (simp only [hg, hk0, hk1]; done) | (simp only [hg, hk0, hk1]; kernel_rfl) | rfl
  intro M
  induction M with
  | zero => intros; rfl
  | succ M ih =>
    intro t5 t6 t10n t11n t20 t21 t22 t23 t117 t118 l0 l1 l2
    rw [step_joiB22]
    rw [mrs_joiB22]
    unfold mb_joiB22
    first | (simp only [ih, he0]; done) | (simp only [ih, he0]; kernel_rfl) | rfl
noncomputable def ce_joiB38_0 (N : Nat)  : Nat → List Int → Option (V × H) := fun (t27 : Nat) (l0 : List Int) => some (.bool false, [.at false (.int .u8 l0)])
noncomputable def ce_joiB38_1 (N : Nat)  : Nat → List Int → Option (V × H) := fun (t27 : Nat) (l0 : List Int) => (match nmO (α := Nat) (gapD t27 4607182418800017408) with | some w1 => some (.bool (ltD w1 4562254508917369340), [.at false (.int .u8 l0)]) | none => none)
noncomputable def mb_joiB38 (N : Nat) (k0 : Nat → List Int → Option (V × H)) (k1 : Nat → List Int → Option (V × H)) (rq : Int → Int → Int → Int → Nat → Nat → Int → Int → List Int → List Int → Option (V × H)) : Int → Int → Int → Int → Nat → Nat → Int → Int → List Int → List Int → Option (V × H) := fun (t5 : Int) (t6 : Int) (t25 : Int) (t26 : Int) (t27 : Nat) (t28n : Nat) (t208 : Int) (t209 : Int) (l0 : List Int) (l1 : List Int) => (match decide ((t209 : Int) < t208) with | true => (match decide (0 ≤ (t209 : Int) ∧ (t209 : Int) < ((t28n : Nat) : Int)) with | true => (match l1[0 + (t209).toNat * 1]? with | some e1 => (match decide ((IntKind.i64.wrap (t25 + t26) : Int) > e1) with | true => (rq t5 t6 t25 t26 t27 t28n t208 (IntKind.i64.wrap (t209 + 1)) l0 l1) | false => (match decide (0 ≤ (t209 : Int) ∧ (t209 : Int) < ((t28n : Nat) : Int)) with | true => (match l1[0 + (t209).toNat * 1]? with | some e2 => (match decide ((IntKind.i64.wrap ((IntKind.i64.wrap (0 - t25)) - t26) : Int) > e2) with | true => (rq t5 t6 t25 t26 t27 t28n t208 (IntKind.i64.wrap (t209 + 1)) l0 l1) | false => (match decide (0 ≤ (t209 : Int) ∧ (t209 : Int) < ((t28n : Nat) : Int)) with | true => (match l1[0 + (t209).toNat * 1]? with | some e3 => (match canS t5 t25 t6 t26 e3 with | true => (match nmO (α := Int) ((jV t5 t25 t6 t26 e3).1) with | some w4 => (match nmO (α := Int) ((jV t5 t25 t6 t26 e3).2.1) with | some w5 => (match nmO (α := Int) ((jV t5 t25 t6 t26 e3).2.2) with | some w6 => (match decide (0 ≤ (t209 : Int) ∧ (t209 : Int) < ((t28n : Nat) : Int)) with | true => (match l1[0 + (t209).toNat * 1]? with | some e7 => (match canS t5 (IntKind.i64.wrap (0 - t25)) t6 (IntKind.i64.wrap (0 - t26)) e7 with | true => (match nmO (α := Int) ((jV t5 (IntKind.i64.wrap (0 - t25)) t6 (IntKind.i64.wrap (0 - t26)) e7).1) with | some w8 => (match nmO (α := Int) ((jV t5 (IntKind.i64.wrap (0 - t25)) t6 (IntKind.i64.wrap (0 - t26)) e7).2.1) with | some w9 => (match nmO (α := Int) ((jV t5 (IntKind.i64.wrap (0 - t25)) t6 (IntKind.i64.wrap (0 - t26)) e7).2.2) with | some w10 => (match decide (0 ≤ (t209 : Int) ∧ (t209 : Int) < ((t28n : Nat) : Int)) with | true => (match l1[0 + (t209).toNat * 1]? with | some e11 => (match canS t5 t25 t6 t26 e11 with | true => (match nmO (α := Nat) (jF (jV t5 t25 t6 t26 e11)) with | some w12 => (match w5 != w9 with | true => (k0 t27 l0) | false => (match w6 != w10 with | true => (k0 t27 l0) | false => (match fconv .f32 w12 .f64 with | some c13 => (match fconv .f32 w12 .f64 with | some c14 => (match nmO (α := Nat) (gapD (fop .mul .f64 (fop .mul .f64 c13 c14) (floatOfInt .f64 w6)) (floatOfInt .f64 w5)) with | some w15 => (match gtD w15 (fop .mul .f64 4562254508917369340 (floatOfInt .f64 w6)) with | true => (k0 t27 l0) | false => (match decide (0 ≤ (t209 : Int) ∧ (t209 : Int) < ((t28n : Nat) : Int)) with | true => (match l1[0 + (t209).toNat * 1]? with | some e16 => (match (Int.tmod (IntKind.i64.wrap (Int.tdiv (IntKind.i64.wrap ((IntKind.i64.wrap (t5 + t6)) - e16)) 2)) 2) == 1 with | true => (match w8 != (IntKind.i64.wrap (0 - w4)) with | true => (k0 t27 l0) | false => (rq t5 t6 t25 t26 (fop .add .f64 t27 (fop .quo .f64 (floatOfInt .f64 w5) (floatOfInt .f64 w6))) t28n t208 (IntKind.i64.wrap (t209 + 1)) l0 l1)) | false => (match w8 != w4 with | true => (k0 t27 l0) | false => (rq t5 t6 t25 t26 (fop .add .f64 t27 (fop .quo .f64 (floatOfInt .f64 w5) (floatOfInt .f64 w6))) t28n t208 (IntKind.i64.wrap (t209 + 1)) l0 l1))) | none => none) | false => none)) | none => none) | none => none) | none => none))) | none => none) | false => (k0 t27 l0)) | none => none) | false => none) | none => none) | none => none) | none => none) | false => (match decide (0 ≤ (t209 : Int) ∧ (t209 : Int) < ((t28n : Nat) : Int)) with | true => (match l1[0 + (t209).toNat * 1]? with | some e17 => (match canS t5 t25 t6 t26 e17 with | true => (match nmO (α := Nat) (jF (jV t5 t25 t6 t26 e17)) with | some w18 => (k0 t27 l0) | none => none) | false => (k0 t27 l0)) | none => none) | false => none)) | none => none) | false => none) | none => none) | none => none) | none => none) | false => (match decide (0 ≤ (t209 : Int) ∧ (t209 : Int) < ((t28n : Nat) : Int)) with | true => (match l1[0 + (t209).toNat * 1]? with | some e19 => (match canS t5 (IntKind.i64.wrap (0 - t25)) t6 (IntKind.i64.wrap (0 - t26)) e19 with | true => (match nmO (α := Int) ((jV t5 (IntKind.i64.wrap (0 - t25)) t6 (IntKind.i64.wrap (0 - t26)) e19).1) with | some w20 => (match nmO (α := Int) ((jV t5 (IntKind.i64.wrap (0 - t25)) t6 (IntKind.i64.wrap (0 - t26)) e19).2.1) with | some w21 => (match nmO (α := Int) ((jV t5 (IntKind.i64.wrap (0 - t25)) t6 (IntKind.i64.wrap (0 - t26)) e19).2.2) with | some w22 => (match decide (0 ≤ (t209 : Int) ∧ (t209 : Int) < ((t28n : Nat) : Int)) with | true => (match l1[0 + (t209).toNat * 1]? with | some e23 => (match canS t5 t25 t6 t26 e23 with | true => (match nmO (α := Nat) (jF (jV t5 t25 t6 t26 e23)) with | some w24 => (k0 t27 l0) | none => none) | false => (k0 t27 l0)) | none => none) | false => none) | none => none) | none => none) | none => none) | false => (match decide (0 ≤ (t209 : Int) ∧ (t209 : Int) < ((t28n : Nat) : Int)) with | true => (match l1[0 + (t209).toNat * 1]? with | some e25 => (match canS t5 t25 t6 t26 e25 with | true => (match nmO (α := Nat) (jF (jV t5 t25 t6 t26 e25)) with | some w26 => (k0 t27 l0) | none => none) | false => (k0 t27 l0)) | none => none) | false => none)) | none => none) | false => none)) | none => none) | false => none)) | none => none) | false => none)) | none => none) | false => none) | false => (k1 t27 l0))
noncomputable def mr_joiB38 (N : Nat) (k0 : Nat → List Int → Option (V × H)) (k1 : Nat → List Int → Option (V × H)) (M : Nat) : Int → Int → Int → Int → Nat → Nat → Int → Int → List Int → List Int → Option (V × H) := Nat.rec (motive := fun _ => Int → Int → Int → Int → Nat → Nat → Int → Int → List Int → List Int → Option (V × H)) (fun (_ : Int) (_ : Int) (_ : Int) (_ : Int) (_ : Nat) (_ : Nat) (_ : Int) (_ : Int) (_ : List Int) (_ : List Int) => none) (fun _ rq => mb_joiB38 N k0 k1 rq) M
theorem mrs_joiB38 (N : Nat) (k0 : Nat → List Int → Option (V × H)) (k1 : Nat → List Int → Option (V × H)) (M : Nat) (t5 : Int) (t6 : Int) (t25 : Int) (t26 : Int) (t27 : Nat) (t28n : Nat) (t208 : Int) (t209 : Int) (l0 : List Int) (l1 : List Int) : mr_joiB38 N k0 k1 (M + 1) t5 t6 t25 t26 t27 t28n t208 t209 l0 l1 = mb_joiB38 N k0 k1 (mr_joiB38 N k0 k1 M) t5 t6 t25 t26 t27 t28n t208 t209 l0 l1 := rfl
theorem H_joiB38 (N : Nat) : ∀ (M : Nat) (t5 : Int) (t6 : Int) (t25 : Int) (t26 : Int) (t27 : Nat) (t28n : Nat) (t208 : Int) (t209 : Int) (l0 : List Int) (l1 : List Int), lp_joiB38 N M (st_joiB38 t5 t6 t25 t26 t27 t28n t208 t209 l0 l1) (kt_joiB38 N (kEnd Try.f14 1)) = mr_joiB38 N (ce_joiB38_0 N) (ce_joiB38_1 N) M t5 t6 t25 t26 t27 t28n t208 t209 l0 l1 := by
  have he0 : ∀ (t27 : Nat) (l0 : List Int), kt_joiB38 N (kEnd Try.f14 1) .ret (en_joiB38_0 t27 l0) = ce_joiB38_0 N t27 l0 := by
    intro t27 l0
    rw [end_joiB38_0]
    unfold ce_joiB38_0
    first | (simp only []; done) | (simp only []; kernel_rfl) | rfl
  have he1 : ∀ (t27 : Nat) (l0 : List Int), kt_joiB38 N (kEnd Try.f14 1) (.exit 4) (en_joiB38_1 t27 l0) = ce_joiB38_1 N t27 l0 := by
    intro t27 l0
    rw [end_joiB38_1]
    unfold ce_joiB38_1
    first | (simp only []; done) | (simp only []; kernel_rfl) | rfl
  intro M
  induction M with
  | zero => intros; rfl
  | succ M ih =>
    intro t5 t6 t25 t26 t27 t28n t208 t209 l0 l1
    rw [step_joiB38]
    rw [mrs_joiB38]
    unfold mb_joiB38
    first | (simp only [ih, he0, he1]; done) | (simp only [ih, he0, he1]; kernel_rfl) | rfl
noncomputable def ce_joiB14_0 (N : Nat)  : Int → Int → Int → Int → List Int → Option (V × H) := fun (t5 : Int) (t6 : Int) (t17 : Int) (t18 : Int) (l0 : List Int) => some (.bool false, [.at false (.int .u8 l0)])
noncomputable def ce_joiB14_1 (N : Nat)  : Int → Int → Int → Int → List Int → Option (V × H) := fun (t5 : Int) (t6 : Int) (t17 : Int) (t18 : Int) (l0 : List Int) => (match t17 != 1 with | true => some (.bool false, [.at false (.int .u8 l0)]) | false => (match t18 != 1 with | true => some (.bool false, [.at false (.int .u8 l0)]) | false => (match atOk 0 [] 4 with | true => (match nmO (α := Int) (atF [] 4 (IntKind.i64.wrap (t5 + 1))) with | some w1 => (match atOk 0 [] 5 with | true => (match nmO (α := Int) (atF [] 5 (IntKind.i64.wrap (t6 + 1))) with | some w2 => (match is6 t5 && is6 t6 with | true => (match nmO (α := Nat) ((toD t5 t6).length) with | some w3 => (match nmO (α := List Int) ((toD t5 t6)) with | some w4 => (mr_joiB38 N (ce_joiB38_0 N) (ce_joiB38_1 N) N t5 t6 (IntKind.i64.wrap (t5 - (IntKind.i64.wrap (2 * w1)))) (IntKind.i64.wrap (t6 - (IntKind.i64.wrap (2 * w2)))) 0 w3 ((w3 : Nat) : Int) 0 l0 w4) | none => none) | none => none) | false => some (.bool false, [.at false (.int .u8 l0)])) | none => none) | false => none) | none => none) | false => none)))
noncomputable def mb_joiB14 (N : Nat) (k0 : Int → Int → Int → Int → List Int → Option (V × H)) (k1 : Int → Int → Int → Int → List Int → Option (V × H)) (rq : Int → Int → Nat → Nat → Int → Int → Int → Int → List Int → List Int → List Int → Option (V × H)) : Int → Int → Nat → Nat → Int → Int → Int → Int → List Int → List Int → List Int → Option (V × H) := fun (t5 : Int) (t6 : Int) (t10n : Nat) (t11n : Nat) (t17 : Int) (t18 : Int) (t117 : Int) (t118 : Int) (l0 : List Int) (l1 : List Int) (l2 : List Int) => (match decide ((t118 : Int) < t117) with | true => (match decide (0 ≤ (t118 : Int) ∧ (t118 : Int) < ((t11n : Nat) : Int)) with | true => (match l2[0 + (t118).toNat * 1]? with | some e1 => (match decide ((e1 : Int) < 1) with | true => (k0 t5 t6 t17 t18 l0) | false => (match decide (0 ≤ (t118 : Int) ∧ (t118 : Int) < ((t10n : Nat) : Int)) with | true => (match l1[0 + (t118).toNat * 1]? with | some e2 => (match decide ((e2 : Int) < 0) with | true => (k0 t5 t6 t17 t18 l0) | false => (match decide (0 ≤ (t118 : Int) ∧ (t118 : Int) < ((t10n : Nat) : Int)) with | true => (match l1[0 + (t118).toNat * 1]? with | some e3 => (match decide (0 ≤ (t118 : Int) ∧ (t118 : Int) < ((t11n : Nat) : Int)) with | true => (match l2[0 + (t118).toNat * 1]? with | some e4 => (match decide ((e3 : Int) > e4) with | true => (k0 t5 t6 t17 t18 l0) | false => (match decide (0 ≤ (t118 : Int) ∧ (t118 : Int) < ((t11n : Nat) : Int)) with | true => (match l2[0 + (t118).toNat * 1]? with | some e5 => (match decide (0 ≤ (t118 : Int) ∧ (t118 : Int) < ((t10n : Nat) : Int)) with | true => (match l1[0 + (t118).toNat * 1]? with | some e6 => (match decide (0 ≤ (t118 : Int) ∧ (t118 : Int) < ((t11n : Nat) : Int)) with | true => (match l2[0 + (t118).toNat * 1]? with | some e7 => (mr_joiB22 N (ce_joiB22_0 N (fun t5 t6 t10n t11n t17 t18 t117 t118 l0 l1 l2 => rq t5 t6 t10n t11n t17 t18 t117 t118 l0 l1 l2) k0 k1) N t5 t6 t10n t11n (IntKind.i64.wrap ((IntKind.i64.wrap (t17 * e5)) + (IntKind.i64.wrap (e6 * t18)))) (IntKind.i64.wrap (t18 * e7)) (IntKind.i64.wrap ((IntKind.i64.wrap (t17 * e5)) + (IntKind.i64.wrap (e6 * t18)))) (IntKind.i64.wrap (t18 * e7)) t117 t118 l0 l1 l2) | none => none) | false => none) | none => none) | false => none) | none => none) | false => none)) | none => none) | false => none) | none => none) | false => none)) | none => none) | false => none)) | none => none) | false => none) | false => (k1 t5 t6 t17 t18 l0))
noncomputable def mr_joiB14 (N : Nat) (k0 : Int → Int → Int → Int → List Int → Option (V × H)) (k1 : Int → Int → Int → Int → List Int → Option (V × H)) (M : Nat) : Int → Int → Nat → Nat → Int → Int → Int → Int → List Int → List Int → List Int → Option (V × H) := Nat.rec (motive := fun _ => Int → Int → Nat → Nat → Int → Int → Int → Int → List Int → List Int → List Int → Option (V × H)) (fun (_ : Int) (_ : Int) (_ : Nat) (_ : Nat) (_ : Int) (_ : Int) (_ : Int) (_ : Int) (_ : List Int) (_ : List Int) (_ : List Int) => none) (fun _ rq => mb_joiB14 N k0 k1 rq) M
theorem mrs_joiB14 (N : Nat) (k0 : Int → Int → Int → Int → List Int → Option (V × H)) (k1 : Int → Int → Int → Int → List Int → Option (V × H)) (M : Nat) (t5 : Int) (t6 : Int) (t10n : Nat) (t11n : Nat) (t17 : Int) (t18 : Int) (t117 : Int) (t118 : Int) (l0 : List Int) (l1 : List Int) (l2 : List Int) : mr_joiB14 N k0 k1 (M + 1) t5 t6 t10n t11n t17 t18 t117 t118 l0 l1 l2 = mb_joiB14 N k0 k1 (mr_joiB14 N k0 k1 M) t5 t6 t10n t11n t17 t18 t117 t118 l0 l1 l2 := rfl
theorem H_joiB14 (N : Nat) : ∀ (M : Nat) (t5 : Int) (t6 : Int) (t10n : Nat) (t11n : Nat) (t17 : Int) (t18 : Int) (t117 : Int) (t118 : Int) (l0 : List Int) (l1 : List Int) (l2 : List Int), lp_joiB14 N M (st_joiB14 t5 t6 t10n t11n t17 t18 t117 t118 l0 l1 l2) (kt_joiB14 N (kEnd Try.f14 1)) = mr_joiB14 N (ce_joiB14_0 N) (ce_joiB14_1 N) M t5 t6 t10n t11n t17 t18 t117 t118 l0 l1 l2 := by
  have he0 : ∀ (t5 : Int) (t6 : Int) (t17 : Int) (t18 : Int) (l0 : List Int), kt_joiB14 N (kEnd Try.f14 1) .ret (en_joiB14_0 t5 t6 t17 t18 l0) = ce_joiB14_0 N t5 t6 t17 t18 l0 := by
    intro t5 t6 t17 t18 l0
    rw [end_joiB14_0]
    unfold ce_joiB14_0
    first | (simp only []; done) | (simp only []; kernel_rfl) | rfl
  have he1 : ∀ (t5 : Int) (t6 : Int) (t17 : Int) (t18 : Int) (l0 : List Int), kt_joiB14 N (kEnd Try.f14 1) (.exit 0) (en_joiB14_1 t5 t6 t17 t18 l0) = ce_joiB14_1 N t5 t6 t17 t18 l0 := by
    intro t5 t6 t17 t18 l0
    rw [end_joiB14_1]
    unfold ce_joiB14_1
    first | (simp only [H_joiB38 N N]; done) | (simp only [H_joiB38 N N]; kernel_rfl) | rfl
  intro M
  induction M with
  | zero => intros; rfl
  | succ M ih =>
    intro t5 t6 t10n t11n t17 t18 t117 t118 l0 l1 l2
    rw [step_joiB14]
    have hc22 := H_joiB22 N M (kt_joiB14 N (kEnd Try.f14 1)) (fun t5 t6 t10n t11n t17 t18 t117 t118 l0 l1 l2 => mr_joiB14 N (ce_joiB14_0 N) (ce_joiB14_1 N) M t5 t6 t10n t11n t17 t18 t117 t118 l0 l1 l2) (ce_joiB14_0 N) (ce_joiB14_1 N) (fun t5 t6 t10n t11n t17 t18 t117 t118 l0 l1 l2 => ih t5 t6 t10n t11n t17 t18 t117 t118 l0 l1 l2) he0 he1
    rw [mrs_joiB14]
    unfold mb_joiB14
    first | (simp only [ih, he0, he1, hc22 N]; done) | (simp only [ih, he0, he1, hc22 N]; kernel_rfl) | rfl
noncomputable def md_joiB (N : Nat) (n : Nat) (l0 : List Int) : Option (V × H) := (match nmO (α := Bool) (longB n 0) with | some w1 => (match w1 with | true => some (.bool true, [.at false (.int .u8 l0)]) | false => (match atOk 0 [] 0 with | true => (match nmO (α := Int) (atF [] 0 7) with | some w2 => (match atOk 0 [] 1 with | true => (match nmO (α := Int) (atF [] 1 7) with | some w3 => (match atOk 0 [] 2 with | true => (match nmO (α := Int) (atF [] 2 (IntKind.i64.wrap ((if w3 < w2 then w3 else w2) + 1))) with | some w4 => (match atOk 0 [] 3 with | true => (match nmO (α := Int) (atF [] 3 (IntKind.i64.wrap ((IntKind.i64.wrap ((IntKind.i64.wrap (w2 + w3)) - (IntKind.i64.wrap (2 * w4)))) + 1))) with | some w5 => (match rowS w2 w3 (IntKind.i64.wrap ((IntKind.i64.wrap (w2 + w3)) - (IntKind.i64.wrap (2 * w4)))) (IntKind.i64.wrap ((IntKind.i64.wrap ((IntKind.i64.wrap (w2 + w3)) - (IntKind.i64.wrap (2 * w4)))) - (IntKind.i64.wrap (2 * w5)))) with | true => (match nmO (α := Nat) ((jrD w2 w3 (IntKind.i64.wrap ((IntKind.i64.wrap (w2 + w3)) - (IntKind.i64.wrap (2 * w4)))) (IntKind.i64.wrap ((IntKind.i64.wrap ((IntKind.i64.wrap (w2 + w3)) - (IntKind.i64.wrap (2 * w4)))) - (IntKind.i64.wrap (2 * w5))))).1.length) with | some w6 => (match nmO (α := Nat) ((jrD w2 w3 (IntKind.i64.wrap ((IntKind.i64.wrap (w2 + w3)) - (IntKind.i64.wrap (2 * w4)))) (IntKind.i64.wrap ((IntKind.i64.wrap ((IntKind.i64.wrap (w2 + w3)) - (IntKind.i64.wrap (2 * w4)))) - (IntKind.i64.wrap (2 * w5))))).2.1.length) with | some w7 => (match nmO (α := Nat) ((jrD w2 w3 (IntKind.i64.wrap ((IntKind.i64.wrap (w2 + w3)) - (IntKind.i64.wrap (2 * w4)))) (IntKind.i64.wrap ((IntKind.i64.wrap ((IntKind.i64.wrap (w2 + w3)) - (IntKind.i64.wrap (2 * w4)))) - (IntKind.i64.wrap (2 * w5))))).2.2.length) with | some w8 => (match nmO (α := List Int) ((jrD w2 w3 (IntKind.i64.wrap ((IntKind.i64.wrap (w2 + w3)) - (IntKind.i64.wrap (2 * w4)))) (IntKind.i64.wrap ((IntKind.i64.wrap ((IntKind.i64.wrap (w2 + w3)) - (IntKind.i64.wrap (2 * w4)))) - (IntKind.i64.wrap (2 * w5))))).1) with | some w9 => (match nmO (α := List Int) ((jrD w2 w3 (IntKind.i64.wrap ((IntKind.i64.wrap (w2 + w3)) - (IntKind.i64.wrap (2 * w4)))) (IntKind.i64.wrap ((IntKind.i64.wrap ((IntKind.i64.wrap (w2 + w3)) - (IntKind.i64.wrap (2 * w4)))) - (IntKind.i64.wrap (2 * w5))))).2.1) with | some w10 => (match nmO (α := List Int) ((jrD w2 w3 (IntKind.i64.wrap ((IntKind.i64.wrap (w2 + w3)) - (IntKind.i64.wrap (2 * w4)))) (IntKind.i64.wrap ((IntKind.i64.wrap ((IntKind.i64.wrap (w2 + w3)) - (IntKind.i64.wrap (2 * w4)))) - (IntKind.i64.wrap (2 * w5))))).2.2) with | some w11 => (match rowS w2 w3 (IntKind.i64.wrap ((IntKind.i64.wrap (w2 + w3)) - (IntKind.i64.wrap (2 * w4)))) (IntKind.i64.wrap ((IntKind.i64.wrap ((IntKind.i64.wrap (w2 + w3)) - (IntKind.i64.wrap (2 * w4)))) - (IntKind.i64.wrap (2 * w5)))) with | true => (match nmO (α := Nat) ((jrD w2 w3 (IntKind.i64.wrap ((IntKind.i64.wrap (w2 + w3)) - (IntKind.i64.wrap (2 * w4)))) (IntKind.i64.wrap ((IntKind.i64.wrap ((IntKind.i64.wrap (w2 + w3)) - (IntKind.i64.wrap (2 * w4)))) - (IntKind.i64.wrap (2 * w5))))).1.length) with | some w12 => (match nmO (α := Nat) ((jrD w2 w3 (IntKind.i64.wrap ((IntKind.i64.wrap (w2 + w3)) - (IntKind.i64.wrap (2 * w4)))) (IntKind.i64.wrap ((IntKind.i64.wrap ((IntKind.i64.wrap (w2 + w3)) - (IntKind.i64.wrap (2 * w4)))) - (IntKind.i64.wrap (2 * w5))))).2.1.length) with | some w13 => (match nmO (α := Nat) ((jrD w2 w3 (IntKind.i64.wrap ((IntKind.i64.wrap (w2 + w3)) - (IntKind.i64.wrap (2 * w4)))) (IntKind.i64.wrap ((IntKind.i64.wrap ((IntKind.i64.wrap (w2 + w3)) - (IntKind.i64.wrap (2 * w4)))) - (IntKind.i64.wrap (2 * w5))))).2.2.length) with | some w14 => (match nmO (α := List Int) ((jrD w2 w3 (IntKind.i64.wrap ((IntKind.i64.wrap (w2 + w3)) - (IntKind.i64.wrap (2 * w4)))) (IntKind.i64.wrap ((IntKind.i64.wrap ((IntKind.i64.wrap (w2 + w3)) - (IntKind.i64.wrap (2 * w4)))) - (IntKind.i64.wrap (2 * w5))))).1) with | some w15 => (match nmO (α := List Int) ((jrD w2 w3 (IntKind.i64.wrap ((IntKind.i64.wrap (w2 + w3)) - (IntKind.i64.wrap (2 * w4)))) (IntKind.i64.wrap ((IntKind.i64.wrap ((IntKind.i64.wrap (w2 + w3)) - (IntKind.i64.wrap (2 * w4)))) - (IntKind.i64.wrap (2 * w5))))).2.1) with | some w16 => (match nmO (α := List Int) ((jrD w2 w3 (IntKind.i64.wrap ((IntKind.i64.wrap (w2 + w3)) - (IntKind.i64.wrap (2 * w4)))) (IntKind.i64.wrap ((IntKind.i64.wrap ((IntKind.i64.wrap (w2 + w3)) - (IntKind.i64.wrap (2 * w4)))) - (IntKind.i64.wrap (2 * w5))))).2.2) with | some w17 => (match eqOk w6 w12 w9 w15 with | true => (match nmO (α := Bool) (eqIB w9 w15) with | some w18 => (match !w18 with | true => some (.bool false, [.at false (.int .u8 l0)]) | false => (match eqOk w7 w13 w10 w16 with | true => (match nmO (α := Bool) (eqIB w10 w16) with | some w19 => (match !w19 with | true => some (.bool false, [.at false (.int .u8 l0)]) | false => (match eqOk w8 w14 w11 w17 with | true => (match nmO (α := Bool) (eqIB w11 w17) with | some w20 => (match !w20 with | true => some (.bool false, [.at false (.int .u8 l0)]) | false => (match decide ((((w7 : Nat) : Int) : Int) < 1) with | true => some (.bool false, [.at false (.int .u8 l0)]) | false => (mr_joiB14 N (ce_joiB14_0 N) (ce_joiB14_1 N) N w2 w3 w7 w8 0 1 ((w7 : Nat) : Int) 0 l0 w10 w11))) | none => none) | false => none)) | none => none) | false => none)) | none => none) | false => none) | none => none) | none => none) | none => none) | none => none) | none => none) | none => none) | false => some (.bool false, [.at false (.int .u8 l0)])) | none => none) | none => none) | none => none) | none => none) | none => none) | none => none) | false => (match rowS w2 w3 (IntKind.i64.wrap ((IntKind.i64.wrap (w2 + w3)) - (IntKind.i64.wrap (2 * w4)))) (IntKind.i64.wrap ((IntKind.i64.wrap ((IntKind.i64.wrap (w2 + w3)) - (IntKind.i64.wrap (2 * w4)))) - (IntKind.i64.wrap (2 * w5)))) with | true => (match nmO (α := Nat) ((jrD w2 w3 (IntKind.i64.wrap ((IntKind.i64.wrap (w2 + w3)) - (IntKind.i64.wrap (2 * w4)))) (IntKind.i64.wrap ((IntKind.i64.wrap ((IntKind.i64.wrap (w2 + w3)) - (IntKind.i64.wrap (2 * w4)))) - (IntKind.i64.wrap (2 * w5))))).1.length) with | some w21 => (match nmO (α := Nat) ((jrD w2 w3 (IntKind.i64.wrap ((IntKind.i64.wrap (w2 + w3)) - (IntKind.i64.wrap (2 * w4)))) (IntKind.i64.wrap ((IntKind.i64.wrap ((IntKind.i64.wrap (w2 + w3)) - (IntKind.i64.wrap (2 * w4)))) - (IntKind.i64.wrap (2 * w5))))).2.1.length) with | some w22 => (match nmO (α := Nat) ((jrD w2 w3 (IntKind.i64.wrap ((IntKind.i64.wrap (w2 + w3)) - (IntKind.i64.wrap (2 * w4)))) (IntKind.i64.wrap ((IntKind.i64.wrap ((IntKind.i64.wrap (w2 + w3)) - (IntKind.i64.wrap (2 * w4)))) - (IntKind.i64.wrap (2 * w5))))).2.2.length) with | some w23 => (match nmO (α := List Int) ((jrD w2 w3 (IntKind.i64.wrap ((IntKind.i64.wrap (w2 + w3)) - (IntKind.i64.wrap (2 * w4)))) (IntKind.i64.wrap ((IntKind.i64.wrap ((IntKind.i64.wrap (w2 + w3)) - (IntKind.i64.wrap (2 * w4)))) - (IntKind.i64.wrap (2 * w5))))).1) with | some w24 => (match nmO (α := List Int) ((jrD w2 w3 (IntKind.i64.wrap ((IntKind.i64.wrap (w2 + w3)) - (IntKind.i64.wrap (2 * w4)))) (IntKind.i64.wrap ((IntKind.i64.wrap ((IntKind.i64.wrap (w2 + w3)) - (IntKind.i64.wrap (2 * w4)))) - (IntKind.i64.wrap (2 * w5))))).2.1) with | some w25 => (match nmO (α := List Int) ((jrD w2 w3 (IntKind.i64.wrap ((IntKind.i64.wrap (w2 + w3)) - (IntKind.i64.wrap (2 * w4)))) (IntKind.i64.wrap ((IntKind.i64.wrap ((IntKind.i64.wrap (w2 + w3)) - (IntKind.i64.wrap (2 * w4)))) - (IntKind.i64.wrap (2 * w5))))).2.2) with | some w26 => some (.bool false, [.at false (.int .u8 l0)]) | none => none) | none => none) | none => none) | none => none) | none => none) | none => none) | false => some (.bool false, [.at false (.int .u8 l0)]))) | none => none) | false => none) | none => none) | false => none) | none => none) | false => none) | none => none) | false => none)) | none => none)
theorem mdl_joiB (N : Nat) (n : Nat) (l0 : List Int) : run ty tab_joiB an_joiB N Try.f14 [.sl 0 0 n, .nil] [.at false (.int .u8 l0)] = md_joiB N n l0 := by
  rw [run_joiB]
  unfold md_joiB
  first | (simp only [H_joiB14 N N]; done) | (simp only [H_joiB14 N N]; kernel_rfl) | rfl
def an_joiC : Ann := ⟨fun r => if r = 14 then some ([1, 5, 6, 10, 11, 17, 18, 117, 118], [1, 4, 5, 6, 17, 18]) else if r = 22 then some ([1, 5, 6, 10, 11, 20, 21, 22, 23, 117, 118], [1, 5, 6, 10, 11, 20, 21, 22, 117, 118]) else if r = 38 then some ([5, 6, 25, 26, 27, 28, 208, 209], [4, 27]) else none, fun _ _ => .quiet⟩
def tab_joiC : Fns := tabT [(57, gLong), (58, gAt), (52, gJr), (51, gJr), (60, gInts), (64, gTo), (33, gJoin), (56, gJnu), (61, gGap)]
theorem tabok_joiC : ∀ f, FnT Try.prog f (tab_joiC f) := (tabT_cons (k := 57) ok_Long (tabT_cons (k := 58) ok_At (tabT_cons (k := 52) ok_jrI (tabT_cons (k := 51) ok_jrS (tabT_cons (k := 60) ok_Ints (tabT_cons (k := 64) ok_toS (tabT_cons (k := 33) ok_jsI (tabT_cons (k := 56) ok_jnI (tabT_cons (k := 61) ok_Gap tabT_nil)))))))))
def st_joiC14 (t1n : Nat) (t5 : Int) (t6 : Int) (t10n : Nat) (t11n : Nat) (t17 : Int) (t18 : Int) (t117 : Int) (t118 : Int) (l0 : List Int) (l1 : List Int) (l2 : List Int) : St := ⟨(.any :: .sl 0 0 t1n :: .any :: .any :: .any :: .int .i64 t5 :: .int .i64 t6 :: .any :: .any :: .any :: .sl 1 0 t10n :: .sl 2 0 t11n :: .any :: .any :: .any :: .any :: .any :: .int .i64 t17 :: .int .i64 t18 :: (anys 98 (.int .i64 t117 :: .int .i64 t118 :: (anys 219 [])))), [.at false (.int .u8 l0), .at true (.int .i64 l1), .at true (.int .i64 l2)]⟩
abbrev kp_joiC14 : Option (List Nat × List Nat) := some ([1, 5, 6, 10, 11, 17, 18, 117, 118], [1, 4, 5, 6, 17, 18])
noncomputable def lp_joiC14 {R : Type} (N M : Nat) (s : St) (K : X → St → Option R) : Option R := loopH 1 kp_joiC14 (fun st K => exec ty tab_joiC an_joiC N 1 (atOf [true, true, true, true, true, true, true, true, true, true, true, false, true, false, false] Try.f14) st K) M s K
noncomputable def bk_joiC14 {R : Type} (N M : Nat) (K : X → St → Option R) : X → St → Option R := fun x st => match x with | .norm => tidyK 1 (kp_joiC14.map (·.1)) st fun st => lp_joiC14 N M st K | x => tidyK 1 (kp_joiC14.map (·.2)) st fun st => K x st
noncomputable def kt_joiC14 {R : Type} (N : Nat) (K : X → St → Option R) : X → St → Option R := kBlkR 0 (kSeqR tab_joiC an_joiC N 1 (atOf [true, true, true, true, true, true, true, true, true, true, true, true] Try.f14) (K))
def st_joiC22 (t1n : Nat) (t5 : Int) (t6 : Int) (t10n : Nat) (t11n : Nat) (t20 : Int) (t21 : Int) (t22 : Int) (t23 : Int) (t117 : Int) (t118 : Int) (l0 : List Int) (l1 : List Int) (l2 : List Int) : St := ⟨(.any :: .sl 0 0 t1n :: .any :: .any :: .any :: .int .i64 t5 :: .int .i64 t6 :: .any :: .any :: .any :: .sl 1 0 t10n :: .sl 2 0 t11n :: (anys 8 (.int .i64 t20 :: .int .i64 t21 :: .int .i64 t22 :: .int .i64 t23 :: (anys 93 (.int .i64 t117 :: .int .i64 t118 :: (anys 219 [])))))), [.at false (.int .u8 l0), .at true (.int .i64 l1), .at true (.int .i64 l2)]⟩
abbrev kp_joiC22 : Option (List Nat × List Nat) := some ([1, 5, 6, 10, 11, 20, 21, 22, 23, 117, 118], [1, 5, 6, 10, 11, 20, 21, 22, 117, 118])
noncomputable def lp_joiC22 {R : Type} (N M : Nat) (s : St) (K : X → St → Option R) : Option R := loopH 1 kp_joiC22 (fun st K => exec ty tab_joiC an_joiC N 1 (atOf [true, true, true, true, true, true, true, true, true, true, true, false, true, false, false, true, true, false, false, true, true, true, true, true, true, false, false, false] Try.f14) st K) M s K
noncomputable def kt_joiC22 {R : Type} (N : Nat) (K : X → St → Option R) : X → St → Option R := kBlkR 2 (kSeqR tab_joiC an_joiC N 1 (atOf [true, true, true, true, true, true, true, true, true, true, true, false, true, false, false, true, true, false, false, true, true, true, true, true, true, true] Try.f14) (kBlkR 1 (kSeqR tab_joiC an_joiC N 1 (atOf [true, true, true, true, true, true, true, true, true, true, true, false, true, false, false, true, true, true] Try.f14) (K))))
def st_joiC38 (t5 : Int) (t6 : Int) (t25 : Int) (t26 : Int) (t27 : Nat) (t28n : Nat) (t208 : Int) (t209 : Int) (l0 : List Int) (l1 : List Int) : St := ⟨(.any :: .any :: .any :: .any :: .any :: .int .i64 t5 :: .int .i64 t6 :: (anys 18 (.int .i64 t25 :: .int .i64 t26 :: .fl .f64 t27 :: .sl 1 0 t28n :: (anys 179 (.int .i64 t208 :: .int .i64 t209 :: (anys 128 [])))))), [.at false (.int .u8 l0), .at true (.int .i64 l1)]⟩
abbrev kp_joiC38 : Option (List Nat × List Nat) := some ([5, 6, 25, 26, 27, 28, 208, 209], [4, 27])
noncomputable def lp_joiC38 {R : Type} (N M : Nat) (s : St) (K : X → St → Option R) : Option R := loopH 1 kp_joiC38 (fun st K => exec ty tab_joiC an_joiC N 1 (atOf [true, true, true, true, true, true, true, true, true, true, true, true, true, true, true, true, true, true, false, true, false, false] Try.f14) st K) M s K
noncomputable def kt_joiC38 {R : Type} (N : Nat) (K : X → St → Option R) : X → St → Option R := kBlkR 4 (kSeqR tab_joiC an_joiC N 1 (atOf [true, true, true, true, true, true, true, true, true, true, true, true, true, true, true, true, true, true, true] Try.f14) (K))
def en_joiC14_0 (t1n : Nat) (t5 : Int) (t6 : Int) (t17 : Int) (t18 : Int) (l0 : List Int) : St := ⟨(.any :: .sl 0 0 t1n :: .any :: .any :: .bool false :: .int .i64 t5 :: .int .i64 t6 :: (anys 10 (.int .i64 t17 :: .int .i64 t18 :: (anys 319 [])))), [.at false (.int .u8 l0)]⟩
def en_joiC14_1 (t1n : Nat) (t5 : Int) (t6 : Int) (t17 : Int) (t18 : Int) (l0 : List Int) : St := ⟨(.any :: .sl 0 0 t1n :: .any :: .any :: .any :: .int .i64 t5 :: .int .i64 t6 :: (anys 10 (.int .i64 t17 :: .int .i64 t18 :: (anys 319 [])))), [.at false (.int .u8 l0)]⟩
def en_joiC22_0 (t1n : Nat) (t5 : Int) (t6 : Int) (t10n : Nat) (t11n : Nat) (t20 : Int) (t21 : Int) (t22 : Int) (t117 : Int) (t118 : Int) (l0 : List Int) (l1 : List Int) (l2 : List Int) : St := ⟨(.any :: .sl 0 0 t1n :: .any :: .any :: .any :: .int .i64 t5 :: .int .i64 t6 :: .any :: .any :: .any :: .sl 1 0 t10n :: .sl 2 0 t11n :: (anys 8 (.int .i64 t20 :: .int .i64 t21 :: .int .i64 t22 :: (anys 94 (.int .i64 t117 :: .int .i64 t118 :: (anys 219 [])))))), [.at false (.int .u8 l0), .at true (.int .i64 l1), .at true (.int .i64 l2)]⟩
def en_joiC38_0 (t27 : Nat) (l0 : List Int) : St := ⟨(.any :: .any :: .any :: .any :: .bool false :: (anys 22 (.fl .f64 t27 :: (anys 310 [])))), [.at false (.int .u8 l0)]⟩
def en_joiC38_1 (t27 : Nat) (l0 : List Int) : St := ⟨(anys 27 (.fl .f64 t27 :: (anys 310 []))), [.at false (.int .u8 l0)]⟩
theorem run_joiC (N : Nat) (m : Nat) (l1 : List Int) : run ty tab_joiC an_joiC N Try.f14 [.nil, .sl 0 0 m] [.at false (.int .u8 l1)]
    = (match nmO (α := Bool) (longB 0 m) with | some w1 => (match w1 with | true => some (.bool true, [.at false (.int .u8 l1)]) | false => (match atOk m l1 0 with | true => (match nmO (α := Int) (atF l1 0 7) with | some w2 => (match atOk m l1 1 with | true => (match nmO (α := Int) (atF l1 1 7) with | some w3 => (match atOk m l1 2 with | true => (match nmO (α := Int) (atF l1 2 (IntKind.i64.wrap ((if w3 < w2 then w3 else w2) + 1))) with | some w4 => (match atOk m l1 3 with | true => (match nmO (α := Int) (atF l1 3 (IntKind.i64.wrap ((IntKind.i64.wrap ((IntKind.i64.wrap (w2 + w3)) - (IntKind.i64.wrap (2 * w4)))) + 1))) with | some w5 => (match rowS w2 w3 (IntKind.i64.wrap ((IntKind.i64.wrap (w2 + w3)) - (IntKind.i64.wrap (2 * w4)))) (IntKind.i64.wrap ((IntKind.i64.wrap ((IntKind.i64.wrap (w2 + w3)) - (IntKind.i64.wrap (2 * w4)))) - (IntKind.i64.wrap (2 * w5)))) with | true => (match nmO (α := Nat) ((jrD w2 w3 (IntKind.i64.wrap ((IntKind.i64.wrap (w2 + w3)) - (IntKind.i64.wrap (2 * w4)))) (IntKind.i64.wrap ((IntKind.i64.wrap ((IntKind.i64.wrap (w2 + w3)) - (IntKind.i64.wrap (2 * w4)))) - (IntKind.i64.wrap (2 * w5))))).1.length) with | some w6 => (match nmO (α := Nat) ((jrD w2 w3 (IntKind.i64.wrap ((IntKind.i64.wrap (w2 + w3)) - (IntKind.i64.wrap (2 * w4)))) (IntKind.i64.wrap ((IntKind.i64.wrap ((IntKind.i64.wrap (w2 + w3)) - (IntKind.i64.wrap (2 * w4)))) - (IntKind.i64.wrap (2 * w5))))).2.1.length) with | some w7 => (match nmO (α := Nat) ((jrD w2 w3 (IntKind.i64.wrap ((IntKind.i64.wrap (w2 + w3)) - (IntKind.i64.wrap (2 * w4)))) (IntKind.i64.wrap ((IntKind.i64.wrap ((IntKind.i64.wrap (w2 + w3)) - (IntKind.i64.wrap (2 * w4)))) - (IntKind.i64.wrap (2 * w5))))).2.2.length) with | some w8 => (match nmO (α := List Int) ((jrD w2 w3 (IntKind.i64.wrap ((IntKind.i64.wrap (w2 + w3)) - (IntKind.i64.wrap (2 * w4)))) (IntKind.i64.wrap ((IntKind.i64.wrap ((IntKind.i64.wrap (w2 + w3)) - (IntKind.i64.wrap (2 * w4)))) - (IntKind.i64.wrap (2 * w5))))).1) with | some w9 => (match nmO (α := List Int) ((jrD w2 w3 (IntKind.i64.wrap ((IntKind.i64.wrap (w2 + w3)) - (IntKind.i64.wrap (2 * w4)))) (IntKind.i64.wrap ((IntKind.i64.wrap ((IntKind.i64.wrap (w2 + w3)) - (IntKind.i64.wrap (2 * w4)))) - (IntKind.i64.wrap (2 * w5))))).2.1) with | some w10 => (match nmO (α := List Int) ((jrD w2 w3 (IntKind.i64.wrap ((IntKind.i64.wrap (w2 + w3)) - (IntKind.i64.wrap (2 * w4)))) (IntKind.i64.wrap ((IntKind.i64.wrap ((IntKind.i64.wrap (w2 + w3)) - (IntKind.i64.wrap (2 * w4)))) - (IntKind.i64.wrap (2 * w5))))).2.2) with | some w11 => (match rowS w2 w3 (IntKind.i64.wrap ((IntKind.i64.wrap (w2 + w3)) - (IntKind.i64.wrap (2 * w4)))) (IntKind.i64.wrap ((IntKind.i64.wrap ((IntKind.i64.wrap (w2 + w3)) - (IntKind.i64.wrap (2 * w4)))) - (IntKind.i64.wrap (2 * w5)))) with | true => (match nmO (α := Nat) ((jrD w2 w3 (IntKind.i64.wrap ((IntKind.i64.wrap (w2 + w3)) - (IntKind.i64.wrap (2 * w4)))) (IntKind.i64.wrap ((IntKind.i64.wrap ((IntKind.i64.wrap (w2 + w3)) - (IntKind.i64.wrap (2 * w4)))) - (IntKind.i64.wrap (2 * w5))))).1.length) with | some w12 => (match nmO (α := Nat) ((jrD w2 w3 (IntKind.i64.wrap ((IntKind.i64.wrap (w2 + w3)) - (IntKind.i64.wrap (2 * w4)))) (IntKind.i64.wrap ((IntKind.i64.wrap ((IntKind.i64.wrap (w2 + w3)) - (IntKind.i64.wrap (2 * w4)))) - (IntKind.i64.wrap (2 * w5))))).2.1.length) with | some w13 => (match nmO (α := Nat) ((jrD w2 w3 (IntKind.i64.wrap ((IntKind.i64.wrap (w2 + w3)) - (IntKind.i64.wrap (2 * w4)))) (IntKind.i64.wrap ((IntKind.i64.wrap ((IntKind.i64.wrap (w2 + w3)) - (IntKind.i64.wrap (2 * w4)))) - (IntKind.i64.wrap (2 * w5))))).2.2.length) with | some w14 => (match nmO (α := List Int) ((jrD w2 w3 (IntKind.i64.wrap ((IntKind.i64.wrap (w2 + w3)) - (IntKind.i64.wrap (2 * w4)))) (IntKind.i64.wrap ((IntKind.i64.wrap ((IntKind.i64.wrap (w2 + w3)) - (IntKind.i64.wrap (2 * w4)))) - (IntKind.i64.wrap (2 * w5))))).1) with | some w15 => (match nmO (α := List Int) ((jrD w2 w3 (IntKind.i64.wrap ((IntKind.i64.wrap (w2 + w3)) - (IntKind.i64.wrap (2 * w4)))) (IntKind.i64.wrap ((IntKind.i64.wrap ((IntKind.i64.wrap (w2 + w3)) - (IntKind.i64.wrap (2 * w4)))) - (IntKind.i64.wrap (2 * w5))))).2.1) with | some w16 => (match nmO (α := List Int) ((jrD w2 w3 (IntKind.i64.wrap ((IntKind.i64.wrap (w2 + w3)) - (IntKind.i64.wrap (2 * w4)))) (IntKind.i64.wrap ((IntKind.i64.wrap ((IntKind.i64.wrap (w2 + w3)) - (IntKind.i64.wrap (2 * w4)))) - (IntKind.i64.wrap (2 * w5))))).2.2) with | some w17 => (match eqOk w6 w12 w9 w15 with | true => (match nmO (α := Bool) (eqIB w9 w15) with | some w18 => (match !w18 with | true => some (.bool false, [.at false (.int .u8 l1)]) | false => (match eqOk w7 w13 w10 w16 with | true => (match nmO (α := Bool) (eqIB w10 w16) with | some w19 => (match !w19 with | true => some (.bool false, [.at false (.int .u8 l1)]) | false => (match eqOk w8 w14 w11 w17 with | true => (match nmO (α := Bool) (eqIB w11 w17) with | some w20 => (match !w20 with | true => some (.bool false, [.at false (.int .u8 l1)]) | false => (match decide ((((w7 : Nat) : Int) : Int) < 1) with | true => some (.bool false, [.at false (.int .u8 l1)]) | false => lp_joiC14 N N (st_joiC14 m w2 w3 w7 w8 0 1 ((w7 : Nat) : Int) 0 l1 w10 w11) (kt_joiC14 N (kEnd Try.f14 1)))) | none => none) | false => none)) | none => none) | false => none)) | none => none) | false => none) | none => none) | none => none) | none => none) | none => none) | none => none) | none => none) | false => some (.bool false, [.at false (.int .u8 l1)])) | none => none) | none => none) | none => none) | none => none) | none => none) | none => none) | false => (match rowS w2 w3 (IntKind.i64.wrap ((IntKind.i64.wrap (w2 + w3)) - (IntKind.i64.wrap (2 * w4)))) (IntKind.i64.wrap ((IntKind.i64.wrap ((IntKind.i64.wrap (w2 + w3)) - (IntKind.i64.wrap (2 * w4)))) - (IntKind.i64.wrap (2 * w5)))) with | true => (match nmO (α := Nat) ((jrD w2 w3 (IntKind.i64.wrap ((IntKind.i64.wrap (w2 + w3)) - (IntKind.i64.wrap (2 * w4)))) (IntKind.i64.wrap ((IntKind.i64.wrap ((IntKind.i64.wrap (w2 + w3)) - (IntKind.i64.wrap (2 * w4)))) - (IntKind.i64.wrap (2 * w5))))).1.length) with | some w21 => (match nmO (α := Nat) ((jrD w2 w3 (IntKind.i64.wrap ((IntKind.i64.wrap (w2 + w3)) - (IntKind.i64.wrap (2 * w4)))) (IntKind.i64.wrap ((IntKind.i64.wrap ((IntKind.i64.wrap (w2 + w3)) - (IntKind.i64.wrap (2 * w4)))) - (IntKind.i64.wrap (2 * w5))))).2.1.length) with | some w22 => (match nmO (α := Nat) ((jrD w2 w3 (IntKind.i64.wrap ((IntKind.i64.wrap (w2 + w3)) - (IntKind.i64.wrap (2 * w4)))) (IntKind.i64.wrap ((IntKind.i64.wrap ((IntKind.i64.wrap (w2 + w3)) - (IntKind.i64.wrap (2 * w4)))) - (IntKind.i64.wrap (2 * w5))))).2.2.length) with | some w23 => (match nmO (α := List Int) ((jrD w2 w3 (IntKind.i64.wrap ((IntKind.i64.wrap (w2 + w3)) - (IntKind.i64.wrap (2 * w4)))) (IntKind.i64.wrap ((IntKind.i64.wrap ((IntKind.i64.wrap (w2 + w3)) - (IntKind.i64.wrap (2 * w4)))) - (IntKind.i64.wrap (2 * w5))))).1) with | some w24 => (match nmO (α := List Int) ((jrD w2 w3 (IntKind.i64.wrap ((IntKind.i64.wrap (w2 + w3)) - (IntKind.i64.wrap (2 * w4)))) (IntKind.i64.wrap ((IntKind.i64.wrap ((IntKind.i64.wrap (w2 + w3)) - (IntKind.i64.wrap (2 * w4)))) - (IntKind.i64.wrap (2 * w5))))).2.1) with | some w25 => (match nmO (α := List Int) ((jrD w2 w3 (IntKind.i64.wrap ((IntKind.i64.wrap (w2 + w3)) - (IntKind.i64.wrap (2 * w4)))) (IntKind.i64.wrap ((IntKind.i64.wrap ((IntKind.i64.wrap (w2 + w3)) - (IntKind.i64.wrap (2 * w4)))) - (IntKind.i64.wrap (2 * w5))))).2.2) with | some w26 => some (.bool false, [.at false (.int .u8 l1)]) | none => none) | none => none) | none => none) | none => none) | none => none) | none => none) | false => some (.bool false, [.at false (.int .u8 l1)]))) | none => none) | false => none) | none => none) | false => none) | none => none) | false => none) | none => none) | false => none)) | none => none) := by
  kernel_rfl
theorem step_joiC14 {R : Type} (N M : Nat) (K : X → St → Option R) (t1n : Nat) (t5 : Int) (t6 : Int) (t10n : Nat) (t11n : Nat) (t17 : Int) (t18 : Int) (t117 : Int) (t118 : Int) (l0 : List Int) (l1 : List Int) (l2 : List Int) : lp_joiC14 N (M + 1) (st_joiC14 t1n t5 t6 t10n t11n t17 t18 t117 t118 l0 l1 l2) K
    = (match decide ((t118 : Int) < t117) with | true => (match decide (0 ≤ (t118 : Int) ∧ (t118 : Int) < ((t11n : Nat) : Int)) with | true => (match l2[0 + (t118).toNat * 1]? with | some e1 => (match decide ((e1 : Int) < 1) with | true => K .ret (en_joiC14_0 t1n t5 t6 t17 t18 l0) | false => (match decide (0 ≤ (t118 : Int) ∧ (t118 : Int) < ((t10n : Nat) : Int)) with | true => (match l1[0 + (t118).toNat * 1]? with | some e2 => (match decide ((e2 : Int) < 0) with | true => K .ret (en_joiC14_0 t1n t5 t6 t17 t18 l0) | false => (match decide (0 ≤ (t118 : Int) ∧ (t118 : Int) < ((t10n : Nat) : Int)) with | true => (match l1[0 + (t118).toNat * 1]? with | some e3 => (match decide (0 ≤ (t118 : Int) ∧ (t118 : Int) < ((t11n : Nat) : Int)) with | true => (match l2[0 + (t118).toNat * 1]? with | some e4 => (match decide ((e3 : Int) > e4) with | true => K .ret (en_joiC14_0 t1n t5 t6 t17 t18 l0) | false => (match decide (0 ≤ (t118 : Int) ∧ (t118 : Int) < ((t11n : Nat) : Int)) with | true => (match l2[0 + (t118).toNat * 1]? with | some e5 => (match decide (0 ≤ (t118 : Int) ∧ (t118 : Int) < ((t10n : Nat) : Int)) with | true => (match l1[0 + (t118).toNat * 1]? with | some e6 => (match decide (0 ≤ (t118 : Int) ∧ (t118 : Int) < ((t11n : Nat) : Int)) with | true => (match l2[0 + (t118).toNat * 1]? with | some e7 => lp_joiC22 N N (st_joiC22 t1n t5 t6 t10n t11n (IntKind.i64.wrap ((IntKind.i64.wrap (t17 * e5)) + (IntKind.i64.wrap (e6 * t18)))) (IntKind.i64.wrap (t18 * e7)) (IntKind.i64.wrap ((IntKind.i64.wrap (t17 * e5)) + (IntKind.i64.wrap (e6 * t18)))) (IntKind.i64.wrap (t18 * e7)) t117 t118 l0 l1 l2) (kt_joiC22 N (bk_joiC14 N M K)) | none => none) | false => none) | none => none) | false => none) | none => none) | false => none)) | none => none) | false => none) | none => none) | false => none)) | none => none) | false => none)) | none => none) | false => none) | false => K (.exit 0) (en_joiC14_1 t1n t5 t6 t17 t18 l0)) := by
  kernel_rfl
theorem step_joiC22 {R : Type} (N M : Nat) (K : X → St → Option R) (t1n : Nat) (t5 : Int) (t6 : Int) (t10n : Nat) (t11n : Nat) (t20 : Int) (t21 : Int) (t22 : Int) (t23 : Int) (t117 : Int) (t118 : Int) (l0 : List Int) (l1 : List Int) (l2 : List Int) : lp_joiC22 N (M + 1) (st_joiC22 t1n t5 t6 t10n t11n t20 t21 t22 t23 t117 t118 l0 l1 l2) K
    = (match t23 != 0 with | true => (match decide (t23 = 0) with | true => none | false => lp_joiC22 N M (st_joiC22 t1n t5 t6 t10n t11n t20 t21 t23 (Int.tmod t22 t23) t117 t118 l0 l1 l2) K) | false => K (.exit 2) (en_joiC22_0 t1n t5 t6 t10n t11n t20 t21 t22 t117 t118 l0 l1 l2)) := by
  kernel_rfl
theorem step_joiC38 {R : Type} (N M : Nat) (K : X → St → Option R) (t5 : Int) (t6 : Int) (t25 : Int) (t26 : Int) (t27 : Nat) (t28n : Nat) (t208 : Int) (t209 : Int) (l0 : List Int) (l1 : List Int) : lp_joiC38 N (M + 1) (st_joiC38 t5 t6 t25 t26 t27 t28n t208 t209 l0 l1) K
    = (match decide ((t209 : Int) < t208) with | true => (match decide (0 ≤ (t209 : Int) ∧ (t209 : Int) < ((t28n : Nat) : Int)) with | true => (match l1[0 + (t209).toNat * 1]? with | some e1 => (match decide ((IntKind.i64.wrap (t25 + t26) : Int) > e1) with | true => lp_joiC38 N M (st_joiC38 t5 t6 t25 t26 t27 t28n t208 (IntKind.i64.wrap (t209 + 1)) l0 l1) K | false => (match decide (0 ≤ (t209 : Int) ∧ (t209 : Int) < ((t28n : Nat) : Int)) with | true => (match l1[0 + (t209).toNat * 1]? with | some e2 => (match decide ((IntKind.i64.wrap ((IntKind.i64.wrap (0 - t25)) - t26) : Int) > e2) with | true => lp_joiC38 N M (st_joiC38 t5 t6 t25 t26 t27 t28n t208 (IntKind.i64.wrap (t209 + 1)) l0 l1) K | false => (match decide (0 ≤ (t209 : Int) ∧ (t209 : Int) < ((t28n : Nat) : Int)) with | true => (match l1[0 + (t209).toNat * 1]? with | some e3 => (match canS t5 t25 t6 t26 e3 with | true => (match nmO (α := Int) ((jV t5 t25 t6 t26 e3).1) with | some w4 => (match nmO (α := Int) ((jV t5 t25 t6 t26 e3).2.1) with | some w5 => (match nmO (α := Int) ((jV t5 t25 t6 t26 e3).2.2) with | some w6 => (match decide (0 ≤ (t209 : Int) ∧ (t209 : Int) < ((t28n : Nat) : Int)) with | true => (match l1[0 + (t209).toNat * 1]? with | some e7 => (match canS t5 (IntKind.i64.wrap (0 - t25)) t6 (IntKind.i64.wrap (0 - t26)) e7 with | true => (match nmO (α := Int) ((jV t5 (IntKind.i64.wrap (0 - t25)) t6 (IntKind.i64.wrap (0 - t26)) e7).1) with | some w8 => (match nmO (α := Int) ((jV t5 (IntKind.i64.wrap (0 - t25)) t6 (IntKind.i64.wrap (0 - t26)) e7).2.1) with | some w9 => (match nmO (α := Int) ((jV t5 (IntKind.i64.wrap (0 - t25)) t6 (IntKind.i64.wrap (0 - t26)) e7).2.2) with | some w10 => (match decide (0 ≤ (t209 : Int) ∧ (t209 : Int) < ((t28n : Nat) : Int)) with | true => (match l1[0 + (t209).toNat * 1]? with | some e11 => (match canS t5 t25 t6 t26 e11 with | true => (match nmO (α := Nat) (jF (jV t5 t25 t6 t26 e11)) with | some w12 => (match w5 != w9 with | true => K .ret (en_joiC38_0 t27 l0) | false => (match w6 != w10 with | true => K .ret (en_joiC38_0 t27 l0) | false => (match fconv .f32 w12 .f64 with | some c13 => (match fconv .f32 w12 .f64 with | some c14 => (match nmO (α := Nat) (gapD (fop .mul .f64 (fop .mul .f64 c13 c14) (floatOfInt .f64 w6)) (floatOfInt .f64 w5)) with | some w15 => (match gtD w15 (fop .mul .f64 4562254508917369340 (floatOfInt .f64 w6)) with | true => K .ret (en_joiC38_0 t27 l0) | false => (match decide (0 ≤ (t209 : Int) ∧ (t209 : Int) < ((t28n : Nat) : Int)) with | true => (match l1[0 + (t209).toNat * 1]? with | some e16 => (match (Int.tmod (IntKind.i64.wrap (Int.tdiv (IntKind.i64.wrap ((IntKind.i64.wrap (t5 + t6)) - e16)) 2)) 2) == 1 with | true => (match w8 != (IntKind.i64.wrap (0 - w4)) with | true => K .ret (en_joiC38_0 t27 l0) | false => lp_joiC38 N M (st_joiC38 t5 t6 t25 t26 (fop .add .f64 t27 (fop .quo .f64 (floatOfInt .f64 w5) (floatOfInt .f64 w6))) t28n t208 (IntKind.i64.wrap (t209 + 1)) l0 l1) K) | false => (match w8 != w4 with | true => K .ret (en_joiC38_0 t27 l0) | false => lp_joiC38 N M (st_joiC38 t5 t6 t25 t26 (fop .add .f64 t27 (fop .quo .f64 (floatOfInt .f64 w5) (floatOfInt .f64 w6))) t28n t208 (IntKind.i64.wrap (t209 + 1)) l0 l1) K)) | none => none) | false => none)) | none => none) | none => none) | none => none))) | none => none) | false => K .ret (en_joiC38_0 t27 l0)) | none => none) | false => none) | none => none) | none => none) | none => none) | false => (match decide (0 ≤ (t209 : Int) ∧ (t209 : Int) < ((t28n : Nat) : Int)) with | true => (match l1[0 + (t209).toNat * 1]? with | some e17 => (match canS t5 t25 t6 t26 e17 with | true => (match nmO (α := Nat) (jF (jV t5 t25 t6 t26 e17)) with | some w18 => K .ret (en_joiC38_0 t27 l0) | none => none) | false => K .ret (en_joiC38_0 t27 l0)) | none => none) | false => none)) | none => none) | false => none) | none => none) | none => none) | none => none) | false => (match decide (0 ≤ (t209 : Int) ∧ (t209 : Int) < ((t28n : Nat) : Int)) with | true => (match l1[0 + (t209).toNat * 1]? with | some e19 => (match canS t5 (IntKind.i64.wrap (0 - t25)) t6 (IntKind.i64.wrap (0 - t26)) e19 with | true => (match nmO (α := Int) ((jV t5 (IntKind.i64.wrap (0 - t25)) t6 (IntKind.i64.wrap (0 - t26)) e19).1) with | some w20 => (match nmO (α := Int) ((jV t5 (IntKind.i64.wrap (0 - t25)) t6 (IntKind.i64.wrap (0 - t26)) e19).2.1) with | some w21 => (match nmO (α := Int) ((jV t5 (IntKind.i64.wrap (0 - t25)) t6 (IntKind.i64.wrap (0 - t26)) e19).2.2) with | some w22 => (match decide (0 ≤ (t209 : Int) ∧ (t209 : Int) < ((t28n : Nat) : Int)) with | true => (match l1[0 + (t209).toNat * 1]? with | some e23 => (match canS t5 t25 t6 t26 e23 with | true => (match nmO (α := Nat) (jF (jV t5 t25 t6 t26 e23)) with | some w24 => K .ret (en_joiC38_0 t27 l0) | none => none) | false => K .ret (en_joiC38_0 t27 l0)) | none => none) | false => none) | none => none) | none => none) | none => none) | false => (match decide (0 ≤ (t209 : Int) ∧ (t209 : Int) < ((t28n : Nat) : Int)) with | true => (match l1[0 + (t209).toNat * 1]? with | some e25 => (match canS t5 t25 t6 t26 e25 with | true => (match nmO (α := Nat) (jF (jV t5 t25 t6 t26 e25)) with | some w26 => K .ret (en_joiC38_0 t27 l0) | none => none) | false => K .ret (en_joiC38_0 t27 l0)) | none => none) | false => none)) | none => none) | false => none)) | none => none) | false => none)) | none => none) | false => none)) | none => none) | false => none) | false => K (.exit 4) (en_joiC38_1 t27 l0)) := by
  kernel_rfl
theorem end_joiC14_0 (N : Nat) (t1n : Nat) (t5 : Int) (t6 : Int) (t17 : Int) (t18 : Int) (l0 : List Int) : kt_joiC14 N (kEnd Try.f14 1) .ret (en_joiC14_0 t1n t5 t6 t17 t18 l0)
    = some (.bool false, [.at false (.int .u8 l0)]) := by
  kernel_rfl
theorem end_joiC14_1 (N : Nat) (t1n : Nat) (t5 : Int) (t6 : Int) (t17 : Int) (t18 : Int) (l0 : List Int) : kt_joiC14 N (kEnd Try.f14 1) (.exit 0) (en_joiC14_1 t1n t5 t6 t17 t18 l0)
    = (match t17 != 1 with | true => some (.bool false, [.at false (.int .u8 l0)]) | false => (match t18 != 1 with | true => some (.bool false, [.at false (.int .u8 l0)]) | false => (match atOk t1n l0 4 with | true => (match nmO (α := Int) (atF l0 4 (IntKind.i64.wrap (t5 + 1))) with | some w1 => (match atOk t1n l0 5 with | true => (match nmO (α := Int) (atF l0 5 (IntKind.i64.wrap (t6 + 1))) with | some w2 => (match is6 t5 && is6 t6 with | true => (match nmO (α := Nat) ((toD t5 t6).length) with | some w3 => (match nmO (α := List Int) ((toD t5 t6)) with | some w4 => lp_joiC38 N N (st_joiC38 t5 t6 (IntKind.i64.wrap (t5 - (IntKind.i64.wrap (2 * w1)))) (IntKind.i64.wrap (t6 - (IntKind.i64.wrap (2 * w2)))) 0 w3 ((w3 : Nat) : Int) 0 l0 w4) (kt_joiC38 N (kEnd Try.f14 1)) | none => none) | none => none) | false => some (.bool false, [.at false (.int .u8 l0)])) | none => none) | false => none) | none => none) | false => none))) := by
  kernel_rfl
theorem end_joiC22_0 {R : Type} (N M : Nat) (K : X → St → Option R) (t1n : Nat) (t5 : Int) (t6 : Int) (t10n : Nat) (t11n : Nat) (t20 : Int) (t21 : Int) (t22 : Int) (t117 : Int) (t118 : Int) (l0 : List Int) (l1 : List Int) (l2 : List Int) : kt_joiC22 N (bk_joiC14 N M K) (.exit 2) (en_joiC22_0 t1n t5 t6 t10n t11n t20 t21 t22 t117 t118 l0 l1 l2)
    = (match decide (t22 = 0) with | true => none | false => (match decide (t22 = 0) with | true => none | false => lp_joiC14 N M (st_joiC14 t1n t5 t6 t10n t11n (IntKind.i64.wrap (Int.tdiv t20 t22)) (IntKind.i64.wrap (Int.tdiv t21 t22)) t117 (IntKind.i64.wrap (t118 + 1)) l0 l1 l2) K)) := by
  kernel_rfl
theorem end_joiC38_0 (N : Nat) (t27 : Nat) (l0 : List Int) : kt_joiC38 N (kEnd Try.f14 1) .ret (en_joiC38_0 t27 l0)
    = some (.bool false, [.at false (.int .u8 l0)]) := by
  kernel_rfl
theorem end_joiC38_1 (N : Nat) (t27 : Nat) (l0 : List Int) : kt_joiC38 N (kEnd Try.f14 1) (.exit 4) (en_joiC38_1 t27 l0)
    = (match nmO (α := Nat) (gapD t27 4607182418800017408) with | some w1 => some (.bool (ltD w1 4562254508917369340), [.at false (.int .u8 l0)]) | none => none) := by
  kernel_rfl
noncomputable def ce_joiC22_0 (N : Nat) (g : Nat → Int → Int → Nat → Nat → Int → Int → Int → Int → List Int → List Int → List Int → Option (V × H)) (q0 : Nat → Int → Int → Int → Int → List Int → Option (V × H)) (q1 : Nat → Int → Int → Int → Int → List Int → Option (V × H))  : Nat → Int → Int → Nat → Nat → Int → Int → Int → Int → Int → List Int → List Int → List Int → Option (V × H) := fun (t1n : Nat) (t5 : Int) (t6 : Int) (t10n : Nat) (t11n : Nat) (t20 : Int) (t21 : Int) (t22 : Int) (t117 : Int) (t118 : Int) (l0 : List Int) (l1 : List Int) (l2 : List Int) => (match decide (t22 = 0) with | true => none | false => (match decide (t22 = 0) with | true => none | false => (g t1n t5 t6 t10n t11n (IntKind.i64.wrap (Int.tdiv t20 t22)) (IntKind.i64.wrap (Int.tdiv t21 t22)) t117 (IntKind.i64.wrap (t118 + 1)) l0 l1 l2)))
noncomputable def mb_joiC22 (N : Nat) (k0 : Nat → Int → Int → Nat → Nat → Int → Int → Int → Int → Int → List Int → List Int → List Int → Option (V × H)) (rq : Nat → Int → Int → Nat → Nat → Int → Int → Int → Int → Int → Int → List Int → List Int → List Int → Option (V × H)) : Nat → Int → Int → Nat → Nat → Int → Int → Int → Int → Int → Int → List Int → List Int → List Int → Option (V × H) := fun (t1n : Nat) (t5 : Int) (t6 : Int) (t10n : Nat) (t11n : Nat) (t20 : Int) (t21 : Int) (t22 : Int) (t23 : Int) (t117 : Int) (t118 : Int) (l0 : List Int) (l1 : List Int) (l2 : List Int) => (match t23 != 0 with | true => (match decide (t23 = 0) with | true => none | false => (rq t1n t5 t6 t10n t11n t20 t21 t23 (Int.tmod t22 t23) t117 t118 l0 l1 l2)) | false => (k0 t1n t5 t6 t10n t11n t20 t21 t22 t117 t118 l0 l1 l2))
noncomputable def mr_joiC22 (N : Nat) (k0 : Nat → Int → Int → Nat → Nat → Int → Int → Int → Int → Int → List Int → List Int → List Int → Option (V × H)) (M : Nat) : Nat → Int → Int → Nat → Nat → Int → Int → Int → Int → Int → Int → List Int → List Int → List Int → Option (V × H) := Nat.rec (motive := fun _ => Nat → Int → Int → Nat → Nat → Int → Int → Int → Int → Int → Int → List Int → List Int → List Int → Option (V × H)) (fun (_ : Nat) (_ : Int) (_ : Int) (_ : Nat) (_ : Nat) (_ : Int) (_ : Int) (_ : Int) (_ : Int) (_ : Int) (_ : Int) (_ : List Int) (_ : List Int) (_ : List Int) => none) (fun _ rq => mb_joiC22 N k0 rq) M
theorem mrs_joiC22 (N : Nat) (k0 : Nat → Int → Int → Nat → Nat → Int → Int → Int → Int → Int → List Int → List Int → List Int → Option (V × H)) (M : Nat) (t1n : Nat) (t5 : Int) (t6 : Int) (t10n : Nat) (t11n : Nat) (t20 : Int) (t21 : Int) (t22 : Int) (t23 : Int) (t117 : Int) (t118 : Int) (l0 : List Int) (l1 : List Int) (l2 : List Int) : mr_joiC22 N k0 (M + 1) t1n t5 t6 t10n t11n t20 t21 t22 t23 t117 t118 l0 l1 l2 = mb_joiC22 N k0 (mr_joiC22 N k0 M) t1n t5 t6 t10n t11n t20 t21 t22 t23 t117 t118 l0 l1 l2 := rfl
theorem H_joiC22 (N : Nat) (Mp : Nat) (K : X → St → Option (V × H)) (g : Nat → Int → Int → Nat → Nat → Int → Int → Int → Int → List Int → List Int → List Int → Option (V × H)) (q0 : Nat → Int → Int → Int → Int → List Int → Option (V × H)) (q1 : Nat → Int → Int → Int → Int → List Int → Option (V × H)) (hg : ∀ (t1n : Nat) (t5 : Int) (t6 : Int) (t10n : Nat) (t11n : Nat) (t17 : Int) (t18 : Int) (t117 : Int) (t118 : Int) (l0 : List Int) (l1 : List Int) (l2 : List Int), lp_joiC14 N Mp (st_joiC14 t1n t5 t6 t10n t11n t17 t18 t117 t118 l0 l1 l2) K = g t1n t5 t6 t10n t11n t17 t18 t117 t118 l0 l1 l2) (hk0 : ∀ (t1n : Nat) (t5 : Int) (t6 : Int) (t17 : Int) (t18 : Int) (l0 : List Int), K .ret (en_joiC14_0 t1n t5 t6 t17 t18 l0) = q0 t1n t5 t6 t17 t18 l0) (hk1 : ∀ (t1n : Nat) (t5 : Int) (t6 : Int) (t17 : Int) (t18 : Int) (l0 : List Int), K (.exit 0) (en_joiC14_1 t1n t5 t6 t17 t18 l0) = q1 t1n t5 t6 t17 t18 l0) : ∀ (M : Nat) (t1n : Nat) (t5 : Int) (t6 : Int) (t10n : Nat) (t11n : Nat) (t20 : Int) (t21 : Int) (t22 : Int) (t23 : Int) (t117 : Int) (t118 : Int) (l0 : List Int) (l1 : List Int) (l2 : List Int), lp_joiC22 N M (st_joiC22 t1n t5 t6 t10n t11n t20 t21 t22 t23 t117 t118 l0 l1 l2) (kt_joiC22 N (bk_joiC14 N Mp K)) = mr_joiC22 N (ce_joiC22_0 N g q0 q1) M t1n t5 t6 t10n t11n t20 t21 t22 t23 t117 t118 l0 l1 l2 := by
  have he0 : ∀ (t1n : Nat) (t5 : Int) (t6 : Int) (t10n : Nat) (t11n : Nat) (t20 : Int) (t21 : Int) (t22 : Int) (t117 : Int) (t118 : Int) (l0 : List Int) (l1 : List Int) (l2 : List Int), kt_joiC22 N (bk_joiC14 N Mp K) (.exit 2) (en_joiC22_0 t1n t5 t6 t10n t11n t20 t21 t22 t117 t118 l0 l1 l2) = ce_joiC22_0 N g q0 q1 t1n t5 t6 t10n t11n t20 t21 t22 t117 t118 l0 l1 l2 := by
    intro t1n t5 t6 t10n t11n t20 t21 t22 t117 t118 l0 l1 l2
    rw [end_joiC22_0]
    unfold ce_joiC22_0
    first | (simp only [hg, hk0, hk1]; done) | (simp only [hg, hk0, hk1]; kernel_rfl) | rfl
  intro M
  induction M with
  | zero => intros; rfl
  | succ M ih =>
    intro t1n t5 t6 t10n t11n t20 t21 t22 t23 t117 t118 l0 l1 l2
    rw [step_joiC22]
    rw [mrs_joiC22]
    unfold mb_joiC22
    first | (simp only [ih, he0]; done) | (simp only [ih, he0]; kernel_rfl) | rfl
noncomputable def ce_joiC38_0 (N : Nat)  : Nat → List Int → Option (V × H) := fun (t27 : Nat) (l0 : List Int) => some (.bool false, [.at false (.int .u8 l0)])
noncomputable def ce_joiC38_1 (N : Nat)  : Nat → List Int → Option (V × H) := fun (t27 : Nat) (l0 : List Int) => (match nmO (α := Nat) (gapD t27 4607182418800017408) with | some w1 => some (.bool (ltD w1 4562254508917369340), [.at false (.int .u8 l0)]) | none => none)
noncomputable def mb_joiC38 (N : Nat) (k0 : Nat → List Int → Option (V × H)) (k1 : Nat → List Int → Option (V × H)) (rq : Int → Int → Int → Int → Nat → Nat → Int → Int → List Int → List Int → Option (V × H)) : Int → Int → Int → Int → Nat → Nat → Int → Int → List Int → List Int → Option (V × H) := fun (t5 : Int) (t6 : Int) (t25 : Int) (t26 : Int) (t27 : Nat) (t28n : Nat) (t208 : Int) (t209 : Int) (l0 : List Int) (l1 : List Int) => (match decide ((t209 : Int) < t208) with | true => (match decide (0 ≤ (t209 : Int) ∧ (t209 : Int) < ((t28n : Nat) : Int)) with | true => (match l1[0 + (t209).toNat * 1]? with | some e1 => (match decide ((IntKind.i64.wrap (t25 + t26) : Int) > e1) with | true => (rq t5 t6 t25 t26 t27 t28n t208 (IntKind.i64.wrap (t209 + 1)) l0 l1) | false => (match decide (0 ≤ (t209 : Int) ∧ (t209 : Int) < ((t28n : Nat) : Int)) with | true => (match l1[0 + (t209).toNat * 1]? with | some e2 => (match decide ((IntKind.i64.wrap ((IntKind.i64.wrap (0 - t25)) - t26) : Int) > e2) with | true => (rq t5 t6 t25 t26 t27 t28n t208 (IntKind.i64.wrap (t209 + 1)) l0 l1) | false => (match decide (0 ≤ (t209 : Int) ∧ (t209 : Int) < ((t28n : Nat) : Int)) with | true => (match l1[0 + (t209).toNat * 1]? with | some e3 => (match canS t5 t25 t6 t26 e3 with | true => (match nmO (α := Int) ((jV t5 t25 t6 t26 e3).1) with | some w4 => (match nmO (α := Int) ((jV t5 t25 t6 t26 e3).2.1) with | some w5 => (match nmO (α := Int) ((jV t5 t25 t6 t26 e3).2.2) with | some w6 => (match decide (0 ≤ (t209 : Int) ∧ (t209 : Int) < ((t28n : Nat) : Int)) with | true => (match l1[0 + (t209).toNat * 1]? with | some e7 => (match canS t5 (IntKind.i64.wrap (0 - t25)) t6 (IntKind.i64.wrap (0 - t26)) e7 with | true => (match nmO (α := Int) ((jV t5 (IntKind.i64.wrap (0 - t25)) t6 (IntKind.i64.wrap (0 - t26)) e7).1) with | some w8 => (match nmO (α := Int) ((jV t5 (IntKind.i64.wrap (0 - t25)) t6 (IntKind.i64.wrap (0 - t26)) e7).2.1) with | some w9 => (match nmO (α := Int) ((jV t5 (IntKind.i64.wrap (0 - t25)) t6 (IntKind.i64.wrap (0 - t26)) e7).2.2) with | some w10 => (match decide (0 ≤ (t209 : Int) ∧ (t209 : Int) < ((t28n : Nat) : Int)) with | true => (match l1[0 + (t209).toNat * 1]? with | some e11 => (match canS t5 t25 t6 t26 e11 with | true => (match nmO (α := Nat) (jF (jV t5 t25 t6 t26 e11)) with | some w12 => (match w5 != w9 with | true => (k0 t27 l0) | false => (match w6 != w10 with | true => (k0 t27 l0) | false => (match fconv .f32 w12 .f64 with | some c13 => (match fconv .f32 w12 .f64 with | some c14 => (match nmO (α := Nat) (gapD (fop .mul .f64 (fop .mul .f64 c13 c14) (floatOfInt .f64 w6)) (floatOfInt .f64 w5)) with | some w15 => (match gtD w15 (fop .mul .f64 4562254508917369340 (floatOfInt .f64 w6)) with | true => (k0 t27 l0) | false => (match decide (0 ≤ (t209 : Int) ∧ (t209 : Int) < ((t28n : Nat) : Int)) with | true => (match l1[0 + (t209).toNat * 1]? with | some e16 => (match (Int.tmod (IntKind.i64.wrap (Int.tdiv (IntKind.i64.wrap ((IntKind.i64.wrap (t5 + t6)) - e16)) 2)) 2) == 1 with | true => (match w8 != (IntKind.i64.wrap (0 - w4)) with | true => (k0 t27 l0) | false => (rq t5 t6 t25 t26 (fop .add .f64 t27 (fop .quo .f64 (floatOfInt .f64 w5) (floatOfInt .f64 w6))) t28n t208 (IntKind.i64.wrap (t209 + 1)) l0 l1)) | false => (match w8 != w4 with | true => (k0 t27 l0) | false => (rq t5 t6 t25 t26 (fop .add .f64 t27 (fop .quo .f64 (floatOfInt .f64 w5) (floatOfInt .f64 w6))) t28n t208 (IntKind.i64.wrap (t209 + 1)) l0 l1))) | none => none) | false => none)) | none => none) | none => none) | none => none))) | none => none) | false => (k0 t27 l0)) | none => none) | false => none) | none => none) | none => none) | none => none) | false => (match decide (0 ≤ (t209 : Int) ∧ (t209 : Int) < ((t28n : Nat) : Int)) with | true => (match l1[0 + (t209).toNat * 1]? with | some e17 => (match canS t5 t25 t6 t26 e17 with | true => (match nmO (α := Nat) (jF (jV t5 t25 t6 t26 e17)) with | some w18 => (k0 t27 l0) | none => none) | false => (k0 t27 l0)) | none => none) | false => none)) | none => none) | false => none) | none => none) | none => none) | none => none) | false => (match decide (0 ≤ (t209 : Int) ∧ (t209 : Int) < ((t28n : Nat) : Int)) with | true => (match l1[0 + (t209).toNat * 1]? with | some e19 => (match canS t5 (IntKind.i64.wrap (0 - t25)) t6 (IntKind.i64.wrap (0 - t26)) e19 with | true => (match nmO (α := Int) ((jV t5 (IntKind.i64.wrap (0 - t25)) t6 (IntKind.i64.wrap (0 - t26)) e19).1) with | some w20 => (match nmO (α := Int) ((jV t5 (IntKind.i64.wrap (0 - t25)) t6 (IntKind.i64.wrap (0 - t26)) e19).2.1) with | some w21 => (match nmO (α := Int) ((jV t5 (IntKind.i64.wrap (0 - t25)) t6 (IntKind.i64.wrap (0 - t26)) e19).2.2) with | some w22 => (match decide (0 ≤ (t209 : Int) ∧ (t209 : Int) < ((t28n : Nat) : Int)) with | true => (match l1[0 + (t209).toNat * 1]? with | some e23 => (match canS t5 t25 t6 t26 e23 with | true => (match nmO (α := Nat) (jF (jV t5 t25 t6 t26 e23)) with | some w24 => (k0 t27 l0) | none => none) | false => (k0 t27 l0)) | none => none) | false => none) | none => none) | none => none) | none => none) | false => (match decide (0 ≤ (t209 : Int) ∧ (t209 : Int) < ((t28n : Nat) : Int)) with | true => (match l1[0 + (t209).toNat * 1]? with | some e25 => (match canS t5 t25 t6 t26 e25 with | true => (match nmO (α := Nat) (jF (jV t5 t25 t6 t26 e25)) with | some w26 => (k0 t27 l0) | none => none) | false => (k0 t27 l0)) | none => none) | false => none)) | none => none) | false => none)) | none => none) | false => none)) | none => none) | false => none)) | none => none) | false => none) | false => (k1 t27 l0))
noncomputable def mr_joiC38 (N : Nat) (k0 : Nat → List Int → Option (V × H)) (k1 : Nat → List Int → Option (V × H)) (M : Nat) : Int → Int → Int → Int → Nat → Nat → Int → Int → List Int → List Int → Option (V × H) := Nat.rec (motive := fun _ => Int → Int → Int → Int → Nat → Nat → Int → Int → List Int → List Int → Option (V × H)) (fun (_ : Int) (_ : Int) (_ : Int) (_ : Int) (_ : Nat) (_ : Nat) (_ : Int) (_ : Int) (_ : List Int) (_ : List Int) => none) (fun _ rq => mb_joiC38 N k0 k1 rq) M
theorem mrs_joiC38 (N : Nat) (k0 : Nat → List Int → Option (V × H)) (k1 : Nat → List Int → Option (V × H)) (M : Nat) (t5 : Int) (t6 : Int) (t25 : Int) (t26 : Int) (t27 : Nat) (t28n : Nat) (t208 : Int) (t209 : Int) (l0 : List Int) (l1 : List Int) : mr_joiC38 N k0 k1 (M + 1) t5 t6 t25 t26 t27 t28n t208 t209 l0 l1 = mb_joiC38 N k0 k1 (mr_joiC38 N k0 k1 M) t5 t6 t25 t26 t27 t28n t208 t209 l0 l1 := rfl
theorem H_joiC38 (N : Nat) : ∀ (M : Nat) (t5 : Int) (t6 : Int) (t25 : Int) (t26 : Int) (t27 : Nat) (t28n : Nat) (t208 : Int) (t209 : Int) (l0 : List Int) (l1 : List Int), lp_joiC38 N M (st_joiC38 t5 t6 t25 t26 t27 t28n t208 t209 l0 l1) (kt_joiC38 N (kEnd Try.f14 1)) = mr_joiC38 N (ce_joiC38_0 N) (ce_joiC38_1 N) M t5 t6 t25 t26 t27 t28n t208 t209 l0 l1 := by
  have he0 : ∀ (t27 : Nat) (l0 : List Int), kt_joiC38 N (kEnd Try.f14 1) .ret (en_joiC38_0 t27 l0) = ce_joiC38_0 N t27 l0 := by
    intro t27 l0
    rw [end_joiC38_0]
    unfold ce_joiC38_0
    first | (simp only []; done) | (simp only []; kernel_rfl) | rfl
  have he1 : ∀ (t27 : Nat) (l0 : List Int), kt_joiC38 N (kEnd Try.f14 1) (.exit 4) (en_joiC38_1 t27 l0) = ce_joiC38_1 N t27 l0 := by
    intro t27 l0
    rw [end_joiC38_1]
    unfold ce_joiC38_1
    first | (simp only []; done) | (simp only []; kernel_rfl) | rfl
  intro M
  induction M with
  | zero => intros; rfl
  | succ M ih =>
    intro t5 t6 t25 t26 t27 t28n t208 t209 l0 l1
    rw [step_joiC38]
    rw [mrs_joiC38]
    unfold mb_joiC38
    first | (simp only [ih, he0, he1]; done) | (simp only [ih, he0, he1]; kernel_rfl) | rfl
noncomputable def ce_joiC14_0 (N : Nat)  : Nat → Int → Int → Int → Int → List Int → Option (V × H) := fun (t1n : Nat) (t5 : Int) (t6 : Int) (t17 : Int) (t18 : Int) (l0 : List Int) => some (.bool false, [.at false (.int .u8 l0)])
noncomputable def ce_joiC14_1 (N : Nat)  : Nat → Int → Int → Int → Int → List Int → Option (V × H) := fun (t1n : Nat) (t5 : Int) (t6 : Int) (t17 : Int) (t18 : Int) (l0 : List Int) => (match t17 != 1 with | true => some (.bool false, [.at false (.int .u8 l0)]) | false => (match t18 != 1 with | true => some (.bool false, [.at false (.int .u8 l0)]) | false => (match atOk t1n l0 4 with | true => (match nmO (α := Int) (atF l0 4 (IntKind.i64.wrap (t5 + 1))) with | some w1 => (match atOk t1n l0 5 with | true => (match nmO (α := Int) (atF l0 5 (IntKind.i64.wrap (t6 + 1))) with | some w2 => (match is6 t5 && is6 t6 with | true => (match nmO (α := Nat) ((toD t5 t6).length) with | some w3 => (match nmO (α := List Int) ((toD t5 t6)) with | some w4 => (mr_joiC38 N (ce_joiC38_0 N) (ce_joiC38_1 N) N t5 t6 (IntKind.i64.wrap (t5 - (IntKind.i64.wrap (2 * w1)))) (IntKind.i64.wrap (t6 - (IntKind.i64.wrap (2 * w2)))) 0 w3 ((w3 : Nat) : Int) 0 l0 w4) | none => none) | none => none) | false => some (.bool false, [.at false (.int .u8 l0)])) | none => none) | false => none) | none => none) | false => none)))
noncomputable def mb_joiC14 (N : Nat) (k0 : Nat → Int → Int → Int → Int → List Int → Option (V × H)) (k1 : Nat → Int → Int → Int → Int → List Int → Option (V × H)) (rq : Nat → Int → Int → Nat → Nat → Int → Int → Int → Int → List Int → List Int → List Int → Option (V × H)) : Nat → Int → Int → Nat → Nat → Int → Int → Int → Int → List Int → List Int → List Int → Option (V × H) := fun (t1n : Nat) (t5 : Int) (t6 : Int) (t10n : Nat) (t11n : Nat) (t17 : Int) (t18 : Int) (t117 : Int) (t118 : Int) (l0 : List Int) (l1 : List Int) (l2 : List Int) => (match decide ((t118 : Int) < t117) with | true => (match decide (0 ≤ (t118 : Int) ∧ (t118 : Int) < ((t11n : Nat) : Int)) with | true => (match l2[0 + (t118).toNat * 1]? with | some e1 => (match decide ((e1 : Int) < 1) with | true => (k0 t1n t5 t6 t17 t18 l0) | false => (match decide (0 ≤ (t118 : Int) ∧ (t118 : Int) < ((t10n : Nat) : Int)) with | true => (match l1[0 + (t118).toNat * 1]? with | some e2 => (match decide ((e2 : Int) < 0) with | true => (k0 t1n t5 t6 t17 t18 l0) | false => (match decide (0 ≤ (t118 : Int) ∧ (t118 : Int) < ((t10n : Nat) : Int)) with | true => (match l1[0 + (t118).toNat * 1]? with | some e3 => (match decide (0 ≤ (t118 : Int) ∧ (t118 : Int) < ((t11n : Nat) : Int)) with | true => (match l2[0 + (t118).toNat * 1]? with | some e4 => (match decide ((e3 : Int) > e4) with | true => (k0 t1n t5 t6 t17 t18 l0) | false => (match decide (0 ≤ (t118 : Int) ∧ (t118 : Int) < ((t11n : Nat) : Int)) with | true => (match l2[0 + (t118).toNat * 1]? with | some e5 => (match decide (0 ≤ (t118 : Int) ∧ (t118 : Int) < ((t10n : Nat) : Int)) with | true => (match l1[0 + (t118).toNat * 1]? with | some e6 => (match decide (0 ≤ (t118 : Int) ∧ (t118 : Int) < ((t11n : Nat) : Int)) with | true => (match l2[0 + (t118).toNat * 1]? with | some e7 => (mr_joiC22 N (ce_joiC22_0 N (fun t1n t5 t6 t10n t11n t17 t18 t117 t118 l0 l1 l2 => rq t1n t5 t6 t10n t11n t17 t18 t117 t118 l0 l1 l2) k0 k1) N t1n t5 t6 t10n t11n (IntKind.i64.wrap ((IntKind.i64.wrap (t17 * e5)) + (IntKind.i64.wrap (e6 * t18)))) (IntKind.i64.wrap (t18 * e7)) (IntKind.i64.wrap ((IntKind.i64.wrap (t17 * e5)) + (IntKind.i64.wrap (e6 * t18)))) (IntKind.i64.wrap (t18 * e7)) t117 t118 l0 l1 l2) | none => none) | false => none) | none => none) | false => none) | none => none) | false => none)) | none => none) | false => none) | none => none) | false => none)) | none => none) | false => none)) | none => none) | false => none) | false => (k1 t1n t5 t6 t17 t18 l0))
noncomputable def mr_joiC14 (N : Nat) (k0 : Nat → Int → Int → Int → Int → List Int → Option (V × H)) (k1 : Nat → Int → Int → Int → Int → List Int → Option (V × H)) (M : Nat) : Nat → Int → Int → Nat → Nat → Int → Int → Int → Int → List Int → List Int → List Int → Option (V × H) := Nat.rec (motive := fun _ => Nat → Int → Int → Nat → Nat → Int → Int → Int → Int → List Int → List Int → List Int → Option (V × H)) (fun (_ : Nat) (_ : Int) (_ : Int) (_ : Nat) (_ : Nat) (_ : Int) (_ : Int) (_ : Int) (_ : Int) (_ : List Int) (_ : List Int) (_ : List Int) => none) (fun _ rq => mb_joiC14 N k0 k1 rq) M
theorem mrs_joiC14 (N : Nat) (k0 : Nat → Int → Int → Int → Int → List Int → Option (V × H)) (k1 : Nat → Int → Int → Int → Int → List Int → Option (V × H)) (M : Nat) (t1n : Nat) (t5 : Int) (t6 : Int) (t10n : Nat) (t11n : Nat) (t17 : Int) (t18 : Int) (t117 : Int) (t118 : Int) (l0 : List Int) (l1 : List Int) (l2 : List Int) : mr_joiC14 N k0 k1 (M + 1) t1n t5 t6 t10n t11n t17 t18 t117 t118 l0 l1 l2 = mb_joiC14 N k0 k1 (mr_joiC14 N k0 k1 M) t1n t5 t6 t10n t11n t17 t18 t117 t118 l0 l1 l2 := rfl
theorem H_joiC14 (N : Nat) : ∀ (M : Nat) (t1n : Nat) (t5 : Int) (t6 : Int) (t10n : Nat) (t11n : Nat) (t17 : Int) (t18 : Int) (t117 : Int) (t118 : Int) (l0 : List Int) (l1 : List Int) (l2 : List Int), lp_joiC14 N M (st_joiC14 t1n t5 t6 t10n t11n t17 t18 t117 t118 l0 l1 l2) (kt_joiC14 N (kEnd Try.f14 1)) = mr_joiC14 N (ce_joiC14_0 N) (ce_joiC14_1 N) M t1n t5 t6 t10n t11n t17 t18 t117 t118 l0 l1 l2 := by
  have he0 : ∀ (t1n : Nat) (t5 : Int) (t6 : Int) (t17 : Int) (t18 : Int) (l0 : List Int), kt_joiC14 N (kEnd Try.f14 1) .ret (en_joiC14_0 t1n t5 t6 t17 t18 l0) = ce_joiC14_0 N t1n t5 t6 t17 t18 l0 := by
    intro t1n t5 t6 t17 t18 l0
    rw [end_joiC14_0]
    unfold ce_joiC14_0
    first | (simp only []; done) | (simp only []; kernel_rfl) | rfl
  have he1 : ∀ (t1n : Nat) (t5 : Int) (t6 : Int) (t17 : Int) (t18 : Int) (l0 : List Int), kt_joiC14 N (kEnd Try.f14 1) (.exit 0) (en_joiC14_1 t1n t5 t6 t17 t18 l0) = ce_joiC14_1 N t1n t5 t6 t17 t18 l0 := by
    intro t1n t5 t6 t17 t18 l0
    rw [end_joiC14_1]
    unfold ce_joiC14_1
    first | (simp only [H_joiC38 N N]; done) | (simp only [H_joiC38 N N]; kernel_rfl) | rfl
  intro M
  induction M with
  | zero => intros; rfl
  | succ M ih =>
    intro t1n t5 t6 t10n t11n t17 t18 t117 t118 l0 l1 l2
    rw [step_joiC14]
    have hc22 := H_joiC22 N M (kt_joiC14 N (kEnd Try.f14 1)) (fun t1n t5 t6 t10n t11n t17 t18 t117 t118 l0 l1 l2 => mr_joiC14 N (ce_joiC14_0 N) (ce_joiC14_1 N) M t1n t5 t6 t10n t11n t17 t18 t117 t118 l0 l1 l2) (ce_joiC14_0 N) (ce_joiC14_1 N) (fun t1n t5 t6 t10n t11n t17 t18 t117 t118 l0 l1 l2 => ih t1n t5 t6 t10n t11n t17 t18 t117 t118 l0 l1 l2) he0 he1
    rw [mrs_joiC14]
    unfold mb_joiC14
    first | (simp only [ih, he0, he1, hc22 N]; done) | (simp only [ih, he0, he1, hc22 N]; kernel_rfl) | rfl
noncomputable def md_joiC (N : Nat) (m : Nat) (l1 : List Int) : Option (V × H) := (match nmO (α := Bool) (longB 0 m) with | some w1 => (match w1 with | true => some (.bool true, [.at false (.int .u8 l1)]) | false => (match atOk m l1 0 with | true => (match nmO (α := Int) (atF l1 0 7) with | some w2 => (match atOk m l1 1 with | true => (match nmO (α := Int) (atF l1 1 7) with | some w3 => (match atOk m l1 2 with | true => (match nmO (α := Int) (atF l1 2 (IntKind.i64.wrap ((if w3 < w2 then w3 else w2) + 1))) with | some w4 => (match atOk m l1 3 with | true => (match nmO (α := Int) (atF l1 3 (IntKind.i64.wrap ((IntKind.i64.wrap ((IntKind.i64.wrap (w2 + w3)) - (IntKind.i64.wrap (2 * w4)))) + 1))) with | some w5 => (match rowS w2 w3 (IntKind.i64.wrap ((IntKind.i64.wrap (w2 + w3)) - (IntKind.i64.wrap (2 * w4)))) (IntKind.i64.wrap ((IntKind.i64.wrap ((IntKind.i64.wrap (w2 + w3)) - (IntKind.i64.wrap (2 * w4)))) - (IntKind.i64.wrap (2 * w5)))) with | true => (match nmO (α := Nat) ((jrD w2 w3 (IntKind.i64.wrap ((IntKind.i64.wrap (w2 + w3)) - (IntKind.i64.wrap (2 * w4)))) (IntKind.i64.wrap ((IntKind.i64.wrap ((IntKind.i64.wrap (w2 + w3)) - (IntKind.i64.wrap (2 * w4)))) - (IntKind.i64.wrap (2 * w5))))).1.length) with | some w6 => (match nmO (α := Nat) ((jrD w2 w3 (IntKind.i64.wrap ((IntKind.i64.wrap (w2 + w3)) - (IntKind.i64.wrap (2 * w4)))) (IntKind.i64.wrap ((IntKind.i64.wrap ((IntKind.i64.wrap (w2 + w3)) - (IntKind.i64.wrap (2 * w4)))) - (IntKind.i64.wrap (2 * w5))))).2.1.length) with | some w7 => (match nmO (α := Nat) ((jrD w2 w3 (IntKind.i64.wrap ((IntKind.i64.wrap (w2 + w3)) - (IntKind.i64.wrap (2 * w4)))) (IntKind.i64.wrap ((IntKind.i64.wrap ((IntKind.i64.wrap (w2 + w3)) - (IntKind.i64.wrap (2 * w4)))) - (IntKind.i64.wrap (2 * w5))))).2.2.length) with | some w8 => (match nmO (α := List Int) ((jrD w2 w3 (IntKind.i64.wrap ((IntKind.i64.wrap (w2 + w3)) - (IntKind.i64.wrap (2 * w4)))) (IntKind.i64.wrap ((IntKind.i64.wrap ((IntKind.i64.wrap (w2 + w3)) - (IntKind.i64.wrap (2 * w4)))) - (IntKind.i64.wrap (2 * w5))))).1) with | some w9 => (match nmO (α := List Int) ((jrD w2 w3 (IntKind.i64.wrap ((IntKind.i64.wrap (w2 + w3)) - (IntKind.i64.wrap (2 * w4)))) (IntKind.i64.wrap ((IntKind.i64.wrap ((IntKind.i64.wrap (w2 + w3)) - (IntKind.i64.wrap (2 * w4)))) - (IntKind.i64.wrap (2 * w5))))).2.1) with | some w10 => (match nmO (α := List Int) ((jrD w2 w3 (IntKind.i64.wrap ((IntKind.i64.wrap (w2 + w3)) - (IntKind.i64.wrap (2 * w4)))) (IntKind.i64.wrap ((IntKind.i64.wrap ((IntKind.i64.wrap (w2 + w3)) - (IntKind.i64.wrap (2 * w4)))) - (IntKind.i64.wrap (2 * w5))))).2.2) with | some w11 => (match rowS w2 w3 (IntKind.i64.wrap ((IntKind.i64.wrap (w2 + w3)) - (IntKind.i64.wrap (2 * w4)))) (IntKind.i64.wrap ((IntKind.i64.wrap ((IntKind.i64.wrap (w2 + w3)) - (IntKind.i64.wrap (2 * w4)))) - (IntKind.i64.wrap (2 * w5)))) with | true => (match nmO (α := Nat) ((jrD w2 w3 (IntKind.i64.wrap ((IntKind.i64.wrap (w2 + w3)) - (IntKind.i64.wrap (2 * w4)))) (IntKind.i64.wrap ((IntKind.i64.wrap ((IntKind.i64.wrap (w2 + w3)) - (IntKind.i64.wrap (2 * w4)))) - (IntKind.i64.wrap (2 * w5))))).1.length) with | some w12 => (match nmO (α := Nat) ((jrD w2 w3 (IntKind.i64.wrap ((IntKind.i64.wrap (w2 + w3)) - (IntKind.i64.wrap (2 * w4)))) (IntKind.i64.wrap ((IntKind.i64.wrap ((IntKind.i64.wrap (w2 + w3)) - (IntKind.i64.wrap (2 * w4)))) - (IntKind.i64.wrap (2 * w5))))).2.1.length) with | some w13 => (match nmO (α := Nat) ((jrD w2 w3 (IntKind.i64.wrap ((IntKind.i64.wrap (w2 + w3)) - (IntKind.i64.wrap (2 * w4)))) (IntKind.i64.wrap ((IntKind.i64.wrap ((IntKind.i64.wrap (w2 + w3)) - (IntKind.i64.wrap (2 * w4)))) - (IntKind.i64.wrap (2 * w5))))).2.2.length) with | some w14 => (match nmO (α := List Int) ((jrD w2 w3 (IntKind.i64.wrap ((IntKind.i64.wrap (w2 + w3)) - (IntKind.i64.wrap (2 * w4)))) (IntKind.i64.wrap ((IntKind.i64.wrap ((IntKind.i64.wrap (w2 + w3)) - (IntKind.i64.wrap (2 * w4)))) - (IntKind.i64.wrap (2 * w5))))).1) with | some w15 => (match nmO (α := List Int) ((jrD w2 w3 (IntKind.i64.wrap ((IntKind.i64.wrap (w2 + w3)) - (IntKind.i64.wrap (2 * w4)))) (IntKind.i64.wrap ((IntKind.i64.wrap ((IntKind.i64.wrap (w2 + w3)) - (IntKind.i64.wrap (2 * w4)))) - (IntKind.i64.wrap (2 * w5))))).2.1) with | some w16 => (match nmO (α := List Int) ((jrD w2 w3 (IntKind.i64.wrap ((IntKind.i64.wrap (w2 + w3)) - (IntKind.i64.wrap (2 * w4)))) (IntKind.i64.wrap ((IntKind.i64.wrap ((IntKind.i64.wrap (w2 + w3)) - (IntKind.i64.wrap (2 * w4)))) - (IntKind.i64.wrap (2 * w5))))).2.2) with | some w17 => (match eqOk w6 w12 w9 w15 with | true => (match nmO (α := Bool) (eqIB w9 w15) with | some w18 => (match !w18 with | true => some (.bool false, [.at false (.int .u8 l1)]) | false => (match eqOk w7 w13 w10 w16 with | true => (match nmO (α := Bool) (eqIB w10 w16) with | some w19 => (match !w19 with | true => some (.bool false, [.at false (.int .u8 l1)]) | false => (match eqOk w8 w14 w11 w17 with | true => (match nmO (α := Bool) (eqIB w11 w17) with | some w20 => (match !w20 with | true => some (.bool false, [.at false (.int .u8 l1)]) | false => (match decide ((((w7 : Nat) : Int) : Int) < 1) with | true => some (.bool false, [.at false (.int .u8 l1)]) | false => (mr_joiC14 N (ce_joiC14_0 N) (ce_joiC14_1 N) N m w2 w3 w7 w8 0 1 ((w7 : Nat) : Int) 0 l1 w10 w11))) | none => none) | false => none)) | none => none) | false => none)) | none => none) | false => none) | none => none) | none => none) | none => none) | none => none) | none => none) | none => none) | false => some (.bool false, [.at false (.int .u8 l1)])) | none => none) | none => none) | none => none) | none => none) | none => none) | none => none) | false => (match rowS w2 w3 (IntKind.i64.wrap ((IntKind.i64.wrap (w2 + w3)) - (IntKind.i64.wrap (2 * w4)))) (IntKind.i64.wrap ((IntKind.i64.wrap ((IntKind.i64.wrap (w2 + w3)) - (IntKind.i64.wrap (2 * w4)))) - (IntKind.i64.wrap (2 * w5)))) with | true => (match nmO (α := Nat) ((jrD w2 w3 (IntKind.i64.wrap ((IntKind.i64.wrap (w2 + w3)) - (IntKind.i64.wrap (2 * w4)))) (IntKind.i64.wrap ((IntKind.i64.wrap ((IntKind.i64.wrap (w2 + w3)) - (IntKind.i64.wrap (2 * w4)))) - (IntKind.i64.wrap (2 * w5))))).1.length) with | some w21 => (match nmO (α := Nat) ((jrD w2 w3 (IntKind.i64.wrap ((IntKind.i64.wrap (w2 + w3)) - (IntKind.i64.wrap (2 * w4)))) (IntKind.i64.wrap ((IntKind.i64.wrap ((IntKind.i64.wrap (w2 + w3)) - (IntKind.i64.wrap (2 * w4)))) - (IntKind.i64.wrap (2 * w5))))).2.1.length) with | some w22 => (match nmO (α := Nat) ((jrD w2 w3 (IntKind.i64.wrap ((IntKind.i64.wrap (w2 + w3)) - (IntKind.i64.wrap (2 * w4)))) (IntKind.i64.wrap ((IntKind.i64.wrap ((IntKind.i64.wrap (w2 + w3)) - (IntKind.i64.wrap (2 * w4)))) - (IntKind.i64.wrap (2 * w5))))).2.2.length) with | some w23 => (match nmO (α := List Int) ((jrD w2 w3 (IntKind.i64.wrap ((IntKind.i64.wrap (w2 + w3)) - (IntKind.i64.wrap (2 * w4)))) (IntKind.i64.wrap ((IntKind.i64.wrap ((IntKind.i64.wrap (w2 + w3)) - (IntKind.i64.wrap (2 * w4)))) - (IntKind.i64.wrap (2 * w5))))).1) with | some w24 => (match nmO (α := List Int) ((jrD w2 w3 (IntKind.i64.wrap ((IntKind.i64.wrap (w2 + w3)) - (IntKind.i64.wrap (2 * w4)))) (IntKind.i64.wrap ((IntKind.i64.wrap ((IntKind.i64.wrap (w2 + w3)) - (IntKind.i64.wrap (2 * w4)))) - (IntKind.i64.wrap (2 * w5))))).2.1) with | some w25 => (match nmO (α := List Int) ((jrD w2 w3 (IntKind.i64.wrap ((IntKind.i64.wrap (w2 + w3)) - (IntKind.i64.wrap (2 * w4)))) (IntKind.i64.wrap ((IntKind.i64.wrap ((IntKind.i64.wrap (w2 + w3)) - (IntKind.i64.wrap (2 * w4)))) - (IntKind.i64.wrap (2 * w5))))).2.2) with | some w26 => some (.bool false, [.at false (.int .u8 l1)]) | none => none) | none => none) | none => none) | none => none) | none => none) | none => none) | false => some (.bool false, [.at false (.int .u8 l1)]))) | none => none) | false => none) | none => none) | false => none) | none => none) | false => none) | none => none) | false => none)) | none => none)
theorem mdl_joiC (N : Nat) (m : Nat) (l1 : List Int) : run ty tab_joiC an_joiC N Try.f14 [.nil, .sl 0 0 m] [.at false (.int .u8 l1)] = md_joiC N m l1 := by
  rw [run_joiC]
  unfold md_joiC
  first | (simp only [H_joiC14 N N]; done) | (simp only [H_joiC14 N N]; kernel_rfl) | rfl
theorem tr_joiA22 (N : Nat) (k0 : Nat → Int → Int → Nat → Nat → Int → Int → Int → Int → Int → List Int → List Int → List Int → List Int → Option (V × H)) : ∀ (M : Nat) (t1n : Nat) (t5 : Int) (t6 : Int) (t10n : Nat) (t11n : Nat) (t20 : Int) (t21 : Int) (t22 : Int) (t23 : Int) (t117 : Int) (t118 : Int) (l0 : List Int) (l1 : List Int) (l2 : List Int) (l3 : List Int), mr_joiA22 N k0 M t1n t5 t6 t10n t11n t20 t21 t22 t23 t117 t118 l0 l1 l2 l3 = mr_joiD22 N (fun (t5 : Int) (t6 : Int) (t10n : Nat) (t11n : Nat) (t20 : Int) (t21 : Int) (t22 : Int) (t117 : Int) (t118 : Int) (l2 : List Int) (l3 : List Int) => k0 t1n t5 t6 t10n t11n t20 t21 t22 t117 t118 l0 l1 l2 l3) M t5 t6 t10n t11n t20 t21 t22 t23 t117 t118 l2 l3 := by
  intro M
  induction M with
  | zero => intros; rfl
  | succ M ih =>
    intro t1n t5 t6 t10n t11n t20 t21 t22 t23 t117 t118 l0 l1 l2 l3
    rw [mrs_joiA22, mrs_joiD22]
    unfold mb_joiA22 mb_joiD22
    simp only [ih]
    all_goals kernel_rfl
theorem tr_joiB22 (N : Nat) (k0 : Int → Int → Nat → Nat → Int → Int → Int → Int → Int → List Int → List Int → List Int → Option (V × H)) : ∀ (M : Nat) (t5 : Int) (t6 : Int) (t10n : Nat) (t11n : Nat) (t20 : Int) (t21 : Int) (t22 : Int) (t23 : Int) (t117 : Int) (t118 : Int) (l0 : List Int) (l1 : List Int) (l2 : List Int), mr_joiB22 N k0 M t5 t6 t10n t11n t20 t21 t22 t23 t117 t118 l0 l1 l2 = mr_joiD22 N (fun (t5 : Int) (t6 : Int) (t10n : Nat) (t11n : Nat) (t20 : Int) (t21 : Int) (t22 : Int) (t117 : Int) (t118 : Int) (l1 : List Int) (l2 : List Int) => k0 t5 t6 t10n t11n t20 t21 t22 t117 t118 l0 l1 l2) M t5 t6 t10n t11n t20 t21 t22 t23 t117 t118 l1 l2 := by
  intro M
  induction M with
  | zero => intros; rfl
  | succ M ih =>
    intro t5 t6 t10n t11n t20 t21 t22 t23 t117 t118 l0 l1 l2
    rw [mrs_joiB22, mrs_joiD22]
    unfold mb_joiB22 mb_joiD22
    simp only [ih]
    all_goals kernel_rfl
theorem tr_joiC22 (N : Nat) (k0 : Nat → Int → Int → Nat → Nat → Int → Int → Int → Int → Int → List Int → List Int → List Int → Option (V × H)) : ∀ (M : Nat) (t1n : Nat) (t5 : Int) (t6 : Int) (t10n : Nat) (t11n : Nat) (t20 : Int) (t21 : Int) (t22 : Int) (t23 : Int) (t117 : Int) (t118 : Int) (l0 : List Int) (l1 : List Int) (l2 : List Int), mr_joiC22 N k0 M t1n t5 t6 t10n t11n t20 t21 t22 t23 t117 t118 l0 l1 l2 = mr_joiD22 N (fun (t5 : Int) (t6 : Int) (t10n : Nat) (t11n : Nat) (t20 : Int) (t21 : Int) (t22 : Int) (t117 : Int) (t118 : Int) (l1 : List Int) (l2 : List Int) => k0 t1n t5 t6 t10n t11n t20 t21 t22 t117 t118 l0 l1 l2) M t5 t6 t10n t11n t20 t21 t22 t23 t117 t118 l1 l2 := by
  intro M
  induction M with
  | zero => intros; rfl
  | succ M ih =>
    intro t1n t5 t6 t10n t11n t20 t21 t22 t23 t117 t118 l0 l1 l2
    rw [mrs_joiC22, mrs_joiD22]
    unfold mb_joiC22 mb_joiD22
    simp only [ih]
    all_goals kernel_rfl
theorem tr_joiA14 (N : Nat) (k0 : Nat → Int → Int → Int → Int → List Int → List Int → Option (V × H)) (k1 : Nat → Int → Int → Int → Int → List Int → List Int → Option (V × H)) : ∀ (M : Nat) (t1n : Nat) (t5 : Int) (t6 : Int) (t10n : Nat) (t11n : Nat) (t17 : Int) (t18 : Int) (t117 : Int) (t118 : Int) (l0 : List Int) (l1 : List Int) (l2 : List Int) (l3 : List Int), mr_joiA14 N k0 k1 M t1n t5 t6 t10n t11n t17 t18 t117 t118 l0 l1 l2 l3 = mr_joiD14 N (fun (t5 : Int) (t6 : Int) (t17 : Int) (t18 : Int) => k0 t1n t5 t6 t17 t18 l0 l1) (fun (t5 : Int) (t6 : Int) (t17 : Int) (t18 : Int) => k1 t1n t5 t6 t17 t18 l0 l1) M t5 t6 t10n t11n t17 t18 t117 t118 l2 l3 := by
  intro M
  induction M with
  | zero => intros; rfl
  | succ M ih =>
    intro t1n t5 t6 t10n t11n t17 t18 t117 t118 l0 l1 l2 l3
    rw [mrs_joiA14, mrs_joiD14]
    unfold mb_joiA14 mb_joiD14
    simp only [ih, tr_joiA22, ce_joiA22_0, ce_joiD22_0]
    all_goals kernel_rfl
theorem tr_joiB14 (N : Nat) (k0 : Int → Int → Int → Int → List Int → Option (V × H)) (k1 : Int → Int → Int → Int → List Int → Option (V × H)) : ∀ (M : Nat) (t5 : Int) (t6 : Int) (t10n : Nat) (t11n : Nat) (t17 : Int) (t18 : Int) (t117 : Int) (t118 : Int) (l0 : List Int) (l1 : List Int) (l2 : List Int), mr_joiB14 N k0 k1 M t5 t6 t10n t11n t17 t18 t117 t118 l0 l1 l2 = mr_joiD14 N (fun (t5 : Int) (t6 : Int) (t17 : Int) (t18 : Int) => k0 t5 t6 t17 t18 l0) (fun (t5 : Int) (t6 : Int) (t17 : Int) (t18 : Int) => k1 t5 t6 t17 t18 l0) M t5 t6 t10n t11n t17 t18 t117 t118 l1 l2 := by
  intro M
  induction M with
  | zero => intros; rfl
  | succ M ih =>
    intro t5 t6 t10n t11n t17 t18 t117 t118 l0 l1 l2
    rw [mrs_joiB14, mrs_joiD14]
    unfold mb_joiB14 mb_joiD14
    simp only [ih, tr_joiB22, ce_joiB22_0, ce_joiD22_0]
    all_goals kernel_rfl
theorem tr_joiC14 (N : Nat) (k0 : Nat → Int → Int → Int → Int → List Int → Option (V × H)) (k1 : Nat → Int → Int → Int → Int → List Int → Option (V × H)) : ∀ (M : Nat) (t1n : Nat) (t5 : Int) (t6 : Int) (t10n : Nat) (t11n : Nat) (t17 : Int) (t18 : Int) (t117 : Int) (t118 : Int) (l0 : List Int) (l1 : List Int) (l2 : List Int), mr_joiC14 N k0 k1 M t1n t5 t6 t10n t11n t17 t18 t117 t118 l0 l1 l2 = mr_joiD14 N (fun (t5 : Int) (t6 : Int) (t17 : Int) (t18 : Int) => k0 t1n t5 t6 t17 t18 l0) (fun (t5 : Int) (t6 : Int) (t17 : Int) (t18 : Int) => k1 t1n t5 t6 t17 t18 l0) M t5 t6 t10n t11n t17 t18 t117 t118 l1 l2 := by
  intro M
  induction M with
  | zero => intros; rfl
  | succ M ih =>
    intro t1n t5 t6 t10n t11n t17 t18 t117 t118 l0 l1 l2
    rw [mrs_joiC14, mrs_joiD14]
    unfold mb_joiC14 mb_joiD14
    simp only [ih, tr_joiC22, ce_joiC22_0, ce_joiD22_0]
    all_goals kernel_rfl
theorem tr_joiA38 (N : Nat) (k0 : Nat → List Int → List Int → Option (V × H)) (k1 : Nat → List Int → List Int → Option (V × H)) : ∀ (M : Nat) (t5 : Int) (t6 : Int) (t25 : Int) (t26 : Int) (t27 : Nat) (t28n : Nat) (t208 : Int) (t209 : Int) (l0 : List Int) (l1 : List Int) (l2 : List Int), mr_joiA38 N k0 k1 M t5 t6 t25 t26 t27 t28n t208 t209 l0 l1 l2 = mr_joiD38 N (fun (t27 : Nat) => k0 t27 l0 l1) (fun (t27 : Nat) => k1 t27 l0 l1) M t5 t6 t25 t26 t27 t28n t208 t209 l2 := by
  intro M
  induction M with
  | zero => intros; rfl
  | succ M ih =>
    intro t5 t6 t25 t26 t27 t28n t208 t209 l0 l1 l2
    rw [mrs_joiA38, mrs_joiD38]
    unfold mb_joiA38 mb_joiD38
    simp only [ih]
    all_goals kernel_rfl
theorem tr_joiB38 (N : Nat) (k0 : Nat → List Int → Option (V × H)) (k1 : Nat → List Int → Option (V × H)) : ∀ (M : Nat) (t5 : Int) (t6 : Int) (t25 : Int) (t26 : Int) (t27 : Nat) (t28n : Nat) (t208 : Int) (t209 : Int) (l0 : List Int) (l1 : List Int), mr_joiB38 N k0 k1 M t5 t6 t25 t26 t27 t28n t208 t209 l0 l1 = mr_joiD38 N (fun (t27 : Nat) => k0 t27 l0) (fun (t27 : Nat) => k1 t27 l0) M t5 t6 t25 t26 t27 t28n t208 t209 l1 := by
  intro M
  induction M with
  | zero => intros; rfl
  | succ M ih =>
    intro t5 t6 t25 t26 t27 t28n t208 t209 l0 l1
    rw [mrs_joiB38, mrs_joiD38]
    unfold mb_joiB38 mb_joiD38
    simp only [ih]
    all_goals kernel_rfl
theorem tr_joiC38 (N : Nat) (k0 : Nat → List Int → Option (V × H)) (k1 : Nat → List Int → Option (V × H)) : ∀ (M : Nat) (t5 : Int) (t6 : Int) (t25 : Int) (t26 : Int) (t27 : Nat) (t28n : Nat) (t208 : Int) (t209 : Int) (l0 : List Int) (l1 : List Int), mr_joiC38 N k0 k1 M t5 t6 t25 t26 t27 t28n t208 t209 l0 l1 = mr_joiD38 N (fun (t27 : Nat) => k0 t27 l0) (fun (t27 : Nat) => k1 t27 l0) M t5 t6 t25 t26 t27 t28n t208 t209 l1 := by
  intro M
  induction M with
  | zero => intros; rfl
  | succ M ih =>
    intro t5 t6 t25 t26 t27 t28n t208 t209 l0 l1
    rw [mrs_joiC38, mrs_joiD38]
    unfold mb_joiC38 mb_joiD38
    simp only [ih]
    all_goals kernel_rfl
noncomputable def ch_joiD38_0 (hh : H) (t27 : Nat) : Option (V × H) := some (.bool false, hh)
noncomputable def ch_joiD38_1 (hh : H) (t27 : Nat) : Option (V × H) := (match nmO (α := Nat) (gapD t27 4607182418800017408) with | some w1 => some (.bool (ltD w1 4562254508917369340), hh) | none => none)
def jB1 (w2 w3 w4 w5 : Int) (hh : H) (k0 k1 : Int → Int → Int → Int → Option (V × H)) : Option (V × H) := (match rowS w2 w3 (IntKind.i64.wrap ((IntKind.i64.wrap (w2 + w3)) - (IntKind.i64.wrap (2 * w4)))) (IntKind.i64.wrap ((IntKind.i64.wrap ((IntKind.i64.wrap (w2 + w3)) - (IntKind.i64.wrap (2 * w4)))) - (IntKind.i64.wrap (2 * w5)))) with | true => (match nmO (α := Nat) ((jrD w2 w3 (IntKind.i64.wrap ((IntKind.i64.wrap (w2 + w3)) - (IntKind.i64.wrap (2 * w4)))) (IntKind.i64.wrap ((IntKind.i64.wrap ((IntKind.i64.wrap (w2 + w3)) - (IntKind.i64.wrap (2 * w4)))) - (IntKind.i64.wrap (2 * w5))))).1.length) with | some w6 => (match nmO (α := Nat) ((jrD w2 w3 (IntKind.i64.wrap ((IntKind.i64.wrap (w2 + w3)) - (IntKind.i64.wrap (2 * w4)))) (IntKind.i64.wrap ((IntKind.i64.wrap ((IntKind.i64.wrap (w2 + w3)) - (IntKind.i64.wrap (2 * w4)))) - (IntKind.i64.wrap (2 * w5))))).2.1.length) with | some w7 => (match nmO (α := Nat) ((jrD w2 w3 (IntKind.i64.wrap ((IntKind.i64.wrap (w2 + w3)) - (IntKind.i64.wrap (2 * w4)))) (IntKind.i64.wrap ((IntKind.i64.wrap ((IntKind.i64.wrap (w2 + w3)) - (IntKind.i64.wrap (2 * w4)))) - (IntKind.i64.wrap (2 * w5))))).2.2.length) with | some w8 => (match nmO (α := List Int) ((jrD w2 w3 (IntKind.i64.wrap ((IntKind.i64.wrap (w2 + w3)) - (IntKind.i64.wrap (2 * w4)))) (IntKind.i64.wrap ((IntKind.i64.wrap ((IntKind.i64.wrap (w2 + w3)) - (IntKind.i64.wrap (2 * w4)))) - (IntKind.i64.wrap (2 * w5))))).1) with | some w9 => (match nmO (α := List Int) ((jrD w2 w3 (IntKind.i64.wrap ((IntKind.i64.wrap (w2 + w3)) - (IntKind.i64.wrap (2 * w4)))) (IntKind.i64.wrap ((IntKind.i64.wrap ((IntKind.i64.wrap (w2 + w3)) - (IntKind.i64.wrap (2 * w4)))) - (IntKind.i64.wrap (2 * w5))))).2.1) with | some w10 => (match nmO (α := List Int) ((jrD w2 w3 (IntKind.i64.wrap ((IntKind.i64.wrap (w2 + w3)) - (IntKind.i64.wrap (2 * w4)))) (IntKind.i64.wrap ((IntKind.i64.wrap ((IntKind.i64.wrap (w2 + w3)) - (IntKind.i64.wrap (2 * w4)))) - (IntKind.i64.wrap (2 * w5))))).2.2) with | some w11 => (match rowS w2 w3 (IntKind.i64.wrap ((IntKind.i64.wrap (w2 + w3)) - (IntKind.i64.wrap (2 * w4)))) (IntKind.i64.wrap ((IntKind.i64.wrap ((IntKind.i64.wrap (w2 + w3)) - (IntKind.i64.wrap (2 * w4)))) - (IntKind.i64.wrap (2 * w5)))) with | true => (match nmO (α := Nat) ((jrD w2 w3 (IntKind.i64.wrap ((IntKind.i64.wrap (w2 + w3)) - (IntKind.i64.wrap (2 * w4)))) (IntKind.i64.wrap ((IntKind.i64.wrap ((IntKind.i64.wrap (w2 + w3)) - (IntKind.i64.wrap (2 * w4)))) - (IntKind.i64.wrap (2 * w5))))).1.length) with | some w12 => (match nmO (α := Nat) ((jrD w2 w3 (IntKind.i64.wrap ((IntKind.i64.wrap (w2 + w3)) - (IntKind.i64.wrap (2 * w4)))) (IntKind.i64.wrap ((IntKind.i64.wrap ((IntKind.i64.wrap (w2 + w3)) - (IntKind.i64.wrap (2 * w4)))) - (IntKind.i64.wrap (2 * w5))))).2.1.length) with | some w13 => (match nmO (α := Nat) ((jrD w2 w3 (IntKind.i64.wrap ((IntKind.i64.wrap (w2 + w3)) - (IntKind.i64.wrap (2 * w4)))) (IntKind.i64.wrap ((IntKind.i64.wrap ((IntKind.i64.wrap (w2 + w3)) - (IntKind.i64.wrap (2 * w4)))) - (IntKind.i64.wrap (2 * w5))))).2.2.length) with | some w14 => (match nmO (α := List Int) ((jrD w2 w3 (IntKind.i64.wrap ((IntKind.i64.wrap (w2 + w3)) - (IntKind.i64.wrap (2 * w4)))) (IntKind.i64.wrap ((IntKind.i64.wrap ((IntKind.i64.wrap (w2 + w3)) - (IntKind.i64.wrap (2 * w4)))) - (IntKind.i64.wrap (2 * w5))))).1) with | some w15 => (match nmO (α := List Int) ((jrD w2 w3 (IntKind.i64.wrap ((IntKind.i64.wrap (w2 + w3)) - (IntKind.i64.wrap (2 * w4)))) (IntKind.i64.wrap ((IntKind.i64.wrap ((IntKind.i64.wrap (w2 + w3)) - (IntKind.i64.wrap (2 * w4)))) - (IntKind.i64.wrap (2 * w5))))).2.1) with | some w16 => (match nmO (α := List Int) ((jrD w2 w3 (IntKind.i64.wrap ((IntKind.i64.wrap (w2 + w3)) - (IntKind.i64.wrap (2 * w4)))) (IntKind.i64.wrap ((IntKind.i64.wrap ((IntKind.i64.wrap (w2 + w3)) - (IntKind.i64.wrap (2 * w4)))) - (IntKind.i64.wrap (2 * w5))))).2.2) with | some w17 => (match eqOk w6 w12 w9 w15 with | true => (match nmO (α := Bool) (eqIB w9 w15) with | some w18 => (match !w18 with | true => some (.bool false, hh) | false => (match eqOk w7 w13 w10 w16 with | true => (match nmO (α := Bool) (eqIB w10 w16) with | some w19 => (match !w19 with | true => some (.bool false, hh) | false => (match eqOk w8 w14 w11 w17 with | true => (match nmO (α := Bool) (eqIB w11 w17) with | some w20 => (match !w20 with | true => some (.bool false, hh) | false => (match decide ((((w7 : Nat) : Int) : Int) < 1) with | true => some (.bool false, hh) | false => (mr_joiD14 40 k0 k1 40 w2 w3 w7 w8 0 1 ((w7 : Nat) : Int) 0 w10 w11))) | none => none) | false => none)) | none => none) | false => none)) | none => none) | false => none) | none => none) | none => none) | none => none) | none => none) | none => none) | none => none) | false => some (.bool false, hh)) | none => none) | none => none) | none => none) | none => none) | none => none) | none => none) | false => (match rowS w2 w3 (IntKind.i64.wrap ((IntKind.i64.wrap (w2 + w3)) - (IntKind.i64.wrap (2 * w4)))) (IntKind.i64.wrap ((IntKind.i64.wrap ((IntKind.i64.wrap (w2 + w3)) - (IntKind.i64.wrap (2 * w4)))) - (IntKind.i64.wrap (2 * w5)))) with | true => (match nmO (α := Nat) ((jrD w2 w3 (IntKind.i64.wrap ((IntKind.i64.wrap (w2 + w3)) - (IntKind.i64.wrap (2 * w4)))) (IntKind.i64.wrap ((IntKind.i64.wrap ((IntKind.i64.wrap (w2 + w3)) - (IntKind.i64.wrap (2 * w4)))) - (IntKind.i64.wrap (2 * w5))))).1.length) with | some w21 => (match nmO (α := Nat) ((jrD w2 w3 (IntKind.i64.wrap ((IntKind.i64.wrap (w2 + w3)) - (IntKind.i64.wrap (2 * w4)))) (IntKind.i64.wrap ((IntKind.i64.wrap ((IntKind.i64.wrap (w2 + w3)) - (IntKind.i64.wrap (2 * w4)))) - (IntKind.i64.wrap (2 * w5))))).2.1.length) with | some w22 => (match nmO (α := Nat) ((jrD w2 w3 (IntKind.i64.wrap ((IntKind.i64.wrap (w2 + w3)) - (IntKind.i64.wrap (2 * w4)))) (IntKind.i64.wrap ((IntKind.i64.wrap ((IntKind.i64.wrap (w2 + w3)) - (IntKind.i64.wrap (2 * w4)))) - (IntKind.i64.wrap (2 * w5))))).2.2.length) with | some w23 => (match nmO (α := List Int) ((jrD w2 w3 (IntKind.i64.wrap ((IntKind.i64.wrap (w2 + w3)) - (IntKind.i64.wrap (2 * w4)))) (IntKind.i64.wrap ((IntKind.i64.wrap ((IntKind.i64.wrap (w2 + w3)) - (IntKind.i64.wrap (2 * w4)))) - (IntKind.i64.wrap (2 * w5))))).1) with | some w24 => (match nmO (α := List Int) ((jrD w2 w3 (IntKind.i64.wrap ((IntKind.i64.wrap (w2 + w3)) - (IntKind.i64.wrap (2 * w4)))) (IntKind.i64.wrap ((IntKind.i64.wrap ((IntKind.i64.wrap (w2 + w3)) - (IntKind.i64.wrap (2 * w4)))) - (IntKind.i64.wrap (2 * w5))))).2.1) with | some w25 => (match nmO (α := List Int) ((jrD w2 w3 (IntKind.i64.wrap ((IntKind.i64.wrap (w2 + w3)) - (IntKind.i64.wrap (2 * w4)))) (IntKind.i64.wrap ((IntKind.i64.wrap ((IntKind.i64.wrap (w2 + w3)) - (IntKind.i64.wrap (2 * w4)))) - (IntKind.i64.wrap (2 * w5))))).2.2) with | some w26 => some (.bool false, hh) | none => none) | none => none) | none => none) | none => none) | none => none) | none => none) | false => some (.bool false, hh)))
def jB2 (t5 t6 w1 w2 : Int) (hh : H) : Option (V × H) := (match is6 t5 && is6 t6 with | true => (match nmO (α := Nat) ((toD t5 t6).length) with | some w3 => (match nmO (α := List Int) ((toD t5 t6)) with | some w4 => (mr_joiD38 40 (ch_joiD38_0 hh) (ch_joiD38_1 hh) 40 t5 t6 (IntKind.i64.wrap (t5 - (IntKind.i64.wrap (2 * w1)))) (IntKind.i64.wrap (t6 - (IntKind.i64.wrap (2 * w2)))) 0 w3 ((w3 : Nat) : Int) 0 w4) | none => none) | none => none) | false => some (.bool false, hh))
def J1 (a b m k : Int) : Prop := ∀ (hh : H) (k0 k1 : Int → Int → Int → Int → Option (V × H)), jB1 a b m k hh k0 k1 = k1 a b 1 1
def J2 (a b i j : Int) : Prop := ∀ hh : H, jB2 a b i j hh = some (.bool true, hh)
end
end Go.Proofs.Ytbhfjdlhhjeknaa.Ab

namespace Go.Proofs.Ytbhfjdlhhjeknaa.Ab
set_option linter.unusedVariables false
set_option linter.unusedSimpArgs false
open Go
theorem p000_0 : J1 0 0 0 0 := fun _ _ _ => by kernel_rfl
theorem p010_0 : J1 0 1 0 0 := fun _ _ _ => by kernel_rfl
theorem p010_1 : J1 0 1 0 1 := fun _ _ _ => by kernel_rfl
theorem p020_0 : J1 0 2 0 0 := fun _ _ _ => by kernel_rfl
theorem p020_1 : J1 0 2 0 1 := fun _ _ _ => by kernel_rfl
theorem p020_2 : J1 0 2 0 2 := fun _ _ _ => by kernel_rfl
theorem p030_0 : J1 0 3 0 0 := fun _ _ _ => by kernel_rfl
theorem p030_1 : J1 0 3 0 1 := fun _ _ _ => by kernel_rfl
theorem p030_2 : J1 0 3 0 2 := fun _ _ _ => by kernel_rfl
theorem p030_3 : J1 0 3 0 3 := fun _ _ _ => by kernel_rfl
theorem p040_0 : J1 0 4 0 0 := fun _ _ _ => by kernel_rfl
theorem p040_1 : J1 0 4 0 1 := fun _ _ _ => by kernel_rfl
theorem p040_2 : J1 0 4 0 2 := fun _ _ _ => by kernel_rfl
theorem p040_3 : J1 0 4 0 3 := fun _ _ _ => by kernel_rfl
theorem p040_4 : J1 0 4 0 4 := fun _ _ _ => by kernel_rfl
theorem p050_0 : J1 0 5 0 0 := fun _ _ _ => by kernel_rfl
theorem p050_1 : J1 0 5 0 1 := fun _ _ _ => by kernel_rfl
theorem p050_2 : J1 0 5 0 2 := fun _ _ _ => by kernel_rfl
theorem p050_3 : J1 0 5 0 3 := fun _ _ _ => by kernel_rfl
theorem p050_4 : J1 0 5 0 4 := fun _ _ _ => by kernel_rfl
theorem p050_5 : J1 0 5 0 5 := fun _ _ _ => by kernel_rfl
theorem p060_0 : J1 0 6 0 0 := fun _ _ _ => by kernel_rfl
theorem p060_1 : J1 0 6 0 1 := fun _ _ _ => by kernel_rfl
theorem p060_2 : J1 0 6 0 2 := fun _ _ _ => by kernel_rfl
theorem p060_3 : J1 0 6 0 3 := fun _ _ _ => by kernel_rfl
theorem p060_4 : J1 0 6 0 4 := fun _ _ _ => by kernel_rfl
theorem p060_5 : J1 0 6 0 5 := fun _ _ _ => by kernel_rfl
theorem p060_6 : J1 0 6 0 6 := fun _ _ _ => by kernel_rfl
theorem p100_0 : J1 1 0 0 0 := fun _ _ _ => by kernel_rfl
theorem p100_1 : J1 1 0 0 1 := fun _ _ _ => by kernel_rfl
theorem p110_0 : J1 1 1 0 0 := fun _ _ _ => by kernel_rfl
theorem p110_1 : J1 1 1 0 1 := fun _ _ _ => by kernel_rfl
theorem p110_2 : J1 1 1 0 2 := fun _ _ _ => by kernel_rfl
theorem p111_0 : J1 1 1 1 0 := fun _ _ _ => by kernel_rfl
theorem p120_0 : J1 1 2 0 0 := fun _ _ _ => by kernel_rfl
theorem p120_1 : J1 1 2 0 1 := fun _ _ _ => by kernel_rfl
theorem p120_2 : J1 1 2 0 2 := fun _ _ _ => by kernel_rfl
theorem p120_3 : J1 1 2 0 3 := fun _ _ _ => by kernel_rfl
theorem p121_0 : J1 1 2 1 0 := fun _ _ _ => by kernel_rfl
theorem p121_1 : J1 1 2 1 1 := fun _ _ _ => by kernel_rfl
theorem p130_0 : J1 1 3 0 0 := fun _ _ _ => by kernel_rfl
theorem p130_1 : J1 1 3 0 1 := fun _ _ _ => by kernel_rfl
theorem p130_2 : J1 1 3 0 2 := fun _ _ _ => by kernel_rfl
theorem p130_3 : J1 1 3 0 3 := fun _ _ _ => by kernel_rfl
theorem p130_4 : J1 1 3 0 4 := fun _ _ _ => by kernel_rfl
theorem p131_0 : J1 1 3 1 0 := fun _ _ _ => by kernel_rfl
theorem p131_1 : J1 1 3 1 1 := fun _ _ _ => by kernel_rfl
theorem p131_2 : J1 1 3 1 2 := fun _ _ _ => by kernel_rfl
theorem p140_0 : J1 1 4 0 0 := fun _ _ _ => by kernel_rfl
theorem p140_1 : J1 1 4 0 1 := fun _ _ _ => by kernel_rfl
theorem p140_2 : J1 1 4 0 2 := fun _ _ _ => by kernel_rfl
theorem p140_3 : J1 1 4 0 3 := fun _ _ _ => by kernel_rfl
theorem p140_4 : J1 1 4 0 4 := fun _ _ _ => by kernel_rfl
theorem p140_5 : J1 1 4 0 5 := fun _ _ _ => by kernel_rfl
theorem p141_0 : J1 1 4 1 0 := fun _ _ _ => by kernel_rfl
theorem p141_1 : J1 1 4 1 1 := fun _ _ _ => by kernel_rfl
theorem p141_2 : J1 1 4 1 2 := fun _ _ _ => by kernel_rfl
theorem p141_3 : J1 1 4 1 3 := fun _ _ _ => by kernel_rfl
theorem p150_0 : J1 1 5 0 0 := fun _ _ _ => by kernel_rfl
theorem p150_1 : J1 1 5 0 1 := fun _ _ _ => by kernel_rfl
theorem p150_2 : J1 1 5 0 2 := fun _ _ _ => by kernel_rfl
theorem p150_3 : J1 1 5 0 3 := fun _ _ _ => by kernel_rfl
theorem p150_4 : J1 1 5 0 4 := fun _ _ _ => by kernel_rfl
theorem p150_5 : J1 1 5 0 5 := fun _ _ _ => by kernel_rfl
theorem p150_6 : J1 1 5 0 6 := fun _ _ _ => by kernel_rfl
theorem p151_0 : J1 1 5 1 0 := fun _ _ _ => by kernel_rfl
theorem p151_1 : J1 1 5 1 1 := fun _ _ _ => by kernel_rfl
theorem p151_2 : J1 1 5 1 2 := fun _ _ _ => by kernel_rfl
theorem p151_3 : J1 1 5 1 3 := fun _ _ _ => by kernel_rfl
theorem p151_4 : J1 1 5 1 4 := fun _ _ _ => by kernel_rfl
theorem p160_0 : J1 1 6 0 0 := fun _ _ _ => by kernel_rfl
theorem p160_1 : J1 1 6 0 1 := fun _ _ _ => by kernel_rfl
theorem p160_2 : J1 1 6 0 2 := fun _ _ _ => by kernel_rfl
theorem p160_3 : J1 1 6 0 3 := fun _ _ _ => by kernel_rfl
theorem p160_4 : J1 1 6 0 4 := fun _ _ _ => by kernel_rfl
theorem p160_5 : J1 1 6 0 5 := fun _ _ _ => by kernel_rfl
theorem p160_6 : J1 1 6 0 6 := fun _ _ _ => by kernel_rfl
theorem p160_7 : J1 1 6 0 7 := fun _ _ _ => by kernel_rfl
theorem p161_0 : J1 1 6 1 0 := fun _ _ _ => by kernel_rfl
theorem p161_1 : J1 1 6 1 1 := fun _ _ _ => by kernel_rfl
theorem p161_2 : J1 1 6 1 2 := fun _ _ _ => by kernel_rfl
theorem p161_3 : J1 1 6 1 3 := fun _ _ _ => by kernel_rfl
theorem p161_4 : J1 1 6 1 4 := fun _ _ _ => by kernel_rfl
theorem p161_5 : J1 1 6 1 5 := fun _ _ _ => by kernel_rfl
theorem p200_0 : J1 2 0 0 0 := fun _ _ _ => by kernel_rfl
theorem p200_1 : J1 2 0 0 1 := fun _ _ _ => by kernel_rfl
theorem p200_2 : J1 2 0 0 2 := fun _ _ _ => by kernel_rfl
theorem p210_0 : J1 2 1 0 0 := fun _ _ _ => by kernel_rfl
theorem p210_1 : J1 2 1 0 1 := fun _ _ _ => by kernel_rfl
theorem p210_2 : J1 2 1 0 2 := fun _ _ _ => by kernel_rfl
theorem p210_3 : J1 2 1 0 3 := fun _ _ _ => by kernel_rfl
theorem p211_0 : J1 2 1 1 0 := fun _ _ _ => by kernel_rfl
theorem p211_1 : J1 2 1 1 1 := fun _ _ _ => by kernel_rfl
theorem p220_0 : J1 2 2 0 0 := fun _ _ _ => by kernel_rfl
theorem p220_1 : J1 2 2 0 1 := fun _ _ _ => by kernel_rfl
theorem p220_2 : J1 2 2 0 2 := fun _ _ _ => by kernel_rfl
theorem p220_3 : J1 2 2 0 3 := fun _ _ _ => by kernel_rfl
theorem p220_4 : J1 2 2 0 4 := fun _ _ _ => by kernel_rfl
theorem p221_0 : J1 2 2 1 0 := fun _ _ _ => by kernel_rfl
theorem p221_1 : J1 2 2 1 1 := fun _ _ _ => by kernel_rfl
theorem p221_2 : J1 2 2 1 2 := fun _ _ _ => by kernel_rfl
theorem p222_0 : J1 2 2 2 0 := fun _ _ _ => by kernel_rfl
theorem p230_0 : J1 2 3 0 0 := fun _ _ _ => by kernel_rfl
theorem p230_1 : J1 2 3 0 1 := fun _ _ _ => by kernel_rfl
theorem p230_2 : J1 2 3 0 2 := fun _ _ _ => by kernel_rfl
theorem p230_3 : J1 2 3 0 3 := fun _ _ _ => by kernel_rfl
theorem p230_4 : J1 2 3 0 4 := fun _ _ _ => by kernel_rfl
theorem p230_5 : J1 2 3 0 5 := fun _ _ _ => by kernel_rfl
theorem p231_0 : J1 2 3 1 0 := fun _ _ _ => by kernel_rfl
theorem p231_1 : J1 2 3 1 1 := fun _ _ _ => by kernel_rfl
theorem p231_2 : J1 2 3 1 2 := fun _ _ _ => by kernel_rfl
theorem p231_3 : J1 2 3 1 3 := fun _ _ _ => by kernel_rfl
theorem p232_0 : J1 2 3 2 0 := fun _ _ _ => by kernel_rfl
theorem p232_1 : J1 2 3 2 1 := fun _ _ _ => by kernel_rfl
theorem p240_0 : J1 2 4 0 0 := fun _ _ _ => by kernel_rfl
theorem p240_1 : J1 2 4 0 1 := fun _ _ _ => by kernel_rfl
theorem p240_2 : J1 2 4 0 2 := fun _ _ _ => by kernel_rfl
theorem p240_3 : J1 2 4 0 3 := fun _ _ _ => by kernel_rfl
theorem p240_4 : J1 2 4 0 4 := fun _ _ _ => by kernel_rfl
theorem p240_5 : J1 2 4 0 5 := fun _ _ _ => by kernel_rfl
theorem p240_6 : J1 2 4 0 6 := fun _ _ _ => by kernel_rfl
theorem p241_0 : J1 2 4 1 0 := fun _ _ _ => by kernel_rfl
theorem p241_1 : J1 2 4 1 1 := fun _ _ _ => by kernel_rfl
theorem p241_2 : J1 2 4 1 2 := fun _ _ _ => by kernel_rfl
theorem p241_3 : J1 2 4 1 3 := fun _ _ _ => by kernel_rfl
theorem p241_4 : J1 2 4 1 4 := fun _ _ _ => by kernel_rfl
theorem p242_0 : J1 2 4 2 0 := fun _ _ _ => by kernel_rfl
theorem p242_1 : J1 2 4 2 1 := fun _ _ _ => by kernel_rfl
theorem p242_2 : J1 2 4 2 2 := fun _ _ _ => by kernel_rfl
theorem p250_0 : J1 2 5 0 0 := fun _ _ _ => by kernel_rfl
theorem p250_1 : J1 2 5 0 1 := fun _ _ _ => by kernel_rfl
theorem p250_2 : J1 2 5 0 2 := fun _ _ _ => by kernel_rfl
theorem p250_3 : J1 2 5 0 3 := fun _ _ _ => by kernel_rfl
theorem p250_4 : J1 2 5 0 4 := fun _ _ _ => by kernel_rfl
theorem p250_5 : J1 2 5 0 5 := fun _ _ _ => by kernel_rfl
theorem p250_6 : J1 2 5 0 6 := fun _ _ _ => by kernel_rfl
theorem p250_7 : J1 2 5 0 7 := fun _ _ _ => by kernel_rfl
theorem p251_0 : J1 2 5 1 0 := fun _ _ _ => by kernel_rfl
theorem p251_1 : J1 2 5 1 1 := fun _ _ _ => by kernel_rfl
theorem p251_2 : J1 2 5 1 2 := fun _ _ _ => by kernel_rfl
theorem p251_3 : J1 2 5 1 3 := fun _ _ _ => by kernel_rfl
theorem p251_4 : J1 2 5 1 4 := fun _ _ _ => by kernel_rfl
theorem p251_5 : J1 2 5 1 5 := fun _ _ _ => by kernel_rfl
theorem p252_0 : J1 2 5 2 0 := fun _ _ _ => by kernel_rfl
theorem p252_1 : J1 2 5 2 1 := fun _ _ _ => by kernel_rfl
theorem p252_2 : J1 2 5 2 2 := fun _ _ _ => by kernel_rfl
theorem p252_3 : J1 2 5 2 3 := fun _ _ _ => by kernel_rfl
theorem p260_0 : J1 2 6 0 0 := fun _ _ _ => by kernel_rfl
theorem p260_1 : J1 2 6 0 1 := fun _ _ _ => by kernel_rfl
theorem p260_2 : J1 2 6 0 2 := fun _ _ _ => by kernel_rfl
theorem p260_3 : J1 2 6 0 3 := fun _ _ _ => by kernel_rfl
theorem p260_4 : J1 2 6 0 4 := fun _ _ _ => by kernel_rfl
theorem p260_5 : J1 2 6 0 5 := fun _ _ _ => by kernel_rfl
theorem p260_6 : J1 2 6 0 6 := fun _ _ _ => by kernel_rfl
theorem p260_7 : J1 2 6 0 7 := fun _ _ _ => by kernel_rfl
theorem p260_8 : J1 2 6 0 8 := fun _ _ _ => by kernel_rfl
theorem p261_0 : J1 2 6 1 0 := fun _ _ _ => by kernel_rfl
theorem p261_1 : J1 2 6 1 1 := fun _ _ _ => by kernel_rfl
theorem p261_2 : J1 2 6 1 2 := fun _ _ _ => by kernel_rfl
theorem p261_3 : J1 2 6 1 3 := fun _ _ _ => by kernel_rfl
theorem p261_4 : J1 2 6 1 4 := fun _ _ _ => by kernel_rfl
theorem p261_5 : J1 2 6 1 5 := fun _ _ _ => by kernel_rfl
theorem p261_6 : J1 2 6 1 6 := fun _ _ _ => by kernel_rfl
theorem p262_0 : J1 2 6 2 0 := fun _ _ _ => by kernel_rfl
theorem p262_1 : J1 2 6 2 1 := fun _ _ _ => by kernel_rfl
theorem p262_2 : J1 2 6 2 2 := fun _ _ _ => by kernel_rfl
theorem p262_3 : J1 2 6 2 3 := fun _ _ _ => by kernel_rfl
theorem p262_4 : J1 2 6 2 4 := fun _ _ _ => by kernel_rfl
theorem p300_0 : J1 3 0 0 0 := fun _ _ _ => by kernel_rfl
theorem p300_1 : J1 3 0 0 1 := fun _ _ _ => by kernel_rfl
theorem p300_2 : J1 3 0 0 2 := fun _ _ _ => by kernel_rfl
theorem p300_3 : J1 3 0 0 3 := fun _ _ _ => by kernel_rfl
theorem p310_0 : J1 3 1 0 0 := fun _ _ _ => by kernel_rfl
theorem p310_1 : J1 3 1 0 1 := fun _ _ _ => by kernel_rfl
theorem p310_2 : J1 3 1 0 2 := fun _ _ _ => by kernel_rfl
theorem p310_3 : J1 3 1 0 3 := fun _ _ _ => by kernel_rfl
theorem p310_4 : J1 3 1 0 4 := fun _ _ _ => by kernel_rfl
theorem p311_0 : J1 3 1 1 0 := fun _ _ _ => by kernel_rfl
theorem p311_1 : J1 3 1 1 1 := fun _ _ _ => by kernel_rfl
theorem p311_2 : J1 3 1 1 2 := fun _ _ _ => by kernel_rfl
theorem p320_0 : J1 3 2 0 0 := fun _ _ _ => by kernel_rfl
theorem p320_1 : J1 3 2 0 1 := fun _ _ _ => by kernel_rfl
theorem p320_2 : J1 3 2 0 2 := fun _ _ _ => by kernel_rfl
theorem p320_3 : J1 3 2 0 3 := fun _ _ _ => by kernel_rfl
theorem p320_4 : J1 3 2 0 4 := fun _ _ _ => by kernel_rfl
theorem p320_5 : J1 3 2 0 5 := fun _ _ _ => by kernel_rfl
theorem p321_0 : J1 3 2 1 0 := fun _ _ _ => by kernel_rfl
theorem p321_1 : J1 3 2 1 1 := fun _ _ _ => by kernel_rfl
theorem p321_2 : J1 3 2 1 2 := fun _ _ _ => by kernel_rfl
theorem p321_3 : J1 3 2 1 3 := fun _ _ _ => by kernel_rfl
theorem p322_0 : J1 3 2 2 0 := fun _ _ _ => by kernel_rfl
theorem p322_1 : J1 3 2 2 1 := fun _ _ _ => by kernel_rfl
theorem p330_0 : J1 3 3 0 0 := fun _ _ _ => by kernel_rfl
theorem p330_1 : J1 3 3 0 1 := fun _ _ _ => by kernel_rfl
theorem p330_2 : J1 3 3 0 2 := fun _ _ _ => by kernel_rfl
theorem p330_3 : J1 3 3 0 3 := fun _ _ _ => by kernel_rfl
theorem p330_4 : J1 3 3 0 4 := fun _ _ _ => by kernel_rfl
theorem p330_5 : J1 3 3 0 5 := fun _ _ _ => by kernel_rfl
theorem p330_6 : J1 3 3 0 6 := fun _ _ _ => by kernel_rfl
theorem p331_0 : J1 3 3 1 0 := fun _ _ _ => by kernel_rfl
theorem p331_1 : J1 3 3 1 1 := fun _ _ _ => by kernel_rfl
theorem p331_2 : J1 3 3 1 2 := fun _ _ _ => by kernel_rfl
theorem p331_3 : J1 3 3 1 3 := fun _ _ _ => by kernel_rfl
theorem p331_4 : J1 3 3 1 4 := fun _ _ _ => by kernel_rfl
theorem p332_0 : J1 3 3 2 0 := fun _ _ _ => by kernel_rfl
theorem p332_1 : J1 3 3 2 1 := fun _ _ _ => by kernel_rfl
theorem p332_2 : J1 3 3 2 2 := fun _ _ _ => by kernel_rfl
theorem p333_0 : J1 3 3 3 0 := fun _ _ _ => by kernel_rfl
theorem p340_0 : J1 3 4 0 0 := fun _ _ _ => by kernel_rfl
theorem p340_1 : J1 3 4 0 1 := fun _ _ _ => by kernel_rfl
theorem p340_2 : J1 3 4 0 2 := fun _ _ _ => by kernel_rfl
theorem p340_3 : J1 3 4 0 3 := fun _ _ _ => by kernel_rfl
theorem p340_4 : J1 3 4 0 4 := fun _ _ _ => by kernel_rfl
theorem p340_5 : J1 3 4 0 5 := fun _ _ _ => by kernel_rfl
theorem p340_6 : J1 3 4 0 6 := fun _ _ _ => by kernel_rfl
theorem p340_7 : J1 3 4 0 7 := fun _ _ _ => by kernel_rfl
theorem p341_0 : J1 3 4 1 0 := fun _ _ _ => by kernel_rfl
theorem p341_1 : J1 3 4 1 1 := fun _ _ _ => by kernel_rfl
theorem p341_2 : J1 3 4 1 2 := fun _ _ _ => by kernel_rfl
theorem p341_3 : J1 3 4 1 3 := fun _ _ _ => by kernel_rfl
theorem p341_4 : J1 3 4 1 4 := fun _ _ _ => by kernel_rfl
theorem p341_5 : J1 3 4 1 5 := fun _ _ _ => by kernel_rfl
theorem p342_0 : J1 3 4 2 0 := fun _ _ _ => by kernel_rfl
theorem p342_1 : J1 3 4 2 1 := fun _ _ _ => by kernel_rfl
theorem p342_2 : J1 3 4 2 2 := fun _ _ _ => by kernel_rfl
theorem p342_3 : J1 3 4 2 3 := fun _ _ _ => by kernel_rfl
theorem p343_0 : J1 3 4 3 0 := fun _ _ _ => by kernel_rfl
theorem p343_1 : J1 3 4 3 1 := fun _ _ _ => by kernel_rfl
theorem p350_0 : J1 3 5 0 0 := fun _ _ _ => by kernel_rfl
theorem p350_1 : J1 3 5 0 1 := fun _ _ _ => by kernel_rfl
theorem p350_2 : J1 3 5 0 2 := fun _ _ _ => by kernel_rfl
theorem p350_3 : J1 3 5 0 3 := fun _ _ _ => by kernel_rfl
theorem p350_4 : J1 3 5 0 4 := fun _ _ _ => by kernel_rfl
theorem p350_5 : J1 3 5 0 5 := fun _ _ _ => by kernel_rfl
theorem p350_6 : J1 3 5 0 6 := fun _ _ _ => by kernel_rfl
theorem p350_7 : J1 3 5 0 7 := fun _ _ _ => by kernel_rfl
theorem p350_8 : J1 3 5 0 8 := fun _ _ _ => by kernel_rfl
theorem p351_0 : J1 3 5 1 0 := fun _ _ _ => by kernel_rfl
theorem p351_1 : J1 3 5 1 1 := fun _ _ _ => by kernel_rfl
theorem p351_2 : J1 3 5 1 2 := fun _ _ _ => by kernel_rfl
theorem p351_3 : J1 3 5 1 3 := fun _ _ _ => by kernel_rfl
theorem p351_4 : J1 3 5 1 4 := fun _ _ _ => by kernel_rfl
theorem p351_5 : J1 3 5 1 5 := fun _ _ _ => by kernel_rfl
theorem p351_6 : J1 3 5 1 6 := fun _ _ _ => by kernel_rfl
theorem p352_0 : J1 3 5 2 0 := fun _ _ _ => by kernel_rfl
theorem p352_1 : J1 3 5 2 1 := fun _ _ _ => by kernel_rfl
theorem p352_2 : J1 3 5 2 2 := fun _ _ _ => by kernel_rfl
theorem p352_3 : J1 3 5 2 3 := fun _ _ _ => by kernel_rfl
theorem p352_4 : J1 3 5 2 4 := fun _ _ _ => by kernel_rfl
theorem p353_0 : J1 3 5 3 0 := fun _ _ _ => by kernel_rfl
theorem p353_1 : J1 3 5 3 1 := fun _ _ _ => by kernel_rfl
theorem p353_2 : J1 3 5 3 2 := fun _ _ _ => by kernel_rfl
theorem p360_0 : J1 3 6 0 0 := fun _ _ _ => by kernel_rfl
theorem p360_1 : J1 3 6 0 1 := fun _ _ _ => by kernel_rfl
theorem p360_2 : J1 3 6 0 2 := fun _ _ _ => by kernel_rfl
theorem p360_3 : J1 3 6 0 3 := fun _ _ _ => by kernel_rfl
theorem p360_4 : J1 3 6 0 4 := fun _ _ _ => by kernel_rfl
theorem p360_5 : J1 3 6 0 5 := fun _ _ _ => by kernel_rfl
theorem p360_6 : J1 3 6 0 6 := fun _ _ _ => by kernel_rfl
theorem p360_7 : J1 3 6 0 7 := fun _ _ _ => by kernel_rfl
theorem p360_8 : J1 3 6 0 8 := fun _ _ _ => by kernel_rfl
theorem p360_9 : J1 3 6 0 9 := fun _ _ _ => by kernel_rfl
theorem p361_0 : J1 3 6 1 0 := fun _ _ _ => by kernel_rfl
theorem p361_1 : J1 3 6 1 1 := fun _ _ _ => by kernel_rfl
theorem p361_2 : J1 3 6 1 2 := fun _ _ _ => by kernel_rfl
theorem p361_3 : J1 3 6 1 3 := fun _ _ _ => by kernel_rfl
theorem p361_4 : J1 3 6 1 4 := fun _ _ _ => by kernel_rfl
theorem p361_5 : J1 3 6 1 5 := fun _ _ _ => by kernel_rfl
theorem p361_6 : J1 3 6 1 6 := fun _ _ _ => by kernel_rfl
theorem p361_7 : J1 3 6 1 7 := fun _ _ _ => by kernel_rfl
theorem p362_0 : J1 3 6 2 0 := fun _ _ _ => by kernel_rfl
theorem p362_1 : J1 3 6 2 1 := fun _ _ _ => by kernel_rfl
theorem p362_2 : J1 3 6 2 2 := fun _ _ _ => by kernel_rfl
theorem p362_3 : J1 3 6 2 3 := fun _ _ _ => by kernel_rfl
theorem p362_4 : J1 3 6 2 4 := fun _ _ _ => by kernel_rfl
theorem p362_5 : J1 3 6 2 5 := fun _ _ _ => by kernel_rfl
theorem p363_0 : J1 3 6 3 0 := fun _ _ _ => by kernel_rfl
theorem p363_1 : J1 3 6 3 1 := fun _ _ _ => by kernel_rfl
theorem p363_2 : J1 3 6 3 2 := fun _ _ _ => by kernel_rfl
theorem p363_3 : J1 3 6 3 3 := fun _ _ _ => by kernel_rfl
theorem p400_0 : J1 4 0 0 0 := fun _ _ _ => by kernel_rfl
theorem p400_1 : J1 4 0 0 1 := fun _ _ _ => by kernel_rfl
theorem p400_2 : J1 4 0 0 2 := fun _ _ _ => by kernel_rfl
theorem p400_3 : J1 4 0 0 3 := fun _ _ _ => by kernel_rfl
theorem p400_4 : J1 4 0 0 4 := fun _ _ _ => by kernel_rfl
theorem p410_0 : J1 4 1 0 0 := fun _ _ _ => by kernel_rfl
theorem p410_1 : J1 4 1 0 1 := fun _ _ _ => by kernel_rfl
theorem p410_2 : J1 4 1 0 2 := fun _ _ _ => by kernel_rfl
theorem p410_3 : J1 4 1 0 3 := fun _ _ _ => by kernel_rfl
theorem p410_4 : J1 4 1 0 4 := fun _ _ _ => by kernel_rfl
theorem p410_5 : J1 4 1 0 5 := fun _ _ _ => by kernel_rfl
theorem p411_0 : J1 4 1 1 0 := fun _ _ _ => by kernel_rfl
theorem p411_1 : J1 4 1 1 1 := fun _ _ _ => by kernel_rfl
theorem p411_2 : J1 4 1 1 2 := fun _ _ _ => by kernel_rfl
theorem p411_3 : J1 4 1 1 3 := fun _ _ _ => by kernel_rfl
theorem p420_0 : J1 4 2 0 0 := fun _ _ _ => by kernel_rfl
theorem p420_1 : J1 4 2 0 1 := fun _ _ _ => by kernel_rfl
theorem p420_2 : J1 4 2 0 2 := fun _ _ _ => by kernel_rfl
theorem p420_3 : J1 4 2 0 3 := fun _ _ _ => by kernel_rfl
theorem p420_4 : J1 4 2 0 4 := fun _ _ _ => by kernel_rfl
theorem p420_5 : J1 4 2 0 5 := fun _ _ _ => by kernel_rfl
theorem p420_6 : J1 4 2 0 6 := fun _ _ _ => by kernel_rfl
theorem p421_0 : J1 4 2 1 0 := fun _ _ _ => by kernel_rfl
theorem p421_1 : J1 4 2 1 1 := fun _ _ _ => by kernel_rfl
theorem p421_2 : J1 4 2 1 2 := fun _ _ _ => by kernel_rfl
theorem p421_3 : J1 4 2 1 3 := fun _ _ _ => by kernel_rfl
theorem p421_4 : J1 4 2 1 4 := fun _ _ _ => by kernel_rfl
theorem p422_0 : J1 4 2 2 0 := fun _ _ _ => by kernel_rfl
theorem p422_1 : J1 4 2 2 1 := fun _ _ _ => by kernel_rfl
theorem p422_2 : J1 4 2 2 2 := fun _ _ _ => by kernel_rfl
theorem p430_0 : J1 4 3 0 0 := fun _ _ _ => by kernel_rfl
theorem p430_1 : J1 4 3 0 1 := fun _ _ _ => by kernel_rfl
theorem p430_2 : J1 4 3 0 2 := fun _ _ _ => by kernel_rfl
theorem p430_3 : J1 4 3 0 3 := fun _ _ _ => by kernel_rfl
theorem p430_4 : J1 4 3 0 4 := fun _ _ _ => by kernel_rfl
theorem p430_5 : J1 4 3 0 5 := fun _ _ _ => by kernel_rfl
theorem p430_6 : J1 4 3 0 6 := fun _ _ _ => by kernel_rfl
theorem p430_7 : J1 4 3 0 7 := fun _ _ _ => by kernel_rfl
theorem p431_0 : J1 4 3 1 0 := fun _ _ _ => by kernel_rfl
theorem p431_1 : J1 4 3 1 1 := fun _ _ _ => by kernel_rfl
theorem p431_2 : J1 4 3 1 2 := fun _ _ _ => by kernel_rfl
theorem p431_3 : J1 4 3 1 3 := fun _ _ _ => by kernel_rfl
theorem p431_4 : J1 4 3 1 4 := fun _ _ _ => by kernel_rfl
theorem p431_5 : J1 4 3 1 5 := fun _ _ _ => by kernel_rfl
theorem p432_0 : J1 4 3 2 0 := fun _ _ _ => by kernel_rfl
theorem p432_1 : J1 4 3 2 1 := fun _ _ _ => by kernel_rfl
theorem p432_2 : J1 4 3 2 2 := fun _ _ _ => by kernel_rfl
theorem p432_3 : J1 4 3 2 3 := fun _ _ _ => by kernel_rfl
theorem p433_0 : J1 4 3 3 0 := fun _ _ _ => by kernel_rfl
theorem p433_1 : J1 4 3 3 1 := fun _ _ _ => by kernel_rfl
theorem p440_0 : J1 4 4 0 0 := fun _ _ _ => by kernel_rfl
theorem p440_1 : J1 4 4 0 1 := fun _ _ _ => by kernel_rfl
theorem p440_2 : J1 4 4 0 2 := fun _ _ _ => by kernel_rfl
theorem p440_3 : J1 4 4 0 3 := fun _ _ _ => by kernel_rfl
theorem p440_4 : J1 4 4 0 4 := fun _ _ _ => by kernel_rfl
theorem p440_5 : J1 4 4 0 5 := fun _ _ _ => by kernel_rfl
theorem p440_6 : J1 4 4 0 6 := fun _ _ _ => by kernel_rfl
theorem p440_7 : J1 4 4 0 7 := fun _ _ _ => by kernel_rfl
theorem p440_8 : J1 4 4 0 8 := fun _ _ _ => by kernel_rfl
theorem p441_0 : J1 4 4 1 0 := fun _ _ _ => by kernel_rfl
theorem p441_1 : J1 4 4 1 1 := fun _ _ _ => by kernel_rfl
theorem p441_2 : J1 4 4 1 2 := fun _ _ _ => by kernel_rfl
theorem p441_3 : J1 4 4 1 3 := fun _ _ _ => by kernel_rfl
theorem p441_4 : J1 4 4 1 4 := fun _ _ _ => by kernel_rfl
theorem p441_5 : J1 4 4 1 5 := fun _ _ _ => by kernel_rfl
theorem p441_6 : J1 4 4 1 6 := fun _ _ _ => by kernel_rfl
theorem p442_0 : J1 4 4 2 0 := fun _ _ _ => by kernel_rfl
theorem p442_1 : J1 4 4 2 1 := fun _ _ _ => by kernel_rfl
theorem p442_2 : J1 4 4 2 2 := fun _ _ _ => by kernel_rfl
theorem p442_3 : J1 4 4 2 3 := fun _ _ _ => by kernel_rfl
theorem p442_4 : J1 4 4 2 4 := fun _ _ _ => by kernel_rfl
theorem p443_0 : J1 4 4 3 0 := fun _ _ _ => by kernel_rfl
theorem p443_1 : J1 4 4 3 1 := fun _ _ _ => by kernel_rfl
theorem p443_2 : J1 4 4 3 2 := fun _ _ _ => by kernel_rfl
theorem p444_0 : J1 4 4 4 0 := fun _ _ _ => by kernel_rfl
theorem p450_0 : J1 4 5 0 0 := fun _ _ _ => by kernel_rfl
theorem p450_1 : J1 4 5 0 1 := fun _ _ _ => by kernel_rfl
theorem p450_2 : J1 4 5 0 2 := fun _ _ _ => by kernel_rfl
theorem p450_3 : J1 4 5 0 3 := fun _ _ _ => by kernel_rfl
theorem p450_4 : J1 4 5 0 4 := fun _ _ _ => by kernel_rfl
theorem p450_5 : J1 4 5 0 5 := fun _ _ _ => by kernel_rfl
theorem p450_6 : J1 4 5 0 6 := fun _ _ _ => by kernel_rfl
theorem p450_7 : J1 4 5 0 7 := fun _ _ _ => by kernel_rfl
theorem p450_8 : J1 4 5 0 8 := fun _ _ _ => by kernel_rfl
theorem p450_9 : J1 4 5 0 9 := fun _ _ _ => by kernel_rfl
theorem p451_0 : J1 4 5 1 0 := fun _ _ _ => by kernel_rfl
theorem p451_1 : J1 4 5 1 1 := fun _ _ _ => by kernel_rfl
theorem p451_2 : J1 4 5 1 2 := fun _ _ _ => by kernel_rfl
theorem p451_3 : J1 4 5 1 3 := fun _ _ _ => by kernel_rfl
theorem p451_4 : J1 4 5 1 4 := fun _ _ _ => by kernel_rfl
theorem p451_5 : J1 4 5 1 5 := fun _ _ _ => by kernel_rfl
theorem p451_6 : J1 4 5 1 6 := fun _ _ _ => by kernel_rfl
theorem p451_7 : J1 4 5 1 7 := fun _ _ _ => by kernel_rfl
theorem p452_0 : J1 4 5 2 0 := fun _ _ _ => by kernel_rfl
theorem p452_1 : J1 4 5 2 1 := fun _ _ _ => by kernel_rfl
theorem p452_2 : J1 4 5 2 2 := fun _ _ _ => by kernel_rfl
theorem p452_3 : J1 4 5 2 3 := fun _ _ _ => by kernel_rfl
theorem p452_4 : J1 4 5 2 4 := fun _ _ _ => by kernel_rfl
theorem p452_5 : J1 4 5 2 5 := fun _ _ _ => by kernel_rfl
theorem p453_0 : J1 4 5 3 0 := fun _ _ _ => by kernel_rfl
theorem p453_1 : J1 4 5 3 1 := fun _ _ _ => by kernel_rfl
theorem p453_2 : J1 4 5 3 2 := fun _ _ _ => by kernel_rfl
theorem p453_3 : J1 4 5 3 3 := fun _ _ _ => by kernel_rfl
theorem p454_0 : J1 4 5 4 0 := fun _ _ _ => by kernel_rfl
theorem p454_1 : J1 4 5 4 1 := fun _ _ _ => by kernel_rfl
theorem p460_0 : J1 4 6 0 0 := fun _ _ _ => by kernel_rfl
theorem p460_1 : J1 4 6 0 1 := fun _ _ _ => by kernel_rfl
theorem p460_2 : J1 4 6 0 2 := fun _ _ _ => by kernel_rfl
theorem p460_3 : J1 4 6 0 3 := fun _ _ _ => by kernel_rfl
theorem p460_4 : J1 4 6 0 4 := fun _ _ _ => by kernel_rfl
theorem p460_5 : J1 4 6 0 5 := fun _ _ _ => by kernel_rfl
theorem p460_6 : J1 4 6 0 6 := fun _ _ _ => by kernel_rfl
theorem p460_7 : J1 4 6 0 7 := fun _ _ _ => by kernel_rfl
theorem p460_8 : J1 4 6 0 8 := fun _ _ _ => by kernel_rfl
theorem p460_9 : J1 4 6 0 9 := fun _ _ _ => by kernel_rfl
theorem p460_10 : J1 4 6 0 10 := fun _ _ _ => by kernel_rfl
theorem p461_0 : J1 4 6 1 0 := fun _ _ _ => by kernel_rfl
theorem p461_1 : J1 4 6 1 1 := fun _ _ _ => by kernel_rfl
theorem p461_2 : J1 4 6 1 2 := fun _ _ _ => by kernel_rfl
theorem p461_3 : J1 4 6 1 3 := fun _ _ _ => by kernel_rfl
theorem p461_4 : J1 4 6 1 4 := fun _ _ _ => by kernel_rfl
theorem p461_5 : J1 4 6 1 5 := fun _ _ _ => by kernel_rfl
theorem p461_6 : J1 4 6 1 6 := fun _ _ _ => by kernel_rfl
theorem p461_7 : J1 4 6 1 7 := fun _ _ _ => by kernel_rfl
theorem p461_8 : J1 4 6 1 8 := fun _ _ _ => by kernel_rfl
theorem p462_0 : J1 4 6 2 0 := fun _ _ _ => by kernel_rfl
theorem p462_1 : J1 4 6 2 1 := fun _ _ _ => by kernel_rfl
theorem p462_2 : J1 4 6 2 2 := fun _ _ _ => by kernel_rfl
theorem p462_3 : J1 4 6 2 3 := fun _ _ _ => by kernel_rfl
theorem p462_4 : J1 4 6 2 4 := fun _ _ _ => by kernel_rfl
theorem p462_5 : J1 4 6 2 5 := fun _ _ _ => by kernel_rfl
theorem p462_6 : J1 4 6 2 6 := fun _ _ _ => by kernel_rfl
theorem p463_0 : J1 4 6 3 0 := fun _ _ _ => by kernel_rfl
theorem p463_1 : J1 4 6 3 1 := fun _ _ _ => by kernel_rfl
theorem p463_2 : J1 4 6 3 2 := fun _ _ _ => by kernel_rfl
theorem p463_3 : J1 4 6 3 3 := fun _ _ _ => by kernel_rfl
theorem p463_4 : J1 4 6 3 4 := fun _ _ _ => by kernel_rfl
theorem p464_0 : J1 4 6 4 0 := fun _ _ _ => by kernel_rfl
theorem p464_1 : J1 4 6 4 1 := fun _ _ _ => by kernel_rfl
theorem p464_2 : J1 4 6 4 2 := fun _ _ _ => by kernel_rfl
theorem p500_0 : J1 5 0 0 0 := fun _ _ _ => by kernel_rfl
theorem p500_1 : J1 5 0 0 1 := fun _ _ _ => by kernel_rfl
theorem p500_2 : J1 5 0 0 2 := fun _ _ _ => by kernel_rfl
theorem p500_3 : J1 5 0 0 3 := fun _ _ _ => by kernel_rfl
theorem p500_4 : J1 5 0 0 4 := fun _ _ _ => by kernel_rfl
theorem p500_5 : J1 5 0 0 5 := fun _ _ _ => by kernel_rfl
theorem p510_0 : J1 5 1 0 0 := fun _ _ _ => by kernel_rfl
theorem p510_1 : J1 5 1 0 1 := fun _ _ _ => by kernel_rfl
theorem p510_2 : J1 5 1 0 2 := fun _ _ _ => by kernel_rfl
theorem p510_3 : J1 5 1 0 3 := fun _ _ _ => by kernel_rfl
theorem p510_4 : J1 5 1 0 4 := fun _ _ _ => by kernel_rfl
theorem p510_5 : J1 5 1 0 5 := fun _ _ _ => by kernel_rfl
theorem p510_6 : J1 5 1 0 6 := fun _ _ _ => by kernel_rfl
theorem p511_0 : J1 5 1 1 0 := fun _ _ _ => by kernel_rfl
theorem p511_1 : J1 5 1 1 1 := fun _ _ _ => by kernel_rfl
theorem p511_2 : J1 5 1 1 2 := fun _ _ _ => by kernel_rfl
theorem p511_3 : J1 5 1 1 3 := fun _ _ _ => by kernel_rfl
theorem p511_4 : J1 5 1 1 4 := fun _ _ _ => by kernel_rfl
theorem p520_0 : J1 5 2 0 0 := fun _ _ _ => by kernel_rfl
theorem p520_1 : J1 5 2 0 1 := fun _ _ _ => by kernel_rfl
theorem p520_2 : J1 5 2 0 2 := fun _ _ _ => by kernel_rfl
theorem p520_3 : J1 5 2 0 3 := fun _ _ _ => by kernel_rfl
theorem p520_4 : J1 5 2 0 4 := fun _ _ _ => by kernel_rfl
theorem p520_5 : J1 5 2 0 5 := fun _ _ _ => by kernel_rfl
theorem p520_6 : J1 5 2 0 6 := fun _ _ _ => by kernel_rfl
theorem p520_7 : J1 5 2 0 7 := fun _ _ _ => by kernel_rfl
theorem p521_0 : J1 5 2 1 0 := fun _ _ _ => by kernel_rfl
theorem p521_1 : J1 5 2 1 1 := fun _ _ _ => by kernel_rfl
theorem p521_2 : J1 5 2 1 2 := fun _ _ _ => by kernel_rfl
theorem p521_3 : J1 5 2 1 3 := fun _ _ _ => by kernel_rfl
theorem p521_4 : J1 5 2 1 4 := fun _ _ _ => by kernel_rfl
theorem p521_5 : J1 5 2 1 5 := fun _ _ _ => by kernel_rfl
theorem p522_0 : J1 5 2 2 0 := fun _ _ _ => by kernel_rfl
theorem p522_1 : J1 5 2 2 1 := fun _ _ _ => by kernel_rfl
theorem p522_2 : J1 5 2 2 2 := fun _ _ _ => by kernel_rfl
theorem p522_3 : J1 5 2 2 3 := fun _ _ _ => by kernel_rfl
theorem p530_0 : J1 5 3 0 0 := fun _ _ _ => by kernel_rfl
theorem p530_1 : J1 5 3 0 1 := fun _ _ _ => by kernel_rfl
theorem p530_2 : J1 5 3 0 2 := fun _ _ _ => by kernel_rfl
theorem p530_3 : J1 5 3 0 3 := fun _ _ _ => by kernel_rfl
theorem p530_4 : J1 5 3 0 4 := fun _ _ _ => by kernel_rfl
theorem p530_5 : J1 5 3 0 5 := fun _ _ _ => by kernel_rfl
theorem p530_6 : J1 5 3 0 6 := fun _ _ _ => by kernel_rfl
theorem p530_7 : J1 5 3 0 7 := fun _ _ _ => by kernel_rfl
theorem p530_8 : J1 5 3 0 8 := fun _ _ _ => by kernel_rfl
theorem p531_0 : J1 5 3 1 0 := fun _ _ _ => by kernel_rfl
theorem p531_1 : J1 5 3 1 1 := fun _ _ _ => by kernel_rfl
theorem p531_2 : J1 5 3 1 2 := fun _ _ _ => by kernel_rfl
theorem p531_3 : J1 5 3 1 3 := fun _ _ _ => by kernel_rfl
theorem p531_4 : J1 5 3 1 4 := fun _ _ _ => by kernel_rfl
theorem p531_5 : J1 5 3 1 5 := fun _ _ _ => by kernel_rfl
theorem p531_6 : J1 5 3 1 6 := fun _ _ _ => by kernel_rfl
theorem p532_0 : J1 5 3 2 0 := fun _ _ _ => by kernel_rfl
theorem p532_1 : J1 5 3 2 1 := fun _ _ _ => by kernel_rfl
theorem p532_2 : J1 5 3 2 2 := fun _ _ _ => by kernel_rfl
theorem p532_3 : J1 5 3 2 3 := fun _ _ _ => by kernel_rfl
theorem p532_4 : J1 5 3 2 4 := fun _ _ _ => by kernel_rfl
theorem p533_0 : J1 5 3 3 0 := fun _ _ _ => by kernel_rfl
theorem p533_1 : J1 5 3 3 1 := fun _ _ _ => by kernel_rfl
theorem p533_2 : J1 5 3 3 2 := fun _ _ _ => by kernel_rfl
theorem p540_0 : J1 5 4 0 0 := fun _ _ _ => by kernel_rfl
theorem p540_1 : J1 5 4 0 1 := fun _ _ _ => by kernel_rfl
theorem p540_2 : J1 5 4 0 2 := fun _ _ _ => by kernel_rfl
theorem p540_3 : J1 5 4 0 3 := fun _ _ _ => by kernel_rfl
theorem p540_4 : J1 5 4 0 4 := fun _ _ _ => by kernel_rfl
theorem p540_5 : J1 5 4 0 5 := fun _ _ _ => by kernel_rfl
theorem p540_6 : J1 5 4 0 6 := fun _ _ _ => by kernel_rfl
theorem p540_7 : J1 5 4 0 7 := fun _ _ _ => by kernel_rfl
theorem p540_8 : J1 5 4 0 8 := fun _ _ _ => by kernel_rfl
theorem p540_9 : J1 5 4 0 9 := fun _ _ _ => by kernel_rfl
theorem p541_0 : J1 5 4 1 0 := fun _ _ _ => by kernel_rfl
theorem p541_1 : J1 5 4 1 1 := fun _ _ _ => by kernel_rfl
theorem p541_2 : J1 5 4 1 2 := fun _ _ _ => by kernel_rfl
theorem p541_3 : J1 5 4 1 3 := fun _ _ _ => by kernel_rfl
theorem p541_4 : J1 5 4 1 4 := fun _ _ _ => by kernel_rfl
theorem p541_5 : J1 5 4 1 5 := fun _ _ _ => by kernel_rfl
theorem p541_6 : J1 5 4 1 6 := fun _ _ _ => by kernel_rfl
theorem p541_7 : J1 5 4 1 7 := fun _ _ _ => by kernel_rfl
theorem p542_0 : J1 5 4 2 0 := fun _ _ _ => by kernel_rfl
theorem p542_1 : J1 5 4 2 1 := fun _ _ _ => by kernel_rfl
theorem p542_2 : J1 5 4 2 2 := fun _ _ _ => by kernel_rfl
theorem p542_3 : J1 5 4 2 3 := fun _ _ _ => by kernel_rfl
theorem p542_4 : J1 5 4 2 4 := fun _ _ _ => by kernel_rfl
theorem p542_5 : J1 5 4 2 5 := fun _ _ _ => by kernel_rfl
theorem p543_0 : J1 5 4 3 0 := fun _ _ _ => by kernel_rfl
theorem p543_1 : J1 5 4 3 1 := fun _ _ _ => by kernel_rfl
theorem p543_2 : J1 5 4 3 2 := fun _ _ _ => by kernel_rfl
theorem p543_3 : J1 5 4 3 3 := fun _ _ _ => by kernel_rfl
theorem p544_0 : J1 5 4 4 0 := fun _ _ _ => by kernel_rfl
theorem p544_1 : J1 5 4 4 1 := fun _ _ _ => by kernel_rfl
theorem p550_0 : J1 5 5 0 0 := fun _ _ _ => by kernel_rfl
theorem p550_1 : J1 5 5 0 1 := fun _ _ _ => by kernel_rfl
theorem p550_2 : J1 5 5 0 2 := fun _ _ _ => by kernel_rfl
theorem p550_3 : J1 5 5 0 3 := fun _ _ _ => by kernel_rfl
theorem p550_4 : J1 5 5 0 4 := fun _ _ _ => by kernel_rfl
theorem p550_5 : J1 5 5 0 5 := fun _ _ _ => by kernel_rfl
theorem p550_6 : J1 5 5 0 6 := fun _ _ _ => by kernel_rfl
theorem p550_7 : J1 5 5 0 7 := fun _ _ _ => by kernel_rfl
theorem p550_8 : J1 5 5 0 8 := fun _ _ _ => by kernel_rfl
theorem p550_9 : J1 5 5 0 9 := fun _ _ _ => by kernel_rfl
theorem p550_10 : J1 5 5 0 10 := fun _ _ _ => by kernel_rfl
theorem p551_0 : J1 5 5 1 0 := fun _ _ _ => by kernel_rfl
theorem p551_1 : J1 5 5 1 1 := fun _ _ _ => by kernel_rfl
theorem p551_2 : J1 5 5 1 2 := fun _ _ _ => by kernel_rfl
theorem p551_3 : J1 5 5 1 3 := fun _ _ _ => by kernel_rfl
theorem p551_4 : J1 5 5 1 4 := fun _ _ _ => by kernel_rfl
theorem p551_5 : J1 5 5 1 5 := fun _ _ _ => by kernel_rfl
theorem p551_6 : J1 5 5 1 6 := fun _ _ _ => by kernel_rfl
theorem p551_7 : J1 5 5 1 7 := fun _ _ _ => by kernel_rfl
theorem p551_8 : J1 5 5 1 8 := fun _ _ _ => by kernel_rfl
theorem p552_0 : J1 5 5 2 0 := fun _ _ _ => by kernel_rfl
theorem p552_1 : J1 5 5 2 1 := fun _ _ _ => by kernel_rfl
theorem p552_2 : J1 5 5 2 2 := fun _ _ _ => by kernel_rfl
theorem p552_3 : J1 5 5 2 3 := fun _ _ _ => by kernel_rfl
theorem p552_4 : J1 5 5 2 4 := fun _ _ _ => by kernel_rfl
theorem p552_5 : J1 5 5 2 5 := fun _ _ _ => by kernel_rfl
theorem p552_6 : J1 5 5 2 6 := fun _ _ _ => by kernel_rfl
theorem p553_0 : J1 5 5 3 0 := fun _ _ _ => by kernel_rfl
theorem p553_1 : J1 5 5 3 1 := fun _ _ _ => by kernel_rfl
theorem p553_2 : J1 5 5 3 2 := fun _ _ _ => by kernel_rfl
theorem p553_3 : J1 5 5 3 3 := fun _ _ _ => by kernel_rfl
theorem p553_4 : J1 5 5 3 4 := fun _ _ _ => by kernel_rfl
theorem p554_0 : J1 5 5 4 0 := fun _ _ _ => by kernel_rfl
theorem p554_1 : J1 5 5 4 1 := fun _ _ _ => by kernel_rfl
theorem p554_2 : J1 5 5 4 2 := fun _ _ _ => by kernel_rfl
theorem p555_0 : J1 5 5 5 0 := fun _ _ _ => by kernel_rfl
theorem p560_0 : J1 5 6 0 0 := fun _ _ _ => by kernel_rfl
theorem p560_1 : J1 5 6 0 1 := fun _ _ _ => by kernel_rfl
theorem p560_2 : J1 5 6 0 2 := fun _ _ _ => by kernel_rfl
theorem p560_3 : J1 5 6 0 3 := fun _ _ _ => by kernel_rfl
theorem p560_4 : J1 5 6 0 4 := fun _ _ _ => by kernel_rfl
theorem p560_5 : J1 5 6 0 5 := fun _ _ _ => by kernel_rfl
theorem p560_6 : J1 5 6 0 6 := fun _ _ _ => by kernel_rfl
theorem p560_7 : J1 5 6 0 7 := fun _ _ _ => by kernel_rfl
theorem p560_8 : J1 5 6 0 8 := fun _ _ _ => by kernel_rfl
theorem p560_9 : J1 5 6 0 9 := fun _ _ _ => by kernel_rfl
theorem p560_10 : J1 5 6 0 10 := fun _ _ _ => by kernel_rfl
theorem p560_11 : J1 5 6 0 11 := fun _ _ _ => by kernel_rfl
theorem p561_0 : J1 5 6 1 0 := fun _ _ _ => by kernel_rfl
theorem p561_1 : J1 5 6 1 1 := fun _ _ _ => by kernel_rfl
theorem p561_2 : J1 5 6 1 2 := fun _ _ _ => by kernel_rfl
theorem p561_3 : J1 5 6 1 3 := fun _ _ _ => by kernel_rfl
theorem p561_4 : J1 5 6 1 4 := fun _ _ _ => by kernel_rfl
theorem p561_5 : J1 5 6 1 5 := fun _ _ _ => by kernel_rfl
theorem p561_6 : J1 5 6 1 6 := fun _ _ _ => by kernel_rfl
theorem p561_7 : J1 5 6 1 7 := fun _ _ _ => by kernel_rfl
theorem p561_8 : J1 5 6 1 8 := fun _ _ _ => by kernel_rfl
theorem p561_9 : J1 5 6 1 9 := fun _ _ _ => by kernel_rfl
theorem p562_0 : J1 5 6 2 0 := fun _ _ _ => by kernel_rfl
theorem p562_1 : J1 5 6 2 1 := fun _ _ _ => by kernel_rfl
theorem p562_2 : J1 5 6 2 2 := fun _ _ _ => by kernel_rfl
theorem p562_3 : J1 5 6 2 3 := fun _ _ _ => by kernel_rfl
theorem p562_4 : J1 5 6 2 4 := fun _ _ _ => by kernel_rfl
theorem p562_5 : J1 5 6 2 5 := fun _ _ _ => by kernel_rfl
theorem p562_6 : J1 5 6 2 6 := fun _ _ _ => by kernel_rfl
theorem p562_7 : J1 5 6 2 7 := fun _ _ _ => by kernel_rfl
theorem p563_0 : J1 5 6 3 0 := fun _ _ _ => by kernel_rfl
theorem p563_1 : J1 5 6 3 1 := fun _ _ _ => by kernel_rfl
theorem p563_2 : J1 5 6 3 2 := fun _ _ _ => by kernel_rfl
theorem p563_3 : J1 5 6 3 3 := fun _ _ _ => by kernel_rfl
theorem p563_4 : J1 5 6 3 4 := fun _ _ _ => by kernel_rfl
theorem p563_5 : J1 5 6 3 5 := fun _ _ _ => by kernel_rfl
theorem p564_0 : J1 5 6 4 0 := fun _ _ _ => by kernel_rfl
theorem p564_1 : J1 5 6 4 1 := fun _ _ _ => by kernel_rfl
theorem p564_2 : J1 5 6 4 2 := fun _ _ _ => by kernel_rfl
theorem p564_3 : J1 5 6 4 3 := fun _ _ _ => by kernel_rfl
theorem p565_0 : J1 5 6 5 0 := fun _ _ _ => by kernel_rfl
theorem p565_1 : J1 5 6 5 1 := fun _ _ _ => by kernel_rfl
theorem p600_0 : J1 6 0 0 0 := fun _ _ _ => by kernel_rfl
theorem p600_1 : J1 6 0 0 1 := fun _ _ _ => by kernel_rfl
theorem p600_2 : J1 6 0 0 2 := fun _ _ _ => by kernel_rfl
theorem p600_3 : J1 6 0 0 3 := fun _ _ _ => by kernel_rfl
theorem p600_4 : J1 6 0 0 4 := fun _ _ _ => by kernel_rfl
theorem p600_5 : J1 6 0 0 5 := fun _ _ _ => by kernel_rfl
theorem p600_6 : J1 6 0 0 6 := fun _ _ _ => by kernel_rfl
theorem p610_0 : J1 6 1 0 0 := fun _ _ _ => by kernel_rfl
theorem p610_1 : J1 6 1 0 1 := fun _ _ _ => by kernel_rfl
theorem p610_2 : J1 6 1 0 2 := fun _ _ _ => by kernel_rfl
theorem p610_3 : J1 6 1 0 3 := fun _ _ _ => by kernel_rfl
theorem p610_4 : J1 6 1 0 4 := fun _ _ _ => by kernel_rfl
theorem p610_5 : J1 6 1 0 5 := fun _ _ _ => by kernel_rfl
theorem p610_6 : J1 6 1 0 6 := fun _ _ _ => by kernel_rfl
theorem p610_7 : J1 6 1 0 7 := fun _ _ _ => by kernel_rfl
theorem p611_0 : J1 6 1 1 0 := fun _ _ _ => by kernel_rfl
theorem p611_1 : J1 6 1 1 1 := fun _ _ _ => by kernel_rfl
theorem p611_2 : J1 6 1 1 2 := fun _ _ _ => by kernel_rfl
theorem p611_3 : J1 6 1 1 3 := fun _ _ _ => by kernel_rfl
theorem p611_4 : J1 6 1 1 4 := fun _ _ _ => by kernel_rfl
theorem p611_5 : J1 6 1 1 5 := fun _ _ _ => by kernel_rfl
theorem p620_0 : J1 6 2 0 0 := fun _ _ _ => by kernel_rfl
theorem p620_1 : J1 6 2 0 1 := fun _ _ _ => by kernel_rfl
theorem p620_2 : J1 6 2 0 2 := fun _ _ _ => by kernel_rfl
theorem p620_3 : J1 6 2 0 3 := fun _ _ _ => by kernel_rfl
theorem p620_4 : J1 6 2 0 4 := fun _ _ _ => by kernel_rfl
theorem p620_5 : J1 6 2 0 5 := fun _ _ _ => by kernel_rfl
theorem p620_6 : J1 6 2 0 6 := fun _ _ _ => by kernel_rfl
theorem p620_7 : J1 6 2 0 7 := fun _ _ _ => by kernel_rfl
theorem p620_8 : J1 6 2 0 8 := fun _ _ _ => by kernel_rfl
theorem p621_0 : J1 6 2 1 0 := fun _ _ _ => by kernel_rfl
theorem p621_1 : J1 6 2 1 1 := fun _ _ _ => by kernel_rfl
theorem p621_2 : J1 6 2 1 2 := fun _ _ _ => by kernel_rfl
theorem p621_3 : J1 6 2 1 3 := fun _ _ _ => by kernel_rfl
theorem p621_4 : J1 6 2 1 4 := fun _ _ _ => by kernel_rfl
theorem p621_5 : J1 6 2 1 5 := fun _ _ _ => by kernel_rfl
theorem p621_6 : J1 6 2 1 6 := fun _ _ _ => by kernel_rfl
theorem p622_0 : J1 6 2 2 0 := fun _ _ _ => by kernel_rfl
theorem p622_1 : J1 6 2 2 1 := fun _ _ _ => by kernel_rfl
theorem p622_2 : J1 6 2 2 2 := fun _ _ _ => by kernel_rfl
theorem p622_3 : J1 6 2 2 3 := fun _ _ _ => by kernel_rfl
theorem p622_4 : J1 6 2 2 4 := fun _ _ _ => by kernel_rfl
theorem p630_0 : J1 6 3 0 0 := fun _ _ _ => by kernel_rfl
theorem p630_1 : J1 6 3 0 1 := fun _ _ _ => by kernel_rfl
theorem p630_2 : J1 6 3 0 2 := fun _ _ _ => by kernel_rfl
theorem p630_3 : J1 6 3 0 3 := fun _ _ _ => by kernel_rfl
theorem p630_4 : J1 6 3 0 4 := fun _ _ _ => by kernel_rfl
theorem p630_5 : J1 6 3 0 5 := fun _ _ _ => by kernel_rfl
theorem p630_6 : J1 6 3 0 6 := fun _ _ _ => by kernel_rfl
theorem p630_7 : J1 6 3 0 7 := fun _ _ _ => by kernel_rfl
theorem p630_8 : J1 6 3 0 8 := fun _ _ _ => by kernel_rfl
theorem p630_9 : J1 6 3 0 9 := fun _ _ _ => by kernel_rfl
theorem p631_0 : J1 6 3 1 0 := fun _ _ _ => by kernel_rfl
theorem p631_1 : J1 6 3 1 1 := fun _ _ _ => by kernel_rfl
theorem p631_2 : J1 6 3 1 2 := fun _ _ _ => by kernel_rfl
theorem p631_3 : J1 6 3 1 3 := fun _ _ _ => by kernel_rfl
theorem p631_4 : J1 6 3 1 4 := fun _ _ _ => by kernel_rfl
theorem p631_5 : J1 6 3 1 5 := fun _ _ _ => by kernel_rfl
theorem p631_6 : J1 6 3 1 6 := fun _ _ _ => by kernel_rfl
theorem p631_7 : J1 6 3 1 7 := fun _ _ _ => by kernel_rfl
theorem p632_0 : J1 6 3 2 0 := fun _ _ _ => by kernel_rfl
theorem p632_1 : J1 6 3 2 1 := fun _ _ _ => by kernel_rfl
theorem p632_2 : J1 6 3 2 2 := fun _ _ _ => by kernel_rfl
theorem p632_3 : J1 6 3 2 3 := fun _ _ _ => by kernel_rfl
theorem p632_4 : J1 6 3 2 4 := fun _ _ _ => by kernel_rfl
theorem p632_5 : J1 6 3 2 5 := fun _ _ _ => by kernel_rfl
theorem p633_0 : J1 6 3 3 0 := fun _ _ _ => by kernel_rfl
theorem p633_1 : J1 6 3 3 1 := fun _ _ _ => by kernel_rfl
theorem p633_2 : J1 6 3 3 2 := fun _ _ _ => by kernel_rfl
theorem p633_3 : J1 6 3 3 3 := fun _ _ _ => by kernel_rfl
theorem p640_0 : J1 6 4 0 0 := fun _ _ _ => by kernel_rfl
theorem p640_1 : J1 6 4 0 1 := fun _ _ _ => by kernel_rfl
theorem p640_2 : J1 6 4 0 2 := fun _ _ _ => by kernel_rfl
theorem p640_3 : J1 6 4 0 3 := fun _ _ _ => by kernel_rfl
theorem p640_4 : J1 6 4 0 4 := fun _ _ _ => by kernel_rfl
theorem p640_5 : J1 6 4 0 5 := fun _ _ _ => by kernel_rfl
theorem p640_6 : J1 6 4 0 6 := fun _ _ _ => by kernel_rfl
theorem p640_7 : J1 6 4 0 7 := fun _ _ _ => by kernel_rfl
theorem p640_8 : J1 6 4 0 8 := fun _ _ _ => by kernel_rfl
theorem p640_9 : J1 6 4 0 9 := fun _ _ _ => by kernel_rfl
theorem p640_10 : J1 6 4 0 10 := fun _ _ _ => by kernel_rfl
theorem p641_0 : J1 6 4 1 0 := fun _ _ _ => by kernel_rfl
theorem p641_1 : J1 6 4 1 1 := fun _ _ _ => by kernel_rfl
theorem p641_2 : J1 6 4 1 2 := fun _ _ _ => by kernel_rfl
theorem p641_3 : J1 6 4 1 3 := fun _ _ _ => by kernel_rfl
theorem p641_4 : J1 6 4 1 4 := fun _ _ _ => by kernel_rfl
theorem p641_5 : J1 6 4 1 5 := fun _ _ _ => by kernel_rfl
theorem p641_6 : J1 6 4 1 6 := fun _ _ _ => by kernel_rfl
theorem p641_7 : J1 6 4 1 7 := fun _ _ _ => by kernel_rfl
theorem p641_8 : J1 6 4 1 8 := fun _ _ _ => by kernel_rfl
theorem p642_0 : J1 6 4 2 0 := fun _ _ _ => by kernel_rfl
theorem p642_1 : J1 6 4 2 1 := fun _ _ _ => by kernel_rfl
theorem p642_2 : J1 6 4 2 2 := fun _ _ _ => by kernel_rfl
theorem p642_3 : J1 6 4 2 3 := fun _ _ _ => by kernel_rfl
theorem p642_4 : J1 6 4 2 4 := fun _ _ _ => by kernel_rfl
theorem p642_5 : J1 6 4 2 5 := fun _ _ _ => by kernel_rfl
theorem p642_6 : J1 6 4 2 6 := fun _ _ _ => by kernel_rfl
theorem p643_0 : J1 6 4 3 0 := fun _ _ _ => by kernel_rfl
theorem p643_1 : J1 6 4 3 1 := fun _ _ _ => by kernel_rfl
theorem p643_2 : J1 6 4 3 2 := fun _ _ _ => by kernel_rfl
theorem p643_3 : J1 6 4 3 3 := fun _ _ _ => by kernel_rfl
theorem p643_4 : J1 6 4 3 4 := fun _ _ _ => by kernel_rfl
theorem p644_0 : J1 6 4 4 0 := fun _ _ _ => by kernel_rfl
theorem p644_1 : J1 6 4 4 1 := fun _ _ _ => by kernel_rfl
theorem p644_2 : J1 6 4 4 2 := fun _ _ _ => by kernel_rfl
theorem p650_0 : J1 6 5 0 0 := fun _ _ _ => by kernel_rfl
theorem p650_1 : J1 6 5 0 1 := fun _ _ _ => by kernel_rfl
theorem p650_2 : J1 6 5 0 2 := fun _ _ _ => by kernel_rfl
theorem p650_3 : J1 6 5 0 3 := fun _ _ _ => by kernel_rfl
theorem p650_4 : J1 6 5 0 4 := fun _ _ _ => by kernel_rfl
theorem p650_5 : J1 6 5 0 5 := fun _ _ _ => by kernel_rfl
theorem p650_6 : J1 6 5 0 6 := fun _ _ _ => by kernel_rfl
theorem p650_7 : J1 6 5 0 7 := fun _ _ _ => by kernel_rfl
theorem p650_8 : J1 6 5 0 8 := fun _ _ _ => by kernel_rfl
theorem p650_9 : J1 6 5 0 9 := fun _ _ _ => by kernel_rfl
theorem p650_10 : J1 6 5 0 10 := fun _ _ _ => by kernel_rfl
theorem p650_11 : J1 6 5 0 11 := fun _ _ _ => by kernel_rfl
theorem p651_0 : J1 6 5 1 0 := fun _ _ _ => by kernel_rfl
theorem p651_1 : J1 6 5 1 1 := fun _ _ _ => by kernel_rfl
theorem p651_2 : J1 6 5 1 2 := fun _ _ _ => by kernel_rfl
theorem p651_3 : J1 6 5 1 3 := fun _ _ _ => by kernel_rfl
theorem p651_4 : J1 6 5 1 4 := fun _ _ _ => by kernel_rfl
theorem p651_5 : J1 6 5 1 5 := fun _ _ _ => by kernel_rfl
theorem p651_6 : J1 6 5 1 6 := fun _ _ _ => by kernel_rfl
theorem p651_7 : J1 6 5 1 7 := fun _ _ _ => by kernel_rfl
theorem p651_8 : J1 6 5 1 8 := fun _ _ _ => by kernel_rfl
theorem p651_9 : J1 6 5 1 9 := fun _ _ _ => by kernel_rfl
theorem p652_0 : J1 6 5 2 0 := fun _ _ _ => by kernel_rfl
theorem p652_1 : J1 6 5 2 1 := fun _ _ _ => by kernel_rfl
theorem p652_2 : J1 6 5 2 2 := fun _ _ _ => by kernel_rfl
theorem p652_3 : J1 6 5 2 3 := fun _ _ _ => by kernel_rfl
theorem p652_4 : J1 6 5 2 4 := fun _ _ _ => by kernel_rfl
theorem p652_5 : J1 6 5 2 5 := fun _ _ _ => by kernel_rfl
theorem p652_6 : J1 6 5 2 6 := fun _ _ _ => by kernel_rfl
theorem p652_7 : J1 6 5 2 7 := fun _ _ _ => by kernel_rfl
theorem p653_0 : J1 6 5 3 0 := fun _ _ _ => by kernel_rfl
theorem p653_1 : J1 6 5 3 1 := fun _ _ _ => by kernel_rfl
theorem p653_2 : J1 6 5 3 2 := fun _ _ _ => by kernel_rfl
theorem p653_3 : J1 6 5 3 3 := fun _ _ _ => by kernel_rfl
theorem p653_4 : J1 6 5 3 4 := fun _ _ _ => by kernel_rfl
theorem p653_5 : J1 6 5 3 5 := fun _ _ _ => by kernel_rfl
theorem p654_0 : J1 6 5 4 0 := fun _ _ _ => by kernel_rfl
theorem p654_1 : J1 6 5 4 1 := fun _ _ _ => by kernel_rfl
theorem p654_2 : J1 6 5 4 2 := fun _ _ _ => by kernel_rfl
theorem p654_3 : J1 6 5 4 3 := fun _ _ _ => by kernel_rfl
theorem p655_0 : J1 6 5 5 0 := fun _ _ _ => by kernel_rfl
theorem p655_1 : J1 6 5 5 1 := fun _ _ _ => by kernel_rfl
theorem p660_0 : J1 6 6 0 0 := fun _ _ _ => by kernel_rfl
theorem p660_1 : J1 6 6 0 1 := fun _ _ _ => by kernel_rfl
theorem p660_2 : J1 6 6 0 2 := fun _ _ _ => by kernel_rfl
theorem p660_3 : J1 6 6 0 3 := fun _ _ _ => by kernel_rfl
theorem p660_4 : J1 6 6 0 4 := fun _ _ _ => by kernel_rfl
theorem p660_5 : J1 6 6 0 5 := fun _ _ _ => by kernel_rfl
theorem p660_6 : J1 6 6 0 6 := fun _ _ _ => by kernel_rfl
theorem p660_7 : J1 6 6 0 7 := fun _ _ _ => by kernel_rfl
theorem p660_8 : J1 6 6 0 8 := fun _ _ _ => by kernel_rfl
theorem p660_9 : J1 6 6 0 9 := fun _ _ _ => by kernel_rfl
theorem p660_10 : J1 6 6 0 10 := fun _ _ _ => by kernel_rfl
theorem p660_11 : J1 6 6 0 11 := fun _ _ _ => by kernel_rfl
theorem p660_12 : J1 6 6 0 12 := fun _ _ _ => by kernel_rfl
theorem p661_0 : J1 6 6 1 0 := fun _ _ _ => by kernel_rfl
theorem p661_1 : J1 6 6 1 1 := fun _ _ _ => by kernel_rfl
theorem p661_2 : J1 6 6 1 2 := fun _ _ _ => by kernel_rfl
theorem p661_3 : J1 6 6 1 3 := fun _ _ _ => by kernel_rfl
theorem p661_4 : J1 6 6 1 4 := fun _ _ _ => by kernel_rfl
theorem p661_5 : J1 6 6 1 5 := fun _ _ _ => by kernel_rfl
theorem p661_6 : J1 6 6 1 6 := fun _ _ _ => by kernel_rfl
theorem p661_7 : J1 6 6 1 7 := fun _ _ _ => by kernel_rfl
theorem p661_8 : J1 6 6 1 8 := fun _ _ _ => by kernel_rfl
theorem p661_9 : J1 6 6 1 9 := fun _ _ _ => by kernel_rfl
theorem p661_10 : J1 6 6 1 10 := fun _ _ _ => by kernel_rfl
theorem p662_0 : J1 6 6 2 0 := fun _ _ _ => by kernel_rfl
theorem p662_1 : J1 6 6 2 1 := fun _ _ _ => by kernel_rfl
theorem p662_2 : J1 6 6 2 2 := fun _ _ _ => by kernel_rfl
theorem p662_3 : J1 6 6 2 3 := fun _ _ _ => by kernel_rfl
theorem p662_4 : J1 6 6 2 4 := fun _ _ _ => by kernel_rfl
theorem p662_5 : J1 6 6 2 5 := fun _ _ _ => by kernel_rfl
theorem p662_6 : J1 6 6 2 6 := fun _ _ _ => by kernel_rfl
theorem p662_7 : J1 6 6 2 7 := fun _ _ _ => by kernel_rfl
theorem p662_8 : J1 6 6 2 8 := fun _ _ _ => by kernel_rfl
theorem p663_0 : J1 6 6 3 0 := fun _ _ _ => by kernel_rfl
theorem p663_1 : J1 6 6 3 1 := fun _ _ _ => by kernel_rfl
theorem p663_2 : J1 6 6 3 2 := fun _ _ _ => by kernel_rfl
theorem p663_3 : J1 6 6 3 3 := fun _ _ _ => by kernel_rfl
theorem p663_4 : J1 6 6 3 4 := fun _ _ _ => by kernel_rfl
theorem p663_5 : J1 6 6 3 5 := fun _ _ _ => by kernel_rfl
theorem p663_6 : J1 6 6 3 6 := fun _ _ _ => by kernel_rfl
theorem p664_0 : J1 6 6 4 0 := fun _ _ _ => by kernel_rfl
theorem p664_1 : J1 6 6 4 1 := fun _ _ _ => by kernel_rfl
theorem p664_2 : J1 6 6 4 2 := fun _ _ _ => by kernel_rfl
theorem p664_3 : J1 6 6 4 3 := fun _ _ _ => by kernel_rfl
theorem p664_4 : J1 6 6 4 4 := fun _ _ _ => by kernel_rfl
theorem p665_0 : J1 6 6 5 0 := fun _ _ _ => by kernel_rfl
theorem p665_1 : J1 6 6 5 1 := fun _ _ _ => by kernel_rfl
theorem p665_2 : J1 6 6 5 2 := fun _ _ _ => by kernel_rfl
theorem p666_0 : J1 6 6 6 0 := fun _ _ _ => by kernel_rfl
end Go.Proofs.Ytbhfjdlhhjeknaa.Ab

/- FnSixes: the walk. Only lemmas. Printed by gen_sixes.py. FnSixes: the checks. Only lemmas. Printed by gen_sixes.py. FnSixes: the checks. Only lemmas. Printed by gen_sixes.py. FnSixes: the checks. Only lemmas. Printed by gen_sixes.py. FnSixes: the checks. Only lemmas. Printed by gen_sixes.py. FnSixes. Only lemmas. Printed by gen_sixes.py. -/
import Derived.Test.YtbhfjdlhhjeknaaSix
import Derived.Test.YtbhfjdlhhjeknaaCode
namespace Go.Proofs.Ytbhfjdlhhjeknaa.Ab
set_option linter.unusedVariables false
set_option linter.unusedSimpArgs false
open Go
noncomputable section
def an_sixD : Ann := ⟨fun r => if r = 12 then some ([5, 6, 7, 8, 9, 10, 11], [4, 10]) else none, fun _ _ => .quiet⟩
def tab_sixD : Fns := tabT [(57, gLong), (58, gAt), (54, gSix), (53, gSix), (61, gGap)]
theorem tabok_sixD : ∀ f, FnT Try.prog f (tab_sixD f) := (tabT_cons (k := 57) ok_Long (tabT_cons (k := 58) ok_At (tabT_cons (k := 54) ok_sxI (tabT_cons (k := 53) ok_sxS (tabT_cons (k := 61) ok_Gap tabT_nil)))))
def st_sixD12 (t5 : Int) (t6 : Int) (t7 : Int) (t8 : Int) (t9 : Int) (t10 : Nat) (t11 : Int) : St := ⟨[.any, .any, .any, .any, .any, .int .i64 t5, .int .i64 t6, .int .i64 t7, .int .i64 t8, .int .i64 t9, .fl .f64 t10, .int .i64 t11, .any, .any, .any, .any, .any, .any, .any, .any, .any, .any, .any, .any, .any, .any, .any, .any, .any, .any, .any, .any, .any, .any, .any, .any, .any, .any, .any, .any, .any, .any, .any, .any, .any, .any, .any, .any, .any, .any, .any, .any, .any, .any, .any, .any, .any, .any, .any, .any, .any, .any, .any, .any, .any, .any, .any, .any, .any, .any, .any, .any, .any, .any, .any, .any, .any, .any, .any, .any, .any, .any, .any, .any, .any, .any, .any, .any, .any, .any, .any, .any, .any, .any, .any, .any, .any, .any, .any, .any, .any, .any, .any, .any, .any, .any, .any, .any, .any, .any, .any, .any, .any, .any, .any, .any, .any, .any, .any, .any, .any, .any, .any, .any, .any, .any, .any, .any, .any, .any, .any, .any, .any, .any, .any, .any, .any, .any, .any, .any, .any, .any, .any, .any, .any, .any, .any, .any, .any, .any, .any], []⟩
abbrev kp_sixD12 : Option (List Nat × List Nat) := some ([5, 6, 7, 8, 9, 10, 11], [4, 10])
noncomputable def lp_sixD12 {R : Type} (N M : Nat) (s : St) (K : X → St → Option R) : Option R := loopH 0 kp_sixD12 (fun st K => exec ty tab_sixD an_sixD N 0 (atOf [true, true, true, true, true, true, true, true, true, false, true, false, false] Try.f13) st K) M s K
noncomputable def bk_sixD12 {R : Type} (N M : Nat) (K : X → St → Option R) : X → St → Option R := fun x st => match x with | .norm => tidyK 0 (kp_sixD12.map (·.1)) st fun st => lp_sixD12 N M st K | x => tidyK 0 (kp_sixD12.map (·.2)) st fun st => K x st
noncomputable def kt_sixD12 {R : Type} (N : Nat) (K : X → St → Option R) : X → St → Option R := kBlkR 0 (kSeqR tab_sixD an_sixD N 0 (atOf [true, true, true, true, true, true, true, true, true, true] Try.f13) (K))
def en_sixD12_0 (t10 : Nat) : St := ⟨[.any, .any, .any, .any, .bool false, .any, .any, .any, .any, .any, .fl .f64 t10, .any, .any, .any, .any, .any, .any, .any, .any, .any, .any, .any, .any, .any, .any, .any, .any, .any, .any, .any, .any, .any, .any, .any, .any, .any, .any, .any, .any, .any, .any, .any, .any, .any, .any, .any, .any, .any, .any, .any, .any, .any, .any, .any, .any, .any, .any, .any, .any, .any, .any, .any, .any, .any, .any, .any, .any, .any, .any, .any, .any, .any, .any, .any, .any, .any, .any, .any, .any, .any, .any, .any, .any, .any, .any, .any, .any, .any, .any, .any, .any, .any, .any, .any, .any, .any, .any, .any, .any, .any, .any, .any, .any, .any, .any, .any, .any, .any, .any, .any, .any, .any, .any, .any, .any, .any, .any, .any, .any, .any, .any, .any, .any, .any, .any, .any, .any, .any, .any, .any, .any, .any, .any, .any, .any, .any, .any, .any, .any, .any, .any, .any, .any, .any, .any, .any, .any, .any, .any, .any, .any], []⟩
def en_sixD12_1 (t10 : Nat) : St := ⟨[.any, .any, .any, .any, .any, .any, .any, .any, .any, .any, .fl .f64 t10, .any, .any, .any, .any, .any, .any, .any, .any, .any, .any, .any, .any, .any, .any, .any, .any, .any, .any, .any, .any, .any, .any, .any, .any, .any, .any, .any, .any, .any, .any, .any, .any, .any, .any, .any, .any, .any, .any, .any, .any, .any, .any, .any, .any, .any, .any, .any, .any, .any, .any, .any, .any, .any, .any, .any, .any, .any, .any, .any, .any, .any, .any, .any, .any, .any, .any, .any, .any, .any, .any, .any, .any, .any, .any, .any, .any, .any, .any, .any, .any, .any, .any, .any, .any, .any, .any, .any, .any, .any, .any, .any, .any, .any, .any, .any, .any, .any, .any, .any, .any, .any, .any, .any, .any, .any, .any, .any, .any, .any, .any, .any, .any, .any, .any, .any, .any, .any, .any, .any, .any, .any, .any, .any, .any, .any, .any, .any, .any, .any, .any, .any, .any, .any, .any, .any, .any, .any, .any, .any, .any], []⟩
theorem run_sixD (N : Nat)  : run ty tab_sixD an_sixD N Try.f13 [.nil, .nil] []
    = (match nmO (α := Bool) (longB 0 0) with
  | some w1 => (match w1 with
    | true => some (.bool true, [])
    | false => (match atOk 0 [] 0 with
      | true => (match nmO (α := Int) (atF [] 0 4) with
        | some w2 => (match atOk 0 [] 1 with
          | true => (match nmO (α := Int) (atF [] 1 4) with
            | some w3 => (match atOk 0 [] 2 with
              | true => (match nmO (α := Int) (atF [] 2 4) with
                | some w4 => (match atOk 0 [] 3 with
                  | true => (match nmO (α := Int) (atF [] 3 (IntKind.i64.wrap ((if w3 < w2 then w3 else w2) + 1))) with
                    | some w5 => (match atOk 0 [] 4 with
                      | true => (match nmO (α := Int) (atF [] 4 (IntKind.i64.wrap ((if w4 < (IntKind.i64.wrap ((IntKind.i64.wrap (w2 + w3)) - (IntKind.i64.wrap (2 * w5)))) then w4 else IntKind.i64.wrap ((IntKind.i64.wrap (w2 + w3)) - (IntKind.i64.wrap (2 * w5)))) + 1))) with
                        | some w6 => (match decide ((IntKind.i64.wrap ((IntKind.i64.wrap ((IntKind.i64.wrap ((IntKind.i64.wrap (w2 + w3)) - (IntKind.i64.wrap (2 * w5)))) + w4)) - (IntKind.i64.wrap (2 * w6))) : Int) > 6) with
                          | true => some (.bool true, [])
                          | false => lp_sixD12 N N (st_sixD12 w2 w3 w4 (IntKind.i64.wrap ((IntKind.i64.wrap (w2 + w3)) - (IntKind.i64.wrap (2 * w5)))) (IntKind.i64.wrap ((IntKind.i64.wrap ((IntKind.i64.wrap ((IntKind.i64.wrap (w2 + w3)) - (IntKind.i64.wrap (2 * w5)))) + w4)) - (IntKind.i64.wrap (2 * w6)))) 0 0) (kt_sixD12 N (kEnd Try.f13 0)))
                        | none => none)
                      | false => none)
                    | none => none)
                  | false => none)
                | none => none)
              | false => none)
            | none => none)
          | false => none)
        | none => none)
      | false => none))
  | none => none) := by
  kernel_rfl
theorem step_sixD12 {R : Type} (N M : Nat) (K : X → St → Option R) (t5 : Int) (t6 : Int) (t7 : Int) (t8 : Int) (t9 : Int) (t10 : Nat) (t11 : Int) : lp_sixD12 N (M + 1) (st_sixD12 t5 t6 t7 t8 t9 t10 t11) K
    = (match decide ((t11 : Int) ≤ 6) with
  | true => (match sixS t5 t6 t8 t7 t9 t11 with
    | true => (match nmO (α := Int) ((xV t5 t6 t8 t7 t9 t11).1) with
      | some w1 => (match nmO (α := Int) ((xV t5 t6 t8 t7 t9 t11).2.1) with
        | some w2 => (match nmO (α := Int) ((xV t5 t6 t8 t7 t9 t11).2.2) with
          | some w3 => (match sixS t5 t6 t8 t7 t9 t11 with
            | true => (match nmO (α := Int) ((xV t5 t6 t8 t7 t9 t11).1) with
              | some w4 => (match nmO (α := Int) ((xV t5 t6 t8 t7 t9 t11).2.1) with
                | some w5 => (match nmO (α := Int) ((xV t5 t6 t8 t7 t9 t11).2.2) with
                  | some w6 => (match sixS t6 t5 t8 t9 t7 t11 with
                    | true => (match nmO (α := Int) ((xV t6 t5 t8 t9 t7 t11).1) with
                      | some w7 => (match nmO (α := Int) ((xV t6 t5 t8 t9 t7 t11).2.1) with
                        | some w8 => (match nmO (α := Int) ((xV t6 t5 t8 t9 t7 t11).2.2) with
                          | some w9 => (match w1 != w4 with
                            | true => K .ret (en_sixD12_0 t10)
                            | false => (match w2 != w5 with
                              | true => K .ret (en_sixD12_0 t10)
                              | false => (match w3 != w6 with
                                | true => K .ret (en_sixD12_0 t10)
                                | false => (match w7 != w1 with
                                  | true => K .ret (en_sixD12_0 t10)
                                  | false => (match w8 != w2 with
                                    | true => K .ret (en_sixD12_0 t10)
                                    | false => (match w9 != w3 with
                                      | true => K .ret (en_sixD12_0 t10)
                                      | false => lp_sixD12 N M (st_sixD12 t5 t6 t7 t8 t9 (fop .add .f64 t10 (fop .quo .f64 (fop .mul .f64 (floatOfInt .f64 (IntKind.i64.wrap ((IntKind.i64.wrap (t8 + 1)) * (IntKind.i64.wrap (t11 + 1))))) (floatOfInt .f64 w2)) (floatOfInt .f64 w3))) (IntKind.i64.wrap (t11 + 1))) K))))))
                          | none => none)
                        | none => none)
                      | none => none)
                    | false => (match w1 != w4 with
                      | true => K .ret (en_sixD12_0 t10)
                      | false => (match w2 != w5 with
                        | true => K .ret (en_sixD12_0 t10)
                        | false => (match w3 != w6 with
                          | true => K .ret (en_sixD12_0 t10)
                          | false => K .ret (en_sixD12_0 t10)))))
                  | none => none)
                | none => none)
              | none => none)
            | false => K .ret (en_sixD12_0 t10))
          | none => none)
        | none => none)
      | none => none)
    | false => (match sixS t5 t6 t8 t7 t9 t11 with
      | true => (match nmO (α := Int) ((xV t5 t6 t8 t7 t9 t11).1) with
        | some w10 => (match nmO (α := Int) ((xV t5 t6 t8 t7 t9 t11).2.1) with
          | some w11 => (match nmO (α := Int) ((xV t5 t6 t8 t7 t9 t11).2.2) with
            | some w12 => K .ret (en_sixD12_0 t10)
            | none => none)
          | none => none)
        | none => none)
      | false => lp_sixD12 N M (st_sixD12 t5 t6 t7 t8 t9 t10 (IntKind.i64.wrap (t11 + 1))) K))
  | false => K (.exit 0) (en_sixD12_1 t10)) := by
  kernel_rfl
theorem end_sixD12_0 (N : Nat) (t10 : Nat) : kt_sixD12 N (kEnd Try.f13 0) .ret (en_sixD12_0 t10)
    = some (.bool false, []) := by
  kernel_rfl
theorem end_sixD12_1 (N : Nat) (t10 : Nat) : kt_sixD12 N (kEnd Try.f13 0) (.exit 0) (en_sixD12_1 t10)
    = (match nmO (α := Nat) (gapD t10 4607182418800017408) with
  | some w1 => some (.bool (ltD w1 4562254508917369340), [])
  | none => none) := by
  kernel_rfl

noncomputable def ce_sixD12_0 (N : Nat) (t10 : Nat) : Option (V × H) := some (.bool false, [])
noncomputable def ce_sixD12_1 (N : Nat) (t10 : Nat) : Option (V × H) := (match nmO (α := Nat) (gapD t10 4607182418800017408) with
  | some w1 => some (.bool (ltD w1 4562254508917369340), [])
  | none => none)
noncomputable def mr_sixD12 (N : Nat) (k0 : Nat → Option (V × H)) (k1 : Nat → Option (V × H)) (M : Nat) : Int → Int → Int → Int → Int → Nat → Int → Option (V × H) := Nat.rec (motive := fun _ => Int → Int → Int → Int → Int → Nat → Int → Option (V × H)) (fun (_ : Int) (_ : Int) (_ : Int) (_ : Int) (_ : Int) (_ : Nat) (_ : Int) => none) (fun _ rq => fun (t5 : Int) (t6 : Int) (t7 : Int) (t8 : Int) (t9 : Int) (t10 : Nat) (t11 : Int) => (match decide ((t11 : Int) ≤ 6) with
  | true => (match sixS t5 t6 t8 t7 t9 t11 with
    | true => (match nmO (α := Int) ((xV t5 t6 t8 t7 t9 t11).1) with
      | some w1 => (match nmO (α := Int) ((xV t5 t6 t8 t7 t9 t11).2.1) with
        | some w2 => (match nmO (α := Int) ((xV t5 t6 t8 t7 t9 t11).2.2) with
          | some w3 => (match sixS t5 t6 t8 t7 t9 t11 with
            | true => (match nmO (α := Int) ((xV t5 t6 t8 t7 t9 t11).1) with
              | some w4 => (match nmO (α := Int) ((xV t5 t6 t8 t7 t9 t11).2.1) with
                | some w5 => (match nmO (α := Int) ((xV t5 t6 t8 t7 t9 t11).2.2) with
                  | some w6 => (match sixS t6 t5 t8 t9 t7 t11 with
                    | true => (match nmO (α := Int) ((xV t6 t5 t8 t9 t7 t11).1) with
                      | some w7 => (match nmO (α := Int) ((xV t6 t5 t8 t9 t7 t11).2.1) with
                        | some w8 => (match nmO (α := Int) ((xV t6 t5 t8 t9 t7 t11).2.2) with
                          | some w9 => (match w1 != w4 with
                            | true => (k0 t10)
                            | false => (match w2 != w5 with
                              | true => (k0 t10)
                              | false => (match w3 != w6 with
                                | true => (k0 t10)
                                | false => (match w7 != w1 with
                                  | true => (k0 t10)
                                  | false => (match w8 != w2 with
                                    | true => (k0 t10)
                                    | false => (match w9 != w3 with
                                      | true => (k0 t10)
                                      | false => (rq t5 t6 t7 t8 t9 (fop .add .f64 t10 (fop .quo .f64 (fop .mul .f64 (floatOfInt .f64 (IntKind.i64.wrap ((IntKind.i64.wrap (t8 + 1)) * (IntKind.i64.wrap (t11 + 1))))) (floatOfInt .f64 w2)) (floatOfInt .f64 w3))) (IntKind.i64.wrap (t11 + 1)))))))))
                          | none => none)
                        | none => none)
                      | none => none)
                    | false => (match w1 != w4 with
                      | true => (k0 t10)
                      | false => (match w2 != w5 with
                        | true => (k0 t10)
                        | false => (match w3 != w6 with
                          | true => (k0 t10)
                          | false => (k0 t10)))))
                  | none => none)
                | none => none)
              | none => none)
            | false => (k0 t10))
          | none => none)
        | none => none)
      | none => none)
    | false => (match sixS t5 t6 t8 t7 t9 t11 with
      | true => (match nmO (α := Int) ((xV t5 t6 t8 t7 t9 t11).1) with
        | some w10 => (match nmO (α := Int) ((xV t5 t6 t8 t7 t9 t11).2.1) with
          | some w11 => (match nmO (α := Int) ((xV t5 t6 t8 t7 t9 t11).2.2) with
            | some w12 => (k0 t10)
            | none => none)
          | none => none)
        | none => none)
      | false => (rq t5 t6 t7 t8 t9 t10 (IntKind.i64.wrap (t11 + 1)))))
  | false => (k1 t10))) M
theorem mrs_sixD12 (N : Nat) (k0 : Nat → Option (V × H)) (k1 : Nat → Option (V × H)) (M : Nat) (t5 : Int) (t6 : Int) (t7 : Int) (t8 : Int) (t9 : Int) (t10 : Nat) (t11 : Int) : mr_sixD12 N k0 k1 (M + 1) t5 t6 t7 t8 t9 t10 t11 = (match decide ((t11 : Int) ≤ 6) with
  | true => (match sixS t5 t6 t8 t7 t9 t11 with
    | true => (match nmO (α := Int) ((xV t5 t6 t8 t7 t9 t11).1) with
      | some w1 => (match nmO (α := Int) ((xV t5 t6 t8 t7 t9 t11).2.1) with
        | some w2 => (match nmO (α := Int) ((xV t5 t6 t8 t7 t9 t11).2.2) with
          | some w3 => (match sixS t5 t6 t8 t7 t9 t11 with
            | true => (match nmO (α := Int) ((xV t5 t6 t8 t7 t9 t11).1) with
              | some w4 => (match nmO (α := Int) ((xV t5 t6 t8 t7 t9 t11).2.1) with
                | some w5 => (match nmO (α := Int) ((xV t5 t6 t8 t7 t9 t11).2.2) with
                  | some w6 => (match sixS t6 t5 t8 t9 t7 t11 with
                    | true => (match nmO (α := Int) ((xV t6 t5 t8 t9 t7 t11).1) with
                      | some w7 => (match nmO (α := Int) ((xV t6 t5 t8 t9 t7 t11).2.1) with
                        | some w8 => (match nmO (α := Int) ((xV t6 t5 t8 t9 t7 t11).2.2) with
                          | some w9 => (match w1 != w4 with
                            | true => (k0 t10)
                            | false => (match w2 != w5 with
                              | true => (k0 t10)
                              | false => (match w3 != w6 with
                                | true => (k0 t10)
                                | false => (match w7 != w1 with
                                  | true => (k0 t10)
                                  | false => (match w8 != w2 with
                                    | true => (k0 t10)
                                    | false => (match w9 != w3 with
                                      | true => (k0 t10)
                                      | false => (mr_sixD12 N k0 k1 M t5 t6 t7 t8 t9 (fop .add .f64 t10 (fop .quo .f64 (fop .mul .f64 (floatOfInt .f64 (IntKind.i64.wrap ((IntKind.i64.wrap (t8 + 1)) * (IntKind.i64.wrap (t11 + 1))))) (floatOfInt .f64 w2)) (floatOfInt .f64 w3))) (IntKind.i64.wrap (t11 + 1)))))))))
                          | none => none)
                        | none => none)
                      | none => none)
                    | false => (match w1 != w4 with
                      | true => (k0 t10)
                      | false => (match w2 != w5 with
                        | true => (k0 t10)
                        | false => (match w3 != w6 with
                          | true => (k0 t10)
                          | false => (k0 t10)))))
                  | none => none)
                | none => none)
              | none => none)
            | false => (k0 t10))
          | none => none)
        | none => none)
      | none => none)
    | false => (match sixS t5 t6 t8 t7 t9 t11 with
      | true => (match nmO (α := Int) ((xV t5 t6 t8 t7 t9 t11).1) with
        | some w10 => (match nmO (α := Int) ((xV t5 t6 t8 t7 t9 t11).2.1) with
          | some w11 => (match nmO (α := Int) ((xV t5 t6 t8 t7 t9 t11).2.2) with
            | some w12 => (k0 t10)
            | none => none)
          | none => none)
        | none => none)
      | false => (mr_sixD12 N k0 k1 M t5 t6 t7 t8 t9 t10 (IntKind.i64.wrap (t11 + 1)))))
  | false => (k1 t10)) := by kernel_rfl
theorem H_sixD12 (N : Nat) : ∀ (M : Nat) (t5 : Int) (t6 : Int) (t7 : Int) (t8 : Int) (t9 : Int) (t10 : Nat) (t11 : Int), lp_sixD12 N M (st_sixD12 t5 t6 t7 t8 t9 t10 t11) (kt_sixD12 N (kEnd Try.f13 0)) = mr_sixD12 N (ce_sixD12_0 N) (ce_sixD12_1 N) M t5 t6 t7 t8 t9 t10 t11 := by
  have he0 : ∀ (t10 : Nat), kt_sixD12 N (kEnd Try.f13 0) .ret (en_sixD12_0 t10) = ce_sixD12_0 N t10 := by
    intro t10
    rw [end_sixD12_0]
    unfold ce_sixD12_0
    first | simp only [] | rfl
  have he1 : ∀ (t10 : Nat), kt_sixD12 N (kEnd Try.f13 0) (.exit 0) (en_sixD12_1 t10) = ce_sixD12_1 N t10 := by
    intro t10
    rw [end_sixD12_1]
    unfold ce_sixD12_1
    first | simp only [] | rfl
  intro M
  induction M with
  | zero => intros; rfl
  | succ M ih =>
    intro t5 t6 t7 t8 t9 t10 t11
    rw [step_sixD12]
    rw [mrs_sixD12]
    first | simp only [ih, he0, he1] | rfl
noncomputable def md_sixD (N : Nat)  : Option (V × H) := (match nmO (α := Bool) (longB 0 0) with
  | some w1 => (match w1 with
    | true => some (.bool true, [])
    | false => (match atOk 0 [] 0 with
      | true => (match nmO (α := Int) (atF [] 0 4) with
        | some w2 => (match atOk 0 [] 1 with
          | true => (match nmO (α := Int) (atF [] 1 4) with
            | some w3 => (match atOk 0 [] 2 with
              | true => (match nmO (α := Int) (atF [] 2 4) with
                | some w4 => (match atOk 0 [] 3 with
                  | true => (match nmO (α := Int) (atF [] 3 (IntKind.i64.wrap ((if w3 < w2 then w3 else w2) + 1))) with
                    | some w5 => (match atOk 0 [] 4 with
                      | true => (match nmO (α := Int) (atF [] 4 (IntKind.i64.wrap ((if w4 < (IntKind.i64.wrap ((IntKind.i64.wrap (w2 + w3)) - (IntKind.i64.wrap (2 * w5)))) then w4 else IntKind.i64.wrap ((IntKind.i64.wrap (w2 + w3)) - (IntKind.i64.wrap (2 * w5)))) + 1))) with
                        | some w6 => (match decide ((IntKind.i64.wrap ((IntKind.i64.wrap ((IntKind.i64.wrap ((IntKind.i64.wrap (w2 + w3)) - (IntKind.i64.wrap (2 * w5)))) + w4)) - (IntKind.i64.wrap (2 * w6))) : Int) > 6) with
                          | true => some (.bool true, [])
                          | false => (mr_sixD12 N (ce_sixD12_0 N) (ce_sixD12_1 N) N w2 w3 w4 (IntKind.i64.wrap ((IntKind.i64.wrap (w2 + w3)) - (IntKind.i64.wrap (2 * w5)))) (IntKind.i64.wrap ((IntKind.i64.wrap ((IntKind.i64.wrap ((IntKind.i64.wrap (w2 + w3)) - (IntKind.i64.wrap (2 * w5)))) + w4)) - (IntKind.i64.wrap (2 * w6)))) 0 0))
                        | none => none)
                      | false => none)
                    | none => none)
                  | false => none)
                | none => none)
              | false => none)
            | none => none)
          | false => none)
        | none => none)
      | false => none))
  | none => none)
theorem mdl_sixD (N : Nat)  : run ty tab_sixD an_sixD N Try.f13 [.nil, .nil] [] = md_sixD N  := by
  rw [run_sixD]
  unfold md_sixD
  first | simp only [H_sixD12 N N] | rfl

def an_sixA : Ann := ⟨fun r => if r = 12 then some ([5, 6, 7, 8, 9, 10, 11], [4, 10]) else none, fun _ _ => .quiet⟩
def tab_sixA : Fns := tabT [(57, gLong), (58, gAt), (54, gSix), (53, gSix), (61, gGap)]
theorem tabok_sixA : ∀ f, FnT Try.prog f (tab_sixA f) := (tabT_cons (k := 57) ok_Long (tabT_cons (k := 58) ok_At (tabT_cons (k := 54) ok_sxI (tabT_cons (k := 53) ok_sxS (tabT_cons (k := 61) ok_Gap tabT_nil)))))
def st_sixA12 (t5 : Int) (t6 : Int) (t7 : Int) (t8 : Int) (t9 : Int) (t10 : Nat) (t11 : Int) (l0 : List Int) (l1 : List Int) : St := ⟨[.any, .any, .any, .any, .any, .int .i64 t5, .int .i64 t6, .int .i64 t7, .int .i64 t8, .int .i64 t9, .fl .f64 t10, .int .i64 t11, .any, .any, .any, .any, .any, .any, .any, .any, .any, .any, .any, .any, .any, .any, .any, .any, .any, .any, .any, .any, .any, .any, .any, .any, .any, .any, .any, .any, .any, .any, .any, .any, .any, .any, .any, .any, .any, .any, .any, .any, .any, .any, .any, .any, .any, .any, .any, .any, .any, .any, .any, .any, .any, .any, .any, .any, .any, .any, .any, .any, .any, .any, .any, .any, .any, .any, .any, .any, .any, .any, .any, .any, .any, .any, .any, .any, .any, .any, .any, .any, .any, .any, .any, .any, .any, .any, .any, .any, .any, .any, .any, .any, .any, .any, .any, .any, .any, .any, .any, .any, .any, .any, .any, .any, .any, .any, .any, .any, .any, .any, .any, .any, .any, .any, .any, .any, .any, .any, .any, .any, .any, .any, .any, .any, .any, .any, .any, .any, .any, .any, .any, .any, .any, .any, .any, .any, .any, .any, .any], [.at false (.int .u8 l0), .at false (.int .u8 l1)]⟩
abbrev kp_sixA12 : Option (List Nat × List Nat) := some ([5, 6, 7, 8, 9, 10, 11], [4, 10])
noncomputable def lp_sixA12 {R : Type} (N M : Nat) (s : St) (K : X → St → Option R) : Option R := loopH 2 kp_sixA12 (fun st K => exec ty tab_sixA an_sixA N 2 (atOf [true, true, true, true, true, true, true, true, true, false, true, false, false] Try.f13) st K) M s K
noncomputable def bk_sixA12 {R : Type} (N M : Nat) (K : X → St → Option R) : X → St → Option R := fun x st => match x with | .norm => tidyK 2 (kp_sixA12.map (·.1)) st fun st => lp_sixA12 N M st K | x => tidyK 2 (kp_sixA12.map (·.2)) st fun st => K x st
noncomputable def kt_sixA12 {R : Type} (N : Nat) (K : X → St → Option R) : X → St → Option R := kBlkR 0 (kSeqR tab_sixA an_sixA N 2 (atOf [true, true, true, true, true, true, true, true, true, true] Try.f13) (K))
def en_sixA12_0 (t10 : Nat) (l0 : List Int) (l1 : List Int) : St := ⟨[.any, .any, .any, .any, .bool false, .any, .any, .any, .any, .any, .fl .f64 t10, .any, .any, .any, .any, .any, .any, .any, .any, .any, .any, .any, .any, .any, .any, .any, .any, .any, .any, .any, .any, .any, .any, .any, .any, .any, .any, .any, .any, .any, .any, .any, .any, .any, .any, .any, .any, .any, .any, .any, .any, .any, .any, .any, .any, .any, .any, .any, .any, .any, .any, .any, .any, .any, .any, .any, .any, .any, .any, .any, .any, .any, .any, .any, .any, .any, .any, .any, .any, .any, .any, .any, .any, .any, .any, .any, .any, .any, .any, .any, .any, .any, .any, .any, .any, .any, .any, .any, .any, .any, .any, .any, .any, .any, .any, .any, .any, .any, .any, .any, .any, .any, .any, .any, .any, .any, .any, .any, .any, .any, .any, .any, .any, .any, .any, .any, .any, .any, .any, .any, .any, .any, .any, .any, .any, .any, .any, .any, .any, .any, .any, .any, .any, .any, .any, .any, .any, .any, .any, .any, .any], [.at false (.int .u8 l0), .at false (.int .u8 l1)]⟩
def en_sixA12_1 (t10 : Nat) (l0 : List Int) (l1 : List Int) : St := ⟨[.any, .any, .any, .any, .any, .any, .any, .any, .any, .any, .fl .f64 t10, .any, .any, .any, .any, .any, .any, .any, .any, .any, .any, .any, .any, .any, .any, .any, .any, .any, .any, .any, .any, .any, .any, .any, .any, .any, .any, .any, .any, .any, .any, .any, .any, .any, .any, .any, .any, .any, .any, .any, .any, .any, .any, .any, .any, .any, .any, .any, .any, .any, .any, .any, .any, .any, .any, .any, .any, .any, .any, .any, .any, .any, .any, .any, .any, .any, .any, .any, .any, .any, .any, .any, .any, .any, .any, .any, .any, .any, .any, .any, .any, .any, .any, .any, .any, .any, .any, .any, .any, .any, .any, .any, .any, .any, .any, .any, .any, .any, .any, .any, .any, .any, .any, .any, .any, .any, .any, .any, .any, .any, .any, .any, .any, .any, .any, .any, .any, .any, .any, .any, .any, .any, .any, .any, .any, .any, .any, .any, .any, .any, .any, .any, .any, .any, .any, .any, .any, .any, .any, .any, .any], [.at false (.int .u8 l0), .at false (.int .u8 l1)]⟩
theorem run_sixA (N : Nat) (n : Nat) (m : Nat) (l0 : List Int) (l1 : List Int) : run ty tab_sixA an_sixA N Try.f13 [.sl 0 0 n, .sl 1 0 m] [.at false (.int .u8 l0), .at false (.int .u8 l1)]
    = (match nmO (α := Bool) (longB n m) with
  | some w1 => (match w1 with
    | true => some (.bool true, [.at false (.int .u8 l0), .at false (.int .u8 l1)])
    | false => (match atOk m l1 0 with
      | true => (match nmO (α := Int) (atF l1 0 4) with
        | some w2 => (match atOk m l1 1 with
          | true => (match nmO (α := Int) (atF l1 1 4) with
            | some w3 => (match atOk m l1 2 with
              | true => (match nmO (α := Int) (atF l1 2 4) with
                | some w4 => (match atOk m l1 3 with
                  | true => (match nmO (α := Int) (atF l1 3 (IntKind.i64.wrap ((if w3 < w2 then w3 else w2) + 1))) with
                    | some w5 => (match atOk m l1 4 with
                      | true => (match nmO (α := Int) (atF l1 4 (IntKind.i64.wrap ((if w4 < (IntKind.i64.wrap ((IntKind.i64.wrap (w2 + w3)) - (IntKind.i64.wrap (2 * w5)))) then w4 else IntKind.i64.wrap ((IntKind.i64.wrap (w2 + w3)) - (IntKind.i64.wrap (2 * w5)))) + 1))) with
                        | some w6 => (match decide ((IntKind.i64.wrap ((IntKind.i64.wrap ((IntKind.i64.wrap ((IntKind.i64.wrap (w2 + w3)) - (IntKind.i64.wrap (2 * w5)))) + w4)) - (IntKind.i64.wrap (2 * w6))) : Int) > 6) with
                          | true => some (.bool true, [.at false (.int .u8 l0), .at false (.int .u8 l1)])
                          | false => lp_sixA12 N N (st_sixA12 w2 w3 w4 (IntKind.i64.wrap ((IntKind.i64.wrap (w2 + w3)) - (IntKind.i64.wrap (2 * w5)))) (IntKind.i64.wrap ((IntKind.i64.wrap ((IntKind.i64.wrap ((IntKind.i64.wrap (w2 + w3)) - (IntKind.i64.wrap (2 * w5)))) + w4)) - (IntKind.i64.wrap (2 * w6)))) 0 0 l0 l1) (kt_sixA12 N (kEnd Try.f13 2)))
                        | none => none)
                      | false => none)
                    | none => none)
                  | false => none)
                | none => none)
              | false => none)
            | none => none)
          | false => none)
        | none => none)
      | false => none))
  | none => none) := by
  kernel_rfl
theorem step_sixA12 {R : Type} (N M : Nat) (K : X → St → Option R) (t5 : Int) (t6 : Int) (t7 : Int) (t8 : Int) (t9 : Int) (t10 : Nat) (t11 : Int) (l0 : List Int) (l1 : List Int) : lp_sixA12 N (M + 1) (st_sixA12 t5 t6 t7 t8 t9 t10 t11 l0 l1) K
    = (match decide ((t11 : Int) ≤ 6) with
  | true => (match sixS t5 t6 t8 t7 t9 t11 with
    | true => (match nmO (α := Int) ((xV t5 t6 t8 t7 t9 t11).1) with
      | some w1 => (match nmO (α := Int) ((xV t5 t6 t8 t7 t9 t11).2.1) with
        | some w2 => (match nmO (α := Int) ((xV t5 t6 t8 t7 t9 t11).2.2) with
          | some w3 => (match sixS t5 t6 t8 t7 t9 t11 with
            | true => (match nmO (α := Int) ((xV t5 t6 t8 t7 t9 t11).1) with
              | some w4 => (match nmO (α := Int) ((xV t5 t6 t8 t7 t9 t11).2.1) with
                | some w5 => (match nmO (α := Int) ((xV t5 t6 t8 t7 t9 t11).2.2) with
                  | some w6 => (match sixS t6 t5 t8 t9 t7 t11 with
                    | true => (match nmO (α := Int) ((xV t6 t5 t8 t9 t7 t11).1) with
                      | some w7 => (match nmO (α := Int) ((xV t6 t5 t8 t9 t7 t11).2.1) with
                        | some w8 => (match nmO (α := Int) ((xV t6 t5 t8 t9 t7 t11).2.2) with
                          | some w9 => (match w1 != w4 with
                            | true => K .ret (en_sixA12_0 t10 l0 l1)
                            | false => (match w2 != w5 with
                              | true => K .ret (en_sixA12_0 t10 l0 l1)
                              | false => (match w3 != w6 with
                                | true => K .ret (en_sixA12_0 t10 l0 l1)
                                | false => (match w7 != w1 with
                                  | true => K .ret (en_sixA12_0 t10 l0 l1)
                                  | false => (match w8 != w2 with
                                    | true => K .ret (en_sixA12_0 t10 l0 l1)
                                    | false => (match w9 != w3 with
                                      | true => K .ret (en_sixA12_0 t10 l0 l1)
                                      | false => lp_sixA12 N M (st_sixA12 t5 t6 t7 t8 t9 (fop .add .f64 t10 (fop .quo .f64 (fop .mul .f64 (floatOfInt .f64 (IntKind.i64.wrap ((IntKind.i64.wrap (t8 + 1)) * (IntKind.i64.wrap (t11 + 1))))) (floatOfInt .f64 w2)) (floatOfInt .f64 w3))) (IntKind.i64.wrap (t11 + 1)) l0 l1) K))))))
                          | none => none)
                        | none => none)
                      | none => none)
                    | false => (match w1 != w4 with
                      | true => K .ret (en_sixA12_0 t10 l0 l1)
                      | false => (match w2 != w5 with
                        | true => K .ret (en_sixA12_0 t10 l0 l1)
                        | false => (match w3 != w6 with
                          | true => K .ret (en_sixA12_0 t10 l0 l1)
                          | false => K .ret (en_sixA12_0 t10 l0 l1)))))
                  | none => none)
                | none => none)
              | none => none)
            | false => K .ret (en_sixA12_0 t10 l0 l1))
          | none => none)
        | none => none)
      | none => none)
    | false => (match sixS t5 t6 t8 t7 t9 t11 with
      | true => (match nmO (α := Int) ((xV t5 t6 t8 t7 t9 t11).1) with
        | some w10 => (match nmO (α := Int) ((xV t5 t6 t8 t7 t9 t11).2.1) with
          | some w11 => (match nmO (α := Int) ((xV t5 t6 t8 t7 t9 t11).2.2) with
            | some w12 => K .ret (en_sixA12_0 t10 l0 l1)
            | none => none)
          | none => none)
        | none => none)
      | false => lp_sixA12 N M (st_sixA12 t5 t6 t7 t8 t9 t10 (IntKind.i64.wrap (t11 + 1)) l0 l1) K))
  | false => K (.exit 0) (en_sixA12_1 t10 l0 l1)) := by
  kernel_rfl
theorem end_sixA12_0 (N : Nat) (t10 : Nat) (l0 : List Int) (l1 : List Int) : kt_sixA12 N (kEnd Try.f13 2) .ret (en_sixA12_0 t10 l0 l1)
    = some (.bool false, [.at false (.int .u8 l0), .at false (.int .u8 l1)]) := by
  kernel_rfl
theorem end_sixA12_1 (N : Nat) (t10 : Nat) (l0 : List Int) (l1 : List Int) : kt_sixA12 N (kEnd Try.f13 2) (.exit 0) (en_sixA12_1 t10 l0 l1)
    = (match nmO (α := Nat) (gapD t10 4607182418800017408) with
  | some w1 => some (.bool (ltD w1 4562254508917369340), [.at false (.int .u8 l0), .at false (.int .u8 l1)])
  | none => none) := by
  kernel_rfl

noncomputable def ce_sixA12_0 (N : Nat) (t10 : Nat) (l0 : List Int) (l1 : List Int) : Option (V × H) := some (.bool false, [.at false (.int .u8 l0), .at false (.int .u8 l1)])
noncomputable def ce_sixA12_1 (N : Nat) (t10 : Nat) (l0 : List Int) (l1 : List Int) : Option (V × H) := (match nmO (α := Nat) (gapD t10 4607182418800017408) with
  | some w1 => some (.bool (ltD w1 4562254508917369340), [.at false (.int .u8 l0), .at false (.int .u8 l1)])
  | none => none)
noncomputable def mr_sixA12 (N : Nat) (k0 : Nat → List Int → List Int → Option (V × H)) (k1 : Nat → List Int → List Int → Option (V × H)) (M : Nat) : Int → Int → Int → Int → Int → Nat → Int → List Int → List Int → Option (V × H) := Nat.rec (motive := fun _ => Int → Int → Int → Int → Int → Nat → Int → List Int → List Int → Option (V × H)) (fun (_ : Int) (_ : Int) (_ : Int) (_ : Int) (_ : Int) (_ : Nat) (_ : Int) (_ : List Int) (_ : List Int) => none) (fun _ rq => fun (t5 : Int) (t6 : Int) (t7 : Int) (t8 : Int) (t9 : Int) (t10 : Nat) (t11 : Int) (l0 : List Int) (l1 : List Int) => (match decide ((t11 : Int) ≤ 6) with
  | true => (match sixS t5 t6 t8 t7 t9 t11 with
    | true => (match nmO (α := Int) ((xV t5 t6 t8 t7 t9 t11).1) with
      | some w1 => (match nmO (α := Int) ((xV t5 t6 t8 t7 t9 t11).2.1) with
        | some w2 => (match nmO (α := Int) ((xV t5 t6 t8 t7 t9 t11).2.2) with
          | some w3 => (match sixS t5 t6 t8 t7 t9 t11 with
            | true => (match nmO (α := Int) ((xV t5 t6 t8 t7 t9 t11).1) with
              | some w4 => (match nmO (α := Int) ((xV t5 t6 t8 t7 t9 t11).2.1) with
                | some w5 => (match nmO (α := Int) ((xV t5 t6 t8 t7 t9 t11).2.2) with
                  | some w6 => (match sixS t6 t5 t8 t9 t7 t11 with
                    | true => (match nmO (α := Int) ((xV t6 t5 t8 t9 t7 t11).1) with
                      | some w7 => (match nmO (α := Int) ((xV t6 t5 t8 t9 t7 t11).2.1) with
                        | some w8 => (match nmO (α := Int) ((xV t6 t5 t8 t9 t7 t11).2.2) with
                          | some w9 => (match w1 != w4 with
                            | true => (k0 t10 l0 l1)
                            | false => (match w2 != w5 with
                              | true => (k0 t10 l0 l1)
                              | false => (match w3 != w6 with
                                | true => (k0 t10 l0 l1)
                                | false => (match w7 != w1 with
                                  | true => (k0 t10 l0 l1)
                                  | false => (match w8 != w2 with
                                    | true => (k0 t10 l0 l1)
                                    | false => (match w9 != w3 with
                                      | true => (k0 t10 l0 l1)
                                      | false => (rq t5 t6 t7 t8 t9 (fop .add .f64 t10 (fop .quo .f64 (fop .mul .f64 (floatOfInt .f64 (IntKind.i64.wrap ((IntKind.i64.wrap (t8 + 1)) * (IntKind.i64.wrap (t11 + 1))))) (floatOfInt .f64 w2)) (floatOfInt .f64 w3))) (IntKind.i64.wrap (t11 + 1)) l0 l1)))))))
                          | none => none)
                        | none => none)
                      | none => none)
                    | false => (match w1 != w4 with
                      | true => (k0 t10 l0 l1)
                      | false => (match w2 != w5 with
                        | true => (k0 t10 l0 l1)
                        | false => (match w3 != w6 with
                          | true => (k0 t10 l0 l1)
                          | false => (k0 t10 l0 l1)))))
                  | none => none)
                | none => none)
              | none => none)
            | false => (k0 t10 l0 l1))
          | none => none)
        | none => none)
      | none => none)
    | false => (match sixS t5 t6 t8 t7 t9 t11 with
      | true => (match nmO (α := Int) ((xV t5 t6 t8 t7 t9 t11).1) with
        | some w10 => (match nmO (α := Int) ((xV t5 t6 t8 t7 t9 t11).2.1) with
          | some w11 => (match nmO (α := Int) ((xV t5 t6 t8 t7 t9 t11).2.2) with
            | some w12 => (k0 t10 l0 l1)
            | none => none)
          | none => none)
        | none => none)
      | false => (rq t5 t6 t7 t8 t9 t10 (IntKind.i64.wrap (t11 + 1)) l0 l1)))
  | false => (k1 t10 l0 l1))) M
theorem mrs_sixA12 (N : Nat) (k0 : Nat → List Int → List Int → Option (V × H)) (k1 : Nat → List Int → List Int → Option (V × H)) (M : Nat) (t5 : Int) (t6 : Int) (t7 : Int) (t8 : Int) (t9 : Int) (t10 : Nat) (t11 : Int) (l0 : List Int) (l1 : List Int) : mr_sixA12 N k0 k1 (M + 1) t5 t6 t7 t8 t9 t10 t11 l0 l1 = (match decide ((t11 : Int) ≤ 6) with
  | true => (match sixS t5 t6 t8 t7 t9 t11 with
    | true => (match nmO (α := Int) ((xV t5 t6 t8 t7 t9 t11).1) with
      | some w1 => (match nmO (α := Int) ((xV t5 t6 t8 t7 t9 t11).2.1) with
        | some w2 => (match nmO (α := Int) ((xV t5 t6 t8 t7 t9 t11).2.2) with
          | some w3 => (match sixS t5 t6 t8 t7 t9 t11 with
            | true => (match nmO (α := Int) ((xV t5 t6 t8 t7 t9 t11).1) with
              | some w4 => (match nmO (α := Int) ((xV t5 t6 t8 t7 t9 t11).2.1) with
                | some w5 => (match nmO (α := Int) ((xV t5 t6 t8 t7 t9 t11).2.2) with
                  | some w6 => (match sixS t6 t5 t8 t9 t7 t11 with
                    | true => (match nmO (α := Int) ((xV t6 t5 t8 t9 t7 t11).1) with
                      | some w7 => (match nmO (α := Int) ((xV t6 t5 t8 t9 t7 t11).2.1) with
                        | some w8 => (match nmO (α := Int) ((xV t6 t5 t8 t9 t7 t11).2.2) with
                          | some w9 => (match w1 != w4 with
                            | true => (k0 t10 l0 l1)
                            | false => (match w2 != w5 with
                              | true => (k0 t10 l0 l1)
                              | false => (match w3 != w6 with
                                | true => (k0 t10 l0 l1)
                                | false => (match w7 != w1 with
                                  | true => (k0 t10 l0 l1)
                                  | false => (match w8 != w2 with
                                    | true => (k0 t10 l0 l1)
                                    | false => (match w9 != w3 with
                                      | true => (k0 t10 l0 l1)
                                      | false => (mr_sixA12 N k0 k1 M t5 t6 t7 t8 t9 (fop .add .f64 t10 (fop .quo .f64 (fop .mul .f64 (floatOfInt .f64 (IntKind.i64.wrap ((IntKind.i64.wrap (t8 + 1)) * (IntKind.i64.wrap (t11 + 1))))) (floatOfInt .f64 w2)) (floatOfInt .f64 w3))) (IntKind.i64.wrap (t11 + 1)) l0 l1)))))))
                          | none => none)
                        | none => none)
                      | none => none)
                    | false => (match w1 != w4 with
                      | true => (k0 t10 l0 l1)
                      | false => (match w2 != w5 with
                        | true => (k0 t10 l0 l1)
                        | false => (match w3 != w6 with
                          | true => (k0 t10 l0 l1)
                          | false => (k0 t10 l0 l1)))))
                  | none => none)
                | none => none)
              | none => none)
            | false => (k0 t10 l0 l1))
          | none => none)
        | none => none)
      | none => none)
    | false => (match sixS t5 t6 t8 t7 t9 t11 with
      | true => (match nmO (α := Int) ((xV t5 t6 t8 t7 t9 t11).1) with
        | some w10 => (match nmO (α := Int) ((xV t5 t6 t8 t7 t9 t11).2.1) with
          | some w11 => (match nmO (α := Int) ((xV t5 t6 t8 t7 t9 t11).2.2) with
            | some w12 => (k0 t10 l0 l1)
            | none => none)
          | none => none)
        | none => none)
      | false => (mr_sixA12 N k0 k1 M t5 t6 t7 t8 t9 t10 (IntKind.i64.wrap (t11 + 1)) l0 l1)))
  | false => (k1 t10 l0 l1)) := by kernel_rfl
theorem H_sixA12 (N : Nat) : ∀ (M : Nat) (t5 : Int) (t6 : Int) (t7 : Int) (t8 : Int) (t9 : Int) (t10 : Nat) (t11 : Int) (l0 : List Int) (l1 : List Int), lp_sixA12 N M (st_sixA12 t5 t6 t7 t8 t9 t10 t11 l0 l1) (kt_sixA12 N (kEnd Try.f13 2)) = mr_sixA12 N (ce_sixA12_0 N) (ce_sixA12_1 N) M t5 t6 t7 t8 t9 t10 t11 l0 l1 := by
  have he0 : ∀ (t10 : Nat) (l0 : List Int) (l1 : List Int), kt_sixA12 N (kEnd Try.f13 2) .ret (en_sixA12_0 t10 l0 l1) = ce_sixA12_0 N t10 l0 l1 := by
    intro t10 l0 l1
    rw [end_sixA12_0]
    unfold ce_sixA12_0
    first | simp only [] | rfl
  have he1 : ∀ (t10 : Nat) (l0 : List Int) (l1 : List Int), kt_sixA12 N (kEnd Try.f13 2) (.exit 0) (en_sixA12_1 t10 l0 l1) = ce_sixA12_1 N t10 l0 l1 := by
    intro t10 l0 l1
    rw [end_sixA12_1]
    unfold ce_sixA12_1
    first | simp only [] | rfl
  intro M
  induction M with
  | zero => intros; rfl
  | succ M ih =>
    intro t5 t6 t7 t8 t9 t10 t11 l0 l1
    rw [step_sixA12]
    rw [mrs_sixA12]
    first | simp only [ih, he0, he1] | rfl
noncomputable def md_sixA (N : Nat) (n : Nat) (m : Nat) (l0 : List Int) (l1 : List Int) : Option (V × H) := (match nmO (α := Bool) (longB n m) with
  | some w1 => (match w1 with
    | true => some (.bool true, [.at false (.int .u8 l0), .at false (.int .u8 l1)])
    | false => (match atOk m l1 0 with
      | true => (match nmO (α := Int) (atF l1 0 4) with
        | some w2 => (match atOk m l1 1 with
          | true => (match nmO (α := Int) (atF l1 1 4) with
            | some w3 => (match atOk m l1 2 with
              | true => (match nmO (α := Int) (atF l1 2 4) with
                | some w4 => (match atOk m l1 3 with
                  | true => (match nmO (α := Int) (atF l1 3 (IntKind.i64.wrap ((if w3 < w2 then w3 else w2) + 1))) with
                    | some w5 => (match atOk m l1 4 with
                      | true => (match nmO (α := Int) (atF l1 4 (IntKind.i64.wrap ((if w4 < (IntKind.i64.wrap ((IntKind.i64.wrap (w2 + w3)) - (IntKind.i64.wrap (2 * w5)))) then w4 else IntKind.i64.wrap ((IntKind.i64.wrap (w2 + w3)) - (IntKind.i64.wrap (2 * w5)))) + 1))) with
                        | some w6 => (match decide ((IntKind.i64.wrap ((IntKind.i64.wrap ((IntKind.i64.wrap ((IntKind.i64.wrap (w2 + w3)) - (IntKind.i64.wrap (2 * w5)))) + w4)) - (IntKind.i64.wrap (2 * w6))) : Int) > 6) with
                          | true => some (.bool true, [.at false (.int .u8 l0), .at false (.int .u8 l1)])
                          | false => (mr_sixA12 N (ce_sixA12_0 N) (ce_sixA12_1 N) N w2 w3 w4 (IntKind.i64.wrap ((IntKind.i64.wrap (w2 + w3)) - (IntKind.i64.wrap (2 * w5)))) (IntKind.i64.wrap ((IntKind.i64.wrap ((IntKind.i64.wrap ((IntKind.i64.wrap (w2 + w3)) - (IntKind.i64.wrap (2 * w5)))) + w4)) - (IntKind.i64.wrap (2 * w6)))) 0 0 l0 l1))
                        | none => none)
                      | false => none)
                    | none => none)
                  | false => none)
                | none => none)
              | false => none)
            | none => none)
          | false => none)
        | none => none)
      | false => none))
  | none => none)
theorem mdl_sixA (N : Nat) (n : Nat) (m : Nat) (l0 : List Int) (l1 : List Int) : run ty tab_sixA an_sixA N Try.f13 [.sl 0 0 n, .sl 1 0 m] [.at false (.int .u8 l0), .at false (.int .u8 l1)] = md_sixA N n m l0 l1 := by
  rw [run_sixA]
  unfold md_sixA
  first | simp only [H_sixA12 N N] | rfl

def an_sixB : Ann := ⟨fun r => if r = 12 then some ([5, 6, 7, 8, 9, 10, 11], [4, 10]) else none, fun _ _ => .quiet⟩
def tab_sixB : Fns := tabT [(57, gLong), (58, gAt), (54, gSix), (53, gSix), (61, gGap)]
theorem tabok_sixB : ∀ f, FnT Try.prog f (tab_sixB f) := (tabT_cons (k := 57) ok_Long (tabT_cons (k := 58) ok_At (tabT_cons (k := 54) ok_sxI (tabT_cons (k := 53) ok_sxS (tabT_cons (k := 61) ok_Gap tabT_nil)))))
def st_sixB12 (t5 : Int) (t6 : Int) (t7 : Int) (t8 : Int) (t9 : Int) (t10 : Nat) (t11 : Int) (l0 : List Int) : St := ⟨[.any, .any, .any, .any, .any, .int .i64 t5, .int .i64 t6, .int .i64 t7, .int .i64 t8, .int .i64 t9, .fl .f64 t10, .int .i64 t11, .any, .any, .any, .any, .any, .any, .any, .any, .any, .any, .any, .any, .any, .any, .any, .any, .any, .any, .any, .any, .any, .any, .any, .any, .any, .any, .any, .any, .any, .any, .any, .any, .any, .any, .any, .any, .any, .any, .any, .any, .any, .any, .any, .any, .any, .any, .any, .any, .any, .any, .any, .any, .any, .any, .any, .any, .any, .any, .any, .any, .any, .any, .any, .any, .any, .any, .any, .any, .any, .any, .any, .any, .any, .any, .any, .any, .any, .any, .any, .any, .any, .any, .any, .any, .any, .any, .any, .any, .any, .any, .any, .any, .any, .any, .any, .any, .any, .any, .any, .any, .any, .any, .any, .any, .any, .any, .any, .any, .any, .any, .any, .any, .any, .any, .any, .any, .any, .any, .any, .any, .any, .any, .any, .any, .any, .any, .any, .any, .any, .any, .any, .any, .any, .any, .any, .any, .any, .any, .any], [.at false (.int .u8 l0)]⟩
abbrev kp_sixB12 : Option (List Nat × List Nat) := some ([5, 6, 7, 8, 9, 10, 11], [4, 10])
noncomputable def lp_sixB12 {R : Type} (N M : Nat) (s : St) (K : X → St → Option R) : Option R := loopH 1 kp_sixB12 (fun st K => exec ty tab_sixB an_sixB N 1 (atOf [true, true, true, true, true, true, true, true, true, false, true, false, false] Try.f13) st K) M s K
noncomputable def bk_sixB12 {R : Type} (N M : Nat) (K : X → St → Option R) : X → St → Option R := fun x st => match x with | .norm => tidyK 1 (kp_sixB12.map (·.1)) st fun st => lp_sixB12 N M st K | x => tidyK 1 (kp_sixB12.map (·.2)) st fun st => K x st
noncomputable def kt_sixB12 {R : Type} (N : Nat) (K : X → St → Option R) : X → St → Option R := kBlkR 0 (kSeqR tab_sixB an_sixB N 1 (atOf [true, true, true, true, true, true, true, true, true, true] Try.f13) (K))
def en_sixB12_0 (t10 : Nat) (l0 : List Int) : St := ⟨[.any, .any, .any, .any, .bool false, .any, .any, .any, .any, .any, .fl .f64 t10, .any, .any, .any, .any, .any, .any, .any, .any, .any, .any, .any, .any, .any, .any, .any, .any, .any, .any, .any, .any, .any, .any, .any, .any, .any, .any, .any, .any, .any, .any, .any, .any, .any, .any, .any, .any, .any, .any, .any, .any, .any, .any, .any, .any, .any, .any, .any, .any, .any, .any, .any, .any, .any, .any, .any, .any, .any, .any, .any, .any, .any, .any, .any, .any, .any, .any, .any, .any, .any, .any, .any, .any, .any, .any, .any, .any, .any, .any, .any, .any, .any, .any, .any, .any, .any, .any, .any, .any, .any, .any, .any, .any, .any, .any, .any, .any, .any, .any, .any, .any, .any, .any, .any, .any, .any, .any, .any, .any, .any, .any, .any, .any, .any, .any, .any, .any, .any, .any, .any, .any, .any, .any, .any, .any, .any, .any, .any, .any, .any, .any, .any, .any, .any, .any, .any, .any, .any, .any, .any, .any], [.at false (.int .u8 l0)]⟩
def en_sixB12_1 (t10 : Nat) (l0 : List Int) : St := ⟨[.any, .any, .any, .any, .any, .any, .any, .any, .any, .any, .fl .f64 t10, .any, .any, .any, .any, .any, .any, .any, .any, .any, .any, .any, .any, .any, .any, .any, .any, .any, .any, .any, .any, .any, .any, .any, .any, .any, .any, .any, .any, .any, .any, .any, .any, .any, .any, .any, .any, .any, .any, .any, .any, .any, .any, .any, .any, .any, .any, .any, .any, .any, .any, .any, .any, .any, .any, .any, .any, .any, .any, .any, .any, .any, .any, .any, .any, .any, .any, .any, .any, .any, .any, .any, .any, .any, .any, .any, .any, .any, .any, .any, .any, .any, .any, .any, .any, .any, .any, .any, .any, .any, .any, .any, .any, .any, .any, .any, .any, .any, .any, .any, .any, .any, .any, .any, .any, .any, .any, .any, .any, .any, .any, .any, .any, .any, .any, .any, .any, .any, .any, .any, .any, .any, .any, .any, .any, .any, .any, .any, .any, .any, .any, .any, .any, .any, .any, .any, .any, .any, .any, .any, .any], [.at false (.int .u8 l0)]⟩
theorem run_sixB (N : Nat) (n : Nat) (l0 : List Int) : run ty tab_sixB an_sixB N Try.f13 [.sl 0 0 n, .nil] [.at false (.int .u8 l0)]
    = (match nmO (α := Bool) (longB n 0) with
  | some w1 => (match w1 with
    | true => some (.bool true, [.at false (.int .u8 l0)])
    | false => (match atOk 0 [] 0 with
      | true => (match nmO (α := Int) (atF [] 0 4) with
        | some w2 => (match atOk 0 [] 1 with
          | true => (match nmO (α := Int) (atF [] 1 4) with
            | some w3 => (match atOk 0 [] 2 with
              | true => (match nmO (α := Int) (atF [] 2 4) with
                | some w4 => (match atOk 0 [] 3 with
                  | true => (match nmO (α := Int) (atF [] 3 (IntKind.i64.wrap ((if w3 < w2 then w3 else w2) + 1))) with
                    | some w5 => (match atOk 0 [] 4 with
                      | true => (match nmO (α := Int) (atF [] 4 (IntKind.i64.wrap ((if w4 < (IntKind.i64.wrap ((IntKind.i64.wrap (w2 + w3)) - (IntKind.i64.wrap (2 * w5)))) then w4 else IntKind.i64.wrap ((IntKind.i64.wrap (w2 + w3)) - (IntKind.i64.wrap (2 * w5)))) + 1))) with
                        | some w6 => (match decide ((IntKind.i64.wrap ((IntKind.i64.wrap ((IntKind.i64.wrap ((IntKind.i64.wrap (w2 + w3)) - (IntKind.i64.wrap (2 * w5)))) + w4)) - (IntKind.i64.wrap (2 * w6))) : Int) > 6) with
                          | true => some (.bool true, [.at false (.int .u8 l0)])
                          | false => lp_sixB12 N N (st_sixB12 w2 w3 w4 (IntKind.i64.wrap ((IntKind.i64.wrap (w2 + w3)) - (IntKind.i64.wrap (2 * w5)))) (IntKind.i64.wrap ((IntKind.i64.wrap ((IntKind.i64.wrap ((IntKind.i64.wrap (w2 + w3)) - (IntKind.i64.wrap (2 * w5)))) + w4)) - (IntKind.i64.wrap (2 * w6)))) 0 0 l0) (kt_sixB12 N (kEnd Try.f13 1)))
                        | none => none)
                      | false => none)
                    | none => none)
                  | false => none)
                | none => none)
              | false => none)
            | none => none)
          | false => none)
        | none => none)
      | false => none))
  | none => none) := by
  kernel_rfl
theorem step_sixB12 {R : Type} (N M : Nat) (K : X → St → Option R) (t5 : Int) (t6 : Int) (t7 : Int) (t8 : Int) (t9 : Int) (t10 : Nat) (t11 : Int) (l0 : List Int) : lp_sixB12 N (M + 1) (st_sixB12 t5 t6 t7 t8 t9 t10 t11 l0) K
    = (match decide ((t11 : Int) ≤ 6) with
  | true => (match sixS t5 t6 t8 t7 t9 t11 with
    | true => (match nmO (α := Int) ((xV t5 t6 t8 t7 t9 t11).1) with
      | some w1 => (match nmO (α := Int) ((xV t5 t6 t8 t7 t9 t11).2.1) with
        | some w2 => (match nmO (α := Int) ((xV t5 t6 t8 t7 t9 t11).2.2) with
          | some w3 => (match sixS t5 t6 t8 t7 t9 t11 with
            | true => (match nmO (α := Int) ((xV t5 t6 t8 t7 t9 t11).1) with
              | some w4 => (match nmO (α := Int) ((xV t5 t6 t8 t7 t9 t11).2.1) with
                | some w5 => (match nmO (α := Int) ((xV t5 t6 t8 t7 t9 t11).2.2) with
                  | some w6 => (match sixS t6 t5 t8 t9 t7 t11 with
                    | true => (match nmO (α := Int) ((xV t6 t5 t8 t9 t7 t11).1) with
                      | some w7 => (match nmO (α := Int) ((xV t6 t5 t8 t9 t7 t11).2.1) with
                        | some w8 => (match nmO (α := Int) ((xV t6 t5 t8 t9 t7 t11).2.2) with
                          | some w9 => (match w1 != w4 with
                            | true => K .ret (en_sixB12_0 t10 l0)
                            | false => (match w2 != w5 with
                              | true => K .ret (en_sixB12_0 t10 l0)
                              | false => (match w3 != w6 with
                                | true => K .ret (en_sixB12_0 t10 l0)
                                | false => (match w7 != w1 with
                                  | true => K .ret (en_sixB12_0 t10 l0)
                                  | false => (match w8 != w2 with
                                    | true => K .ret (en_sixB12_0 t10 l0)
                                    | false => (match w9 != w3 with
                                      | true => K .ret (en_sixB12_0 t10 l0)
                                      | false => lp_sixB12 N M (st_sixB12 t5 t6 t7 t8 t9 (fop .add .f64 t10 (fop .quo .f64 (fop .mul .f64 (floatOfInt .f64 (IntKind.i64.wrap ((IntKind.i64.wrap (t8 + 1)) * (IntKind.i64.wrap (t11 + 1))))) (floatOfInt .f64 w2)) (floatOfInt .f64 w3))) (IntKind.i64.wrap (t11 + 1)) l0) K))))))
                          | none => none)
                        | none => none)
                      | none => none)
                    | false => (match w1 != w4 with
                      | true => K .ret (en_sixB12_0 t10 l0)
                      | false => (match w2 != w5 with
                        | true => K .ret (en_sixB12_0 t10 l0)
                        | false => (match w3 != w6 with
                          | true => K .ret (en_sixB12_0 t10 l0)
                          | false => K .ret (en_sixB12_0 t10 l0)))))
                  | none => none)
                | none => none)
              | none => none)
            | false => K .ret (en_sixB12_0 t10 l0))
          | none => none)
        | none => none)
      | none => none)
    | false => (match sixS t5 t6 t8 t7 t9 t11 with
      | true => (match nmO (α := Int) ((xV t5 t6 t8 t7 t9 t11).1) with
        | some w10 => (match nmO (α := Int) ((xV t5 t6 t8 t7 t9 t11).2.1) with
          | some w11 => (match nmO (α := Int) ((xV t5 t6 t8 t7 t9 t11).2.2) with
            | some w12 => K .ret (en_sixB12_0 t10 l0)
            | none => none)
          | none => none)
        | none => none)
      | false => lp_sixB12 N M (st_sixB12 t5 t6 t7 t8 t9 t10 (IntKind.i64.wrap (t11 + 1)) l0) K))
  | false => K (.exit 0) (en_sixB12_1 t10 l0)) := by
  kernel_rfl
theorem end_sixB12_0 (N : Nat) (t10 : Nat) (l0 : List Int) : kt_sixB12 N (kEnd Try.f13 1) .ret (en_sixB12_0 t10 l0)
    = some (.bool false, [.at false (.int .u8 l0)]) := by
  kernel_rfl
theorem end_sixB12_1 (N : Nat) (t10 : Nat) (l0 : List Int) : kt_sixB12 N (kEnd Try.f13 1) (.exit 0) (en_sixB12_1 t10 l0)
    = (match nmO (α := Nat) (gapD t10 4607182418800017408) with
  | some w1 => some (.bool (ltD w1 4562254508917369340), [.at false (.int .u8 l0)])
  | none => none) := by
  kernel_rfl

noncomputable def ce_sixB12_0 (N : Nat) (t10 : Nat) (l0 : List Int) : Option (V × H) := some (.bool false, [.at false (.int .u8 l0)])
noncomputable def ce_sixB12_1 (N : Nat) (t10 : Nat) (l0 : List Int) : Option (V × H) := (match nmO (α := Nat) (gapD t10 4607182418800017408) with
  | some w1 => some (.bool (ltD w1 4562254508917369340), [.at false (.int .u8 l0)])
  | none => none)
noncomputable def mr_sixB12 (N : Nat) (k0 : Nat → List Int → Option (V × H)) (k1 : Nat → List Int → Option (V × H)) (M : Nat) : Int → Int → Int → Int → Int → Nat → Int → List Int → Option (V × H) := Nat.rec (motive := fun _ => Int → Int → Int → Int → Int → Nat → Int → List Int → Option (V × H)) (fun (_ : Int) (_ : Int) (_ : Int) (_ : Int) (_ : Int) (_ : Nat) (_ : Int) (_ : List Int) => none) (fun _ rq => fun (t5 : Int) (t6 : Int) (t7 : Int) (t8 : Int) (t9 : Int) (t10 : Nat) (t11 : Int) (l0 : List Int) => (match decide ((t11 : Int) ≤ 6) with
  | true => (match sixS t5 t6 t8 t7 t9 t11 with
    | true => (match nmO (α := Int) ((xV t5 t6 t8 t7 t9 t11).1) with
      | some w1 => (match nmO (α := Int) ((xV t5 t6 t8 t7 t9 t11).2.1) with
        | some w2 => (match nmO (α := Int) ((xV t5 t6 t8 t7 t9 t11).2.2) with
          | some w3 => (match sixS t5 t6 t8 t7 t9 t11 with
            | true => (match nmO (α := Int) ((xV t5 t6 t8 t7 t9 t11).1) with
              | some w4 => (match nmO (α := Int) ((xV t5 t6 t8 t7 t9 t11).2.1) with
                | some w5 => (match nmO (α := Int) ((xV t5 t6 t8 t7 t9 t11).2.2) with
                  | some w6 => (match sixS t6 t5 t8 t9 t7 t11 with
                    | true => (match nmO (α := Int) ((xV t6 t5 t8 t9 t7 t11).1) with
                      | some w7 => (match nmO (α := Int) ((xV t6 t5 t8 t9 t7 t11).2.1) with
                        | some w8 => (match nmO (α := Int) ((xV t6 t5 t8 t9 t7 t11).2.2) with
                          | some w9 => (match w1 != w4 with
                            | true => (k0 t10 l0)
                            | false => (match w2 != w5 with
                              | true => (k0 t10 l0)
                              | false => (match w3 != w6 with
                                | true => (k0 t10 l0)
                                | false => (match w7 != w1 with
                                  | true => (k0 t10 l0)
                                  | false => (match w8 != w2 with
                                    | true => (k0 t10 l0)
                                    | false => (match w9 != w3 with
                                      | true => (k0 t10 l0)
                                      | false => (rq t5 t6 t7 t8 t9 (fop .add .f64 t10 (fop .quo .f64 (fop .mul .f64 (floatOfInt .f64 (IntKind.i64.wrap ((IntKind.i64.wrap (t8 + 1)) * (IntKind.i64.wrap (t11 + 1))))) (floatOfInt .f64 w2)) (floatOfInt .f64 w3))) (IntKind.i64.wrap (t11 + 1)) l0)))))))
                          | none => none)
                        | none => none)
                      | none => none)
                    | false => (match w1 != w4 with
                      | true => (k0 t10 l0)
                      | false => (match w2 != w5 with
                        | true => (k0 t10 l0)
                        | false => (match w3 != w6 with
                          | true => (k0 t10 l0)
                          | false => (k0 t10 l0)))))
                  | none => none)
                | none => none)
              | none => none)
            | false => (k0 t10 l0))
          | none => none)
        | none => none)
      | none => none)
    | false => (match sixS t5 t6 t8 t7 t9 t11 with
      | true => (match nmO (α := Int) ((xV t5 t6 t8 t7 t9 t11).1) with
        | some w10 => (match nmO (α := Int) ((xV t5 t6 t8 t7 t9 t11).2.1) with
          | some w11 => (match nmO (α := Int) ((xV t5 t6 t8 t7 t9 t11).2.2) with
            | some w12 => (k0 t10 l0)
            | none => none)
          | none => none)
        | none => none)
      | false => (rq t5 t6 t7 t8 t9 t10 (IntKind.i64.wrap (t11 + 1)) l0)))
  | false => (k1 t10 l0))) M
theorem mrs_sixB12 (N : Nat) (k0 : Nat → List Int → Option (V × H)) (k1 : Nat → List Int → Option (V × H)) (M : Nat) (t5 : Int) (t6 : Int) (t7 : Int) (t8 : Int) (t9 : Int) (t10 : Nat) (t11 : Int) (l0 : List Int) : mr_sixB12 N k0 k1 (M + 1) t5 t6 t7 t8 t9 t10 t11 l0 = (match decide ((t11 : Int) ≤ 6) with
  | true => (match sixS t5 t6 t8 t7 t9 t11 with
    | true => (match nmO (α := Int) ((xV t5 t6 t8 t7 t9 t11).1) with
      | some w1 => (match nmO (α := Int) ((xV t5 t6 t8 t7 t9 t11).2.1) with
        | some w2 => (match nmO (α := Int) ((xV t5 t6 t8 t7 t9 t11).2.2) with
          | some w3 => (match sixS t5 t6 t8 t7 t9 t11 with
            | true => (match nmO (α := Int) ((xV t5 t6 t8 t7 t9 t11).1) with
              | some w4 => (match nmO (α := Int) ((xV t5 t6 t8 t7 t9 t11).2.1) with
                | some w5 => (match nmO (α := Int) ((xV t5 t6 t8 t7 t9 t11).2.2) with
                  | some w6 => (match sixS t6 t5 t8 t9 t7 t11 with
                    | true => (match nmO (α := Int) ((xV t6 t5 t8 t9 t7 t11).1) with
                      | some w7 => (match nmO (α := Int) ((xV t6 t5 t8 t9 t7 t11).2.1) with
                        | some w8 => (match nmO (α := Int) ((xV t6 t5 t8 t9 t7 t11).2.2) with
                          | some w9 => (match w1 != w4 with
                            | true => (k0 t10 l0)
                            | false => (match w2 != w5 with
                              | true => (k0 t10 l0)
                              | false => (match w3 != w6 with
                                | true => (k0 t10 l0)
                                | false => (match w7 != w1 with
                                  | true => (k0 t10 l0)
                                  | false => (match w8 != w2 with
                                    | true => (k0 t10 l0)
                                    | false => (match w9 != w3 with
                                      | true => (k0 t10 l0)
                                      | false => (mr_sixB12 N k0 k1 M t5 t6 t7 t8 t9 (fop .add .f64 t10 (fop .quo .f64 (fop .mul .f64 (floatOfInt .f64 (IntKind.i64.wrap ((IntKind.i64.wrap (t8 + 1)) * (IntKind.i64.wrap (t11 + 1))))) (floatOfInt .f64 w2)) (floatOfInt .f64 w3))) (IntKind.i64.wrap (t11 + 1)) l0)))))))
                          | none => none)
                        | none => none)
                      | none => none)
                    | false => (match w1 != w4 with
                      | true => (k0 t10 l0)
                      | false => (match w2 != w5 with
                        | true => (k0 t10 l0)
                        | false => (match w3 != w6 with
                          | true => (k0 t10 l0)
                          | false => (k0 t10 l0)))))
                  | none => none)
                | none => none)
              | none => none)
            | false => (k0 t10 l0))
          | none => none)
        | none => none)
      | none => none)
    | false => (match sixS t5 t6 t8 t7 t9 t11 with
      | true => (match nmO (α := Int) ((xV t5 t6 t8 t7 t9 t11).1) with
        | some w10 => (match nmO (α := Int) ((xV t5 t6 t8 t7 t9 t11).2.1) with
          | some w11 => (match nmO (α := Int) ((xV t5 t6 t8 t7 t9 t11).2.2) with
            | some w12 => (k0 t10 l0)
            | none => none)
          | none => none)
        | none => none)
      | false => (mr_sixB12 N k0 k1 M t5 t6 t7 t8 t9 t10 (IntKind.i64.wrap (t11 + 1)) l0)))
  | false => (k1 t10 l0)) := by kernel_rfl
theorem H_sixB12 (N : Nat) : ∀ (M : Nat) (t5 : Int) (t6 : Int) (t7 : Int) (t8 : Int) (t9 : Int) (t10 : Nat) (t11 : Int) (l0 : List Int), lp_sixB12 N M (st_sixB12 t5 t6 t7 t8 t9 t10 t11 l0) (kt_sixB12 N (kEnd Try.f13 1)) = mr_sixB12 N (ce_sixB12_0 N) (ce_sixB12_1 N) M t5 t6 t7 t8 t9 t10 t11 l0 := by
  have he0 : ∀ (t10 : Nat) (l0 : List Int), kt_sixB12 N (kEnd Try.f13 1) .ret (en_sixB12_0 t10 l0) = ce_sixB12_0 N t10 l0 := by
    intro t10 l0
    rw [end_sixB12_0]
    unfold ce_sixB12_0
    first | simp only [] | rfl
  have he1 : ∀ (t10 : Nat) (l0 : List Int), kt_sixB12 N (kEnd Try.f13 1) (.exit 0) (en_sixB12_1 t10 l0) = ce_sixB12_1 N t10 l0 := by
    intro t10 l0
    rw [end_sixB12_1]
    unfold ce_sixB12_1
    first | simp only [] | rfl
  intro M
  induction M with
  | zero => intros; rfl
  | succ M ih =>
    intro t5 t6 t7 t8 t9 t10 t11 l0
    rw [step_sixB12]
    rw [mrs_sixB12]
    first | simp only [ih, he0, he1] | rfl
noncomputable def md_sixB (N : Nat) (n : Nat) (l0 : List Int) : Option (V × H) := (match nmO (α := Bool) (longB n 0) with
  | some w1 => (match w1 with
    | true => some (.bool true, [.at false (.int .u8 l0)])
    | false => (match atOk 0 [] 0 with
      | true => (match nmO (α := Int) (atF [] 0 4) with
        | some w2 => (match atOk 0 [] 1 with
          | true => (match nmO (α := Int) (atF [] 1 4) with
            | some w3 => (match atOk 0 [] 2 with
              | true => (match nmO (α := Int) (atF [] 2 4) with
                | some w4 => (match atOk 0 [] 3 with
                  | true => (match nmO (α := Int) (atF [] 3 (IntKind.i64.wrap ((if w3 < w2 then w3 else w2) + 1))) with
                    | some w5 => (match atOk 0 [] 4 with
                      | true => (match nmO (α := Int) (atF [] 4 (IntKind.i64.wrap ((if w4 < (IntKind.i64.wrap ((IntKind.i64.wrap (w2 + w3)) - (IntKind.i64.wrap (2 * w5)))) then w4 else IntKind.i64.wrap ((IntKind.i64.wrap (w2 + w3)) - (IntKind.i64.wrap (2 * w5)))) + 1))) with
                        | some w6 => (match decide ((IntKind.i64.wrap ((IntKind.i64.wrap ((IntKind.i64.wrap ((IntKind.i64.wrap (w2 + w3)) - (IntKind.i64.wrap (2 * w5)))) + w4)) - (IntKind.i64.wrap (2 * w6))) : Int) > 6) with
                          | true => some (.bool true, [.at false (.int .u8 l0)])
                          | false => (mr_sixB12 N (ce_sixB12_0 N) (ce_sixB12_1 N) N w2 w3 w4 (IntKind.i64.wrap ((IntKind.i64.wrap (w2 + w3)) - (IntKind.i64.wrap (2 * w5)))) (IntKind.i64.wrap ((IntKind.i64.wrap ((IntKind.i64.wrap ((IntKind.i64.wrap (w2 + w3)) - (IntKind.i64.wrap (2 * w5)))) + w4)) - (IntKind.i64.wrap (2 * w6)))) 0 0 l0))
                        | none => none)
                      | false => none)
                    | none => none)
                  | false => none)
                | none => none)
              | false => none)
            | none => none)
          | false => none)
        | none => none)
      | false => none))
  | none => none)
theorem mdl_sixB (N : Nat) (n : Nat) (l0 : List Int) : run ty tab_sixB an_sixB N Try.f13 [.sl 0 0 n, .nil] [.at false (.int .u8 l0)] = md_sixB N n l0 := by
  rw [run_sixB]
  unfold md_sixB
  first | simp only [H_sixB12 N N] | rfl

def an_sixC : Ann := ⟨fun r => if r = 12 then some ([5, 6, 7, 8, 9, 10, 11], [4, 10]) else none, fun _ _ => .quiet⟩
def tab_sixC : Fns := tabT [(57, gLong), (58, gAt), (54, gSix), (53, gSix), (61, gGap)]
theorem tabok_sixC : ∀ f, FnT Try.prog f (tab_sixC f) := (tabT_cons (k := 57) ok_Long (tabT_cons (k := 58) ok_At (tabT_cons (k := 54) ok_sxI (tabT_cons (k := 53) ok_sxS (tabT_cons (k := 61) ok_Gap tabT_nil)))))
def st_sixC12 (t5 : Int) (t6 : Int) (t7 : Int) (t8 : Int) (t9 : Int) (t10 : Nat) (t11 : Int) (l0 : List Int) : St := ⟨[.any, .any, .any, .any, .any, .int .i64 t5, .int .i64 t6, .int .i64 t7, .int .i64 t8, .int .i64 t9, .fl .f64 t10, .int .i64 t11, .any, .any, .any, .any, .any, .any, .any, .any, .any, .any, .any, .any, .any, .any, .any, .any, .any, .any, .any, .any, .any, .any, .any, .any, .any, .any, .any, .any, .any, .any, .any, .any, .any, .any, .any, .any, .any, .any, .any, .any, .any, .any, .any, .any, .any, .any, .any, .any, .any, .any, .any, .any, .any, .any, .any, .any, .any, .any, .any, .any, .any, .any, .any, .any, .any, .any, .any, .any, .any, .any, .any, .any, .any, .any, .any, .any, .any, .any, .any, .any, .any, .any, .any, .any, .any, .any, .any, .any, .any, .any, .any, .any, .any, .any, .any, .any, .any, .any, .any, .any, .any, .any, .any, .any, .any, .any, .any, .any, .any, .any, .any, .any, .any, .any, .any, .any, .any, .any, .any, .any, .any, .any, .any, .any, .any, .any, .any, .any, .any, .any, .any, .any, .any, .any, .any, .any, .any, .any, .any], [.at false (.int .u8 l0)]⟩
abbrev kp_sixC12 : Option (List Nat × List Nat) := some ([5, 6, 7, 8, 9, 10, 11], [4, 10])
noncomputable def lp_sixC12 {R : Type} (N M : Nat) (s : St) (K : X → St → Option R) : Option R := loopH 1 kp_sixC12 (fun st K => exec ty tab_sixC an_sixC N 1 (atOf [true, true, true, true, true, true, true, true, true, false, true, false, false] Try.f13) st K) M s K
noncomputable def bk_sixC12 {R : Type} (N M : Nat) (K : X → St → Option R) : X → St → Option R := fun x st => match x with | .norm => tidyK 1 (kp_sixC12.map (·.1)) st fun st => lp_sixC12 N M st K | x => tidyK 1 (kp_sixC12.map (·.2)) st fun st => K x st
noncomputable def kt_sixC12 {R : Type} (N : Nat) (K : X → St → Option R) : X → St → Option R := kBlkR 0 (kSeqR tab_sixC an_sixC N 1 (atOf [true, true, true, true, true, true, true, true, true, true] Try.f13) (K))
def en_sixC12_0 (t10 : Nat) (l0 : List Int) : St := ⟨[.any, .any, .any, .any, .bool false, .any, .any, .any, .any, .any, .fl .f64 t10, .any, .any, .any, .any, .any, .any, .any, .any, .any, .any, .any, .any, .any, .any, .any, .any, .any, .any, .any, .any, .any, .any, .any, .any, .any, .any, .any, .any, .any, .any, .any, .any, .any, .any, .any, .any, .any, .any, .any, .any, .any, .any, .any, .any, .any, .any, .any, .any, .any, .any, .any, .any, .any, .any, .any, .any, .any, .any, .any, .any, .any, .any, .any, .any, .any, .any, .any, .any, .any, .any, .any, .any, .any, .any, .any, .any, .any, .any, .any, .any, .any, .any, .any, .any, .any, .any, .any, .any, .any, .any, .any, .any, .any, .any, .any, .any, .any, .any, .any, .any, .any, .any, .any, .any, .any, .any, .any, .any, .any, .any, .any, .any, .any, .any, .any, .any, .any, .any, .any, .any, .any, .any, .any, .any, .any, .any, .any, .any, .any, .any, .any, .any, .any, .any, .any, .any, .any, .any, .any, .any], [.at false (.int .u8 l0)]⟩
def en_sixC12_1 (t10 : Nat) (l0 : List Int) : St := ⟨[.any, .any, .any, .any, .any, .any, .any, .any, .any, .any, .fl .f64 t10, .any, .any, .any, .any, .any, .any, .any, .any, .any, .any, .any, .any, .any, .any, .any, .any, .any, .any, .any, .any, .any, .any, .any, .any, .any, .any, .any, .any, .any, .any, .any, .any, .any, .any, .any, .any, .any, .any, .any, .any, .any, .any, .any, .any, .any, .any, .any, .any, .any, .any, .any, .any, .any, .any, .any, .any, .any, .any, .any, .any, .any, .any, .any, .any, .any, .any, .any, .any, .any, .any, .any, .any, .any, .any, .any, .any, .any, .any, .any, .any, .any, .any, .any, .any, .any, .any, .any, .any, .any, .any, .any, .any, .any, .any, .any, .any, .any, .any, .any, .any, .any, .any, .any, .any, .any, .any, .any, .any, .any, .any, .any, .any, .any, .any, .any, .any, .any, .any, .any, .any, .any, .any, .any, .any, .any, .any, .any, .any, .any, .any, .any, .any, .any, .any, .any, .any, .any, .any, .any, .any], [.at false (.int .u8 l0)]⟩
theorem run_sixC (N : Nat) (m : Nat) (l1 : List Int) : run ty tab_sixC an_sixC N Try.f13 [.nil, .sl 0 0 m] [.at false (.int .u8 l1)]
    = (match nmO (α := Bool) (longB 0 m) with
  | some w1 => (match w1 with
    | true => some (.bool true, [.at false (.int .u8 l1)])
    | false => (match atOk m l1 0 with
      | true => (match nmO (α := Int) (atF l1 0 4) with
        | some w2 => (match atOk m l1 1 with
          | true => (match nmO (α := Int) (atF l1 1 4) with
            | some w3 => (match atOk m l1 2 with
              | true => (match nmO (α := Int) (atF l1 2 4) with
                | some w4 => (match atOk m l1 3 with
                  | true => (match nmO (α := Int) (atF l1 3 (IntKind.i64.wrap ((if w3 < w2 then w3 else w2) + 1))) with
                    | some w5 => (match atOk m l1 4 with
                      | true => (match nmO (α := Int) (atF l1 4 (IntKind.i64.wrap ((if w4 < (IntKind.i64.wrap ((IntKind.i64.wrap (w2 + w3)) - (IntKind.i64.wrap (2 * w5)))) then w4 else IntKind.i64.wrap ((IntKind.i64.wrap (w2 + w3)) - (IntKind.i64.wrap (2 * w5)))) + 1))) with
                        | some w6 => (match decide ((IntKind.i64.wrap ((IntKind.i64.wrap ((IntKind.i64.wrap ((IntKind.i64.wrap (w2 + w3)) - (IntKind.i64.wrap (2 * w5)))) + w4)) - (IntKind.i64.wrap (2 * w6))) : Int) > 6) with
                          | true => some (.bool true, [.at false (.int .u8 l1)])
                          | false => lp_sixC12 N N (st_sixC12 w2 w3 w4 (IntKind.i64.wrap ((IntKind.i64.wrap (w2 + w3)) - (IntKind.i64.wrap (2 * w5)))) (IntKind.i64.wrap ((IntKind.i64.wrap ((IntKind.i64.wrap ((IntKind.i64.wrap (w2 + w3)) - (IntKind.i64.wrap (2 * w5)))) + w4)) - (IntKind.i64.wrap (2 * w6)))) 0 0 l1) (kt_sixC12 N (kEnd Try.f13 1)))
                        | none => none)
                      | false => none)
                    | none => none)
                  | false => none)
                | none => none)
              | false => none)
            | none => none)
          | false => none)
        | none => none)
      | false => none))
  | none => none) := by
  kernel_rfl
theorem step_sixC12 {R : Type} (N M : Nat) (K : X → St → Option R) (t5 : Int) (t6 : Int) (t7 : Int) (t8 : Int) (t9 : Int) (t10 : Nat) (t11 : Int) (l0 : List Int) : lp_sixC12 N (M + 1) (st_sixC12 t5 t6 t7 t8 t9 t10 t11 l0) K
    = (match decide ((t11 : Int) ≤ 6) with
  | true => (match sixS t5 t6 t8 t7 t9 t11 with
    | true => (match nmO (α := Int) ((xV t5 t6 t8 t7 t9 t11).1) with
      | some w1 => (match nmO (α := Int) ((xV t5 t6 t8 t7 t9 t11).2.1) with
        | some w2 => (match nmO (α := Int) ((xV t5 t6 t8 t7 t9 t11).2.2) with
          | some w3 => (match sixS t5 t6 t8 t7 t9 t11 with
            | true => (match nmO (α := Int) ((xV t5 t6 t8 t7 t9 t11).1) with
              | some w4 => (match nmO (α := Int) ((xV t5 t6 t8 t7 t9 t11).2.1) with
                | some w5 => (match nmO (α := Int) ((xV t5 t6 t8 t7 t9 t11).2.2) with
                  | some w6 => (match sixS t6 t5 t8 t9 t7 t11 with
                    | true => (match nmO (α := Int) ((xV t6 t5 t8 t9 t7 t11).1) with
                      | some w7 => (match nmO (α := Int) ((xV t6 t5 t8 t9 t7 t11).2.1) with
                        | some w8 => (match nmO (α := Int) ((xV t6 t5 t8 t9 t7 t11).2.2) with
                          | some w9 => (match w1 != w4 with
                            | true => K .ret (en_sixC12_0 t10 l0)
                            | false => (match w2 != w5 with
                              | true => K .ret (en_sixC12_0 t10 l0)
                              | false => (match w3 != w6 with
                                | true => K .ret (en_sixC12_0 t10 l0)
                                | false => (match w7 != w1 with
                                  | true => K .ret (en_sixC12_0 t10 l0)
                                  | false => (match w8 != w2 with
                                    | true => K .ret (en_sixC12_0 t10 l0)
                                    | false => (match w9 != w3 with
                                      | true => K .ret (en_sixC12_0 t10 l0)
                                      | false => lp_sixC12 N M (st_sixC12 t5 t6 t7 t8 t9 (fop .add .f64 t10 (fop .quo .f64 (fop .mul .f64 (floatOfInt .f64 (IntKind.i64.wrap ((IntKind.i64.wrap (t8 + 1)) * (IntKind.i64.wrap (t11 + 1))))) (floatOfInt .f64 w2)) (floatOfInt .f64 w3))) (IntKind.i64.wrap (t11 + 1)) l0) K))))))
                          | none => none)
                        | none => none)
                      | none => none)
                    | false => (match w1 != w4 with
                      | true => K .ret (en_sixC12_0 t10 l0)
                      | false => (match w2 != w5 with
                        | true => K .ret (en_sixC12_0 t10 l0)
                        | false => (match w3 != w6 with
                          | true => K .ret (en_sixC12_0 t10 l0)
                          | false => K .ret (en_sixC12_0 t10 l0)))))
                  | none => none)
                | none => none)
              | none => none)
            | false => K .ret (en_sixC12_0 t10 l0))
          | none => none)
        | none => none)
      | none => none)
    | false => (match sixS t5 t6 t8 t7 t9 t11 with
      | true => (match nmO (α := Int) ((xV t5 t6 t8 t7 t9 t11).1) with
        | some w10 => (match nmO (α := Int) ((xV t5 t6 t8 t7 t9 t11).2.1) with
          | some w11 => (match nmO (α := Int) ((xV t5 t6 t8 t7 t9 t11).2.2) with
            | some w12 => K .ret (en_sixC12_0 t10 l0)
            | none => none)
          | none => none)
        | none => none)
      | false => lp_sixC12 N M (st_sixC12 t5 t6 t7 t8 t9 t10 (IntKind.i64.wrap (t11 + 1)) l0) K))
  | false => K (.exit 0) (en_sixC12_1 t10 l0)) := by
  kernel_rfl
theorem end_sixC12_0 (N : Nat) (t10 : Nat) (l0 : List Int) : kt_sixC12 N (kEnd Try.f13 1) .ret (en_sixC12_0 t10 l0)
    = some (.bool false, [.at false (.int .u8 l0)]) := by
  kernel_rfl
theorem end_sixC12_1 (N : Nat) (t10 : Nat) (l0 : List Int) : kt_sixC12 N (kEnd Try.f13 1) (.exit 0) (en_sixC12_1 t10 l0)
    = (match nmO (α := Nat) (gapD t10 4607182418800017408) with
  | some w1 => some (.bool (ltD w1 4562254508917369340), [.at false (.int .u8 l0)])
  | none => none) := by
  kernel_rfl

noncomputable def ce_sixC12_0 (N : Nat) (t10 : Nat) (l0 : List Int) : Option (V × H) := some (.bool false, [.at false (.int .u8 l0)])
noncomputable def ce_sixC12_1 (N : Nat) (t10 : Nat) (l0 : List Int) : Option (V × H) := (match nmO (α := Nat) (gapD t10 4607182418800017408) with
  | some w1 => some (.bool (ltD w1 4562254508917369340), [.at false (.int .u8 l0)])
  | none => none)
noncomputable def mr_sixC12 (N : Nat) (k0 : Nat → List Int → Option (V × H)) (k1 : Nat → List Int → Option (V × H)) (M : Nat) : Int → Int → Int → Int → Int → Nat → Int → List Int → Option (V × H) := Nat.rec (motive := fun _ => Int → Int → Int → Int → Int → Nat → Int → List Int → Option (V × H)) (fun (_ : Int) (_ : Int) (_ : Int) (_ : Int) (_ : Int) (_ : Nat) (_ : Int) (_ : List Int) => none) (fun _ rq => fun (t5 : Int) (t6 : Int) (t7 : Int) (t8 : Int) (t9 : Int) (t10 : Nat) (t11 : Int) (l0 : List Int) => (match decide ((t11 : Int) ≤ 6) with
  | true => (match sixS t5 t6 t8 t7 t9 t11 with
    | true => (match nmO (α := Int) ((xV t5 t6 t8 t7 t9 t11).1) with
      | some w1 => (match nmO (α := Int) ((xV t5 t6 t8 t7 t9 t11).2.1) with
        | some w2 => (match nmO (α := Int) ((xV t5 t6 t8 t7 t9 t11).2.2) with
          | some w3 => (match sixS t5 t6 t8 t7 t9 t11 with
            | true => (match nmO (α := Int) ((xV t5 t6 t8 t7 t9 t11).1) with
              | some w4 => (match nmO (α := Int) ((xV t5 t6 t8 t7 t9 t11).2.1) with
                | some w5 => (match nmO (α := Int) ((xV t5 t6 t8 t7 t9 t11).2.2) with
                  | some w6 => (match sixS t6 t5 t8 t9 t7 t11 with
                    | true => (match nmO (α := Int) ((xV t6 t5 t8 t9 t7 t11).1) with
                      | some w7 => (match nmO (α := Int) ((xV t6 t5 t8 t9 t7 t11).2.1) with
                        | some w8 => (match nmO (α := Int) ((xV t6 t5 t8 t9 t7 t11).2.2) with
                          | some w9 => (match w1 != w4 with
                            | true => (k0 t10 l0)
                            | false => (match w2 != w5 with
                              | true => (k0 t10 l0)
                              | false => (match w3 != w6 with
                                | true => (k0 t10 l0)
                                | false => (match w7 != w1 with
                                  | true => (k0 t10 l0)
                                  | false => (match w8 != w2 with
                                    | true => (k0 t10 l0)
                                    | false => (match w9 != w3 with
                                      | true => (k0 t10 l0)
                                      | false => (rq t5 t6 t7 t8 t9 (fop .add .f64 t10 (fop .quo .f64 (fop .mul .f64 (floatOfInt .f64 (IntKind.i64.wrap ((IntKind.i64.wrap (t8 + 1)) * (IntKind.i64.wrap (t11 + 1))))) (floatOfInt .f64 w2)) (floatOfInt .f64 w3))) (IntKind.i64.wrap (t11 + 1)) l0)))))))
                          | none => none)
                        | none => none)
                      | none => none)
                    | false => (match w1 != w4 with
                      | true => (k0 t10 l0)
                      | false => (match w2 != w5 with
                        | true => (k0 t10 l0)
                        | false => (match w3 != w6 with
                          | true => (k0 t10 l0)
                          | false => (k0 t10 l0)))))
                  | none => none)
                | none => none)
              | none => none)
            | false => (k0 t10 l0))
          | none => none)
        | none => none)
      | none => none)
    | false => (match sixS t5 t6 t8 t7 t9 t11 with
      | true => (match nmO (α := Int) ((xV t5 t6 t8 t7 t9 t11).1) with
        | some w10 => (match nmO (α := Int) ((xV t5 t6 t8 t7 t9 t11).2.1) with
          | some w11 => (match nmO (α := Int) ((xV t5 t6 t8 t7 t9 t11).2.2) with
            | some w12 => (k0 t10 l0)
            | none => none)
          | none => none)
        | none => none)
      | false => (rq t5 t6 t7 t8 t9 t10 (IntKind.i64.wrap (t11 + 1)) l0)))
  | false => (k1 t10 l0))) M
theorem mrs_sixC12 (N : Nat) (k0 : Nat → List Int → Option (V × H)) (k1 : Nat → List Int → Option (V × H)) (M : Nat) (t5 : Int) (t6 : Int) (t7 : Int) (t8 : Int) (t9 : Int) (t10 : Nat) (t11 : Int) (l0 : List Int) : mr_sixC12 N k0 k1 (M + 1) t5 t6 t7 t8 t9 t10 t11 l0 = (match decide ((t11 : Int) ≤ 6) with
  | true => (match sixS t5 t6 t8 t7 t9 t11 with
    | true => (match nmO (α := Int) ((xV t5 t6 t8 t7 t9 t11).1) with
      | some w1 => (match nmO (α := Int) ((xV t5 t6 t8 t7 t9 t11).2.1) with
        | some w2 => (match nmO (α := Int) ((xV t5 t6 t8 t7 t9 t11).2.2) with
          | some w3 => (match sixS t5 t6 t8 t7 t9 t11 with
            | true => (match nmO (α := Int) ((xV t5 t6 t8 t7 t9 t11).1) with
              | some w4 => (match nmO (α := Int) ((xV t5 t6 t8 t7 t9 t11).2.1) with
                | some w5 => (match nmO (α := Int) ((xV t5 t6 t8 t7 t9 t11).2.2) with
                  | some w6 => (match sixS t6 t5 t8 t9 t7 t11 with
                    | true => (match nmO (α := Int) ((xV t6 t5 t8 t9 t7 t11).1) with
                      | some w7 => (match nmO (α := Int) ((xV t6 t5 t8 t9 t7 t11).2.1) with
                        | some w8 => (match nmO (α := Int) ((xV t6 t5 t8 t9 t7 t11).2.2) with
                          | some w9 => (match w1 != w4 with
                            | true => (k0 t10 l0)
                            | false => (match w2 != w5 with
                              | true => (k0 t10 l0)
                              | false => (match w3 != w6 with
                                | true => (k0 t10 l0)
                                | false => (match w7 != w1 with
                                  | true => (k0 t10 l0)
                                  | false => (match w8 != w2 with
                                    | true => (k0 t10 l0)
                                    | false => (match w9 != w3 with
                                      | true => (k0 t10 l0)
                                      | false => (mr_sixC12 N k0 k1 M t5 t6 t7 t8 t9 (fop .add .f64 t10 (fop .quo .f64 (fop .mul .f64 (floatOfInt .f64 (IntKind.i64.wrap ((IntKind.i64.wrap (t8 + 1)) * (IntKind.i64.wrap (t11 + 1))))) (floatOfInt .f64 w2)) (floatOfInt .f64 w3))) (IntKind.i64.wrap (t11 + 1)) l0)))))))
                          | none => none)
                        | none => none)
                      | none => none)
                    | false => (match w1 != w4 with
                      | true => (k0 t10 l0)
                      | false => (match w2 != w5 with
                        | true => (k0 t10 l0)
                        | false => (match w3 != w6 with
                          | true => (k0 t10 l0)
                          | false => (k0 t10 l0)))))
                  | none => none)
                | none => none)
              | none => none)
            | false => (k0 t10 l0))
          | none => none)
        | none => none)
      | none => none)
    | false => (match sixS t5 t6 t8 t7 t9 t11 with
      | true => (match nmO (α := Int) ((xV t5 t6 t8 t7 t9 t11).1) with
        | some w10 => (match nmO (α := Int) ((xV t5 t6 t8 t7 t9 t11).2.1) with
          | some w11 => (match nmO (α := Int) ((xV t5 t6 t8 t7 t9 t11).2.2) with
            | some w12 => (k0 t10 l0)
            | none => none)
          | none => none)
        | none => none)
      | false => (mr_sixC12 N k0 k1 M t5 t6 t7 t8 t9 t10 (IntKind.i64.wrap (t11 + 1)) l0)))
  | false => (k1 t10 l0)) := by kernel_rfl
theorem H_sixC12 (N : Nat) : ∀ (M : Nat) (t5 : Int) (t6 : Int) (t7 : Int) (t8 : Int) (t9 : Int) (t10 : Nat) (t11 : Int) (l0 : List Int), lp_sixC12 N M (st_sixC12 t5 t6 t7 t8 t9 t10 t11 l0) (kt_sixC12 N (kEnd Try.f13 1)) = mr_sixC12 N (ce_sixC12_0 N) (ce_sixC12_1 N) M t5 t6 t7 t8 t9 t10 t11 l0 := by
  have he0 : ∀ (t10 : Nat) (l0 : List Int), kt_sixC12 N (kEnd Try.f13 1) .ret (en_sixC12_0 t10 l0) = ce_sixC12_0 N t10 l0 := by
    intro t10 l0
    rw [end_sixC12_0]
    unfold ce_sixC12_0
    first | simp only [] | rfl
  have he1 : ∀ (t10 : Nat) (l0 : List Int), kt_sixC12 N (kEnd Try.f13 1) (.exit 0) (en_sixC12_1 t10 l0) = ce_sixC12_1 N t10 l0 := by
    intro t10 l0
    rw [end_sixC12_1]
    unfold ce_sixC12_1
    first | simp only [] | rfl
  intro M
  induction M with
  | zero => intros; rfl
  | succ M ih =>
    intro t5 t6 t7 t8 t9 t10 t11 l0
    rw [step_sixC12]
    rw [mrs_sixC12]
    first | simp only [ih, he0, he1] | rfl
noncomputable def md_sixC (N : Nat) (m : Nat) (l1 : List Int) : Option (V × H) := (match nmO (α := Bool) (longB 0 m) with
  | some w1 => (match w1 with
    | true => some (.bool true, [.at false (.int .u8 l1)])
    | false => (match atOk m l1 0 with
      | true => (match nmO (α := Int) (atF l1 0 4) with
        | some w2 => (match atOk m l1 1 with
          | true => (match nmO (α := Int) (atF l1 1 4) with
            | some w3 => (match atOk m l1 2 with
              | true => (match nmO (α := Int) (atF l1 2 4) with
                | some w4 => (match atOk m l1 3 with
                  | true => (match nmO (α := Int) (atF l1 3 (IntKind.i64.wrap ((if w3 < w2 then w3 else w2) + 1))) with
                    | some w5 => (match atOk m l1 4 with
                      | true => (match nmO (α := Int) (atF l1 4 (IntKind.i64.wrap ((if w4 < (IntKind.i64.wrap ((IntKind.i64.wrap (w2 + w3)) - (IntKind.i64.wrap (2 * w5)))) then w4 else IntKind.i64.wrap ((IntKind.i64.wrap (w2 + w3)) - (IntKind.i64.wrap (2 * w5)))) + 1))) with
                        | some w6 => (match decide ((IntKind.i64.wrap ((IntKind.i64.wrap ((IntKind.i64.wrap ((IntKind.i64.wrap (w2 + w3)) - (IntKind.i64.wrap (2 * w5)))) + w4)) - (IntKind.i64.wrap (2 * w6))) : Int) > 6) with
                          | true => some (.bool true, [.at false (.int .u8 l1)])
                          | false => (mr_sixC12 N (ce_sixC12_0 N) (ce_sixC12_1 N) N w2 w3 w4 (IntKind.i64.wrap ((IntKind.i64.wrap (w2 + w3)) - (IntKind.i64.wrap (2 * w5)))) (IntKind.i64.wrap ((IntKind.i64.wrap ((IntKind.i64.wrap ((IntKind.i64.wrap (w2 + w3)) - (IntKind.i64.wrap (2 * w5)))) + w4)) - (IntKind.i64.wrap (2 * w6)))) 0 0 l1))
                        | none => none)
                      | false => none)
                    | none => none)
                  | false => none)
                | none => none)
              | false => none)
            | none => none)
          | false => none)
        | none => none)
      | false => none))
  | none => none)
theorem mdl_sixC (N : Nat) (m : Nat) (l1 : List Int) : run ty tab_sixC an_sixC N Try.f13 [.nil, .sl 0 0 m] [.at false (.int .u8 l1)] = md_sixC N m l1 := by
  rw [run_sixC]
  unfold md_sixC
  first | simp only [H_sixC12 N N] | rfl

theorem tr_sixA12 (N : Nat) (k0 : Nat → List Int → List Int → Option (V × H)) (k1 : Nat → List Int → List Int → Option (V × H)) : ∀ (M : Nat) (t5 : Int) (t6 : Int) (t7 : Int) (t8 : Int) (t9 : Int) (t10 : Nat) (t11 : Int) (l0 : List Int) (l1 : List Int), mr_sixA12 N k0 k1 M t5 t6 t7 t8 t9 t10 t11 l0 l1 = mr_sixD12 N (fun t10 => k0 t10 l0 l1) (fun t10 => k1 t10 l0 l1) M t5 t6 t7 t8 t9 t10 t11 := by
  intro M
  induction M with
  | zero => intros; rfl
  | succ M ih =>
    intro t5 t6 t7 t8 t9 t10 t11 l0 l1
    rw [mrs_sixA12, mrs_sixD12]
    simp only [ih]
theorem tr_sixB12 (N : Nat) (k0 : Nat → List Int → Option (V × H)) (k1 : Nat → List Int → Option (V × H)) : ∀ (M : Nat) (t5 : Int) (t6 : Int) (t7 : Int) (t8 : Int) (t9 : Int) (t10 : Nat) (t11 : Int) (l0 : List Int), mr_sixB12 N k0 k1 M t5 t6 t7 t8 t9 t10 t11 l0 = mr_sixD12 N (fun t10 => k0 t10 l0) (fun t10 => k1 t10 l0) M t5 t6 t7 t8 t9 t10 t11 := by
  intro M
  induction M with
  | zero => intros; rfl
  | succ M ih =>
    intro t5 t6 t7 t8 t9 t10 t11 l0
    rw [mrs_sixB12, mrs_sixD12]
    simp only [ih]
theorem tr_sixC12 (N : Nat) (k0 : Nat → List Int → Option (V × H)) (k1 : Nat → List Int → Option (V × H)) : ∀ (M : Nat) (t5 : Int) (t6 : Int) (t7 : Int) (t8 : Int) (t9 : Int) (t10 : Nat) (t11 : Int) (l0 : List Int), mr_sixC12 N k0 k1 M t5 t6 t7 t8 t9 t10 t11 l0 = mr_sixD12 N (fun t10 => k0 t10 l0) (fun t10 => k1 t10 l0) M t5 t6 t7 t8 t9 t10 t11 := by
  intro M
  induction M with
  | zero => intros; rfl
  | succ M ih =>
    intro t5 t6 t7 t8 t9 t10 t11 l0
    rw [mrs_sixC12, mrs_sixD12]
    simp only [ih]
noncomputable def ch_sixD12_0 (hh : H) (t10 : Nat) : Option (V × H) := some (.bool false, hh)
noncomputable def ch_sixD12_1 (hh : H) (t10 : Nat) : Option (V × H) := (match nmO (α := Nat) (gapD t10 4607182418800017408) with
  | some w1 => some (.bool (ltD w1 4562254508917369340), hh)
  | none => none)
def sixB (w2 w3 w4 w5 w6 : Int) (hh : H) : Option (V × H) := (match decide ((IntKind.i64.wrap ((IntKind.i64.wrap ((IntKind.i64.wrap ((IntKind.i64.wrap (w2 + w3)) - (IntKind.i64.wrap (2 * w5)))) + w4)) - (IntKind.i64.wrap (2 * w6))) : Int) > 6) with
  | true => some (.bool true, hh)
  | false => (mr_sixD12 40 (ch_sixD12_0 hh) (ch_sixD12_1 hh) 40 w2 w3 w4 (IntKind.i64.wrap ((IntKind.i64.wrap (w2 + w3)) - (IntKind.i64.wrap (2 * w5)))) (IntKind.i64.wrap ((IntKind.i64.wrap ((IntKind.i64.wrap ((IntKind.i64.wrap (w2 + w3)) - (IntKind.i64.wrap (2 * w5)))) + w4)) - (IntKind.i64.wrap (2 * w6)))) 0 0))
end

theorem sixB_0_0_0_0_0 (hh : H) : sixB 0 0 0 0 0 hh = some (.bool true, hh) := by kernel_rfl
theorem sixB_0_0_1_0_0 (hh : H) : sixB 0 0 1 0 0 hh = some (.bool true, hh) := by kernel_rfl
theorem sixB_0_0_2_0_0 (hh : H) : sixB 0 0 2 0 0 hh = some (.bool true, hh) := by kernel_rfl
theorem sixB_0_0_3_0_0 (hh : H) : sixB 0 0 3 0 0 hh = some (.bool true, hh) := by kernel_rfl
theorem sixB_0_1_0_0_0 (hh : H) : sixB 0 1 0 0 0 hh = some (.bool true, hh) := by kernel_rfl
theorem sixB_0_1_1_0_0 (hh : H) : sixB 0 1 1 0 0 hh = some (.bool true, hh) := by kernel_rfl
theorem sixB_0_1_1_0_1 (hh : H) : sixB 0 1 1 0 1 hh = some (.bool true, hh) := by kernel_rfl
theorem sixB_0_1_2_0_0 (hh : H) : sixB 0 1 2 0 0 hh = some (.bool true, hh) := by kernel_rfl
theorem sixB_0_1_2_0_1 (hh : H) : sixB 0 1 2 0 1 hh = some (.bool true, hh) := by kernel_rfl
theorem sixB_0_1_3_0_0 (hh : H) : sixB 0 1 3 0 0 hh = some (.bool true, hh) := by kernel_rfl
theorem sixB_0_1_3_0_1 (hh : H) : sixB 0 1 3 0 1 hh = some (.bool true, hh) := by kernel_rfl
theorem sixB_0_2_0_0_0 (hh : H) : sixB 0 2 0 0 0 hh = some (.bool true, hh) := by kernel_rfl
theorem sixB_0_2_1_0_0 (hh : H) : sixB 0 2 1 0 0 hh = some (.bool true, hh) := by kernel_rfl
theorem sixB_0_2_1_0_1 (hh : H) : sixB 0 2 1 0 1 hh = some (.bool true, hh) := by kernel_rfl
theorem sixB_0_2_2_0_0 (hh : H) : sixB 0 2 2 0 0 hh = some (.bool true, hh) := by kernel_rfl
theorem sixB_0_2_2_0_1 (hh : H) : sixB 0 2 2 0 1 hh = some (.bool true, hh) := by kernel_rfl
theorem sixB_0_2_2_0_2 (hh : H) : sixB 0 2 2 0 2 hh = some (.bool true, hh) := by kernel_rfl
theorem sixB_0_2_3_0_0 (hh : H) : sixB 0 2 3 0 0 hh = some (.bool true, hh) := by kernel_rfl
theorem sixB_0_2_3_0_1 (hh : H) : sixB 0 2 3 0 1 hh = some (.bool true, hh) := by kernel_rfl
theorem sixB_0_2_3_0_2 (hh : H) : sixB 0 2 3 0 2 hh = some (.bool true, hh) := by kernel_rfl
theorem sixB_0_3_0_0_0 (hh : H) : sixB 0 3 0 0 0 hh = some (.bool true, hh) := by kernel_rfl
theorem sixB_0_3_1_0_0 (hh : H) : sixB 0 3 1 0 0 hh = some (.bool true, hh) := by kernel_rfl
theorem sixB_0_3_1_0_1 (hh : H) : sixB 0 3 1 0 1 hh = some (.bool true, hh) := by kernel_rfl
theorem sixB_0_3_2_0_0 (hh : H) : sixB 0 3 2 0 0 hh = some (.bool true, hh) := by kernel_rfl
theorem sixB_0_3_2_0_1 (hh : H) : sixB 0 3 2 0 1 hh = some (.bool true, hh) := by kernel_rfl
theorem sixB_0_3_2_0_2 (hh : H) : sixB 0 3 2 0 2 hh = some (.bool true, hh) := by kernel_rfl
theorem sixB_0_3_3_0_0 (hh : H) : sixB 0 3 3 0 0 hh = some (.bool true, hh) := by kernel_rfl
theorem sixB_0_3_3_0_1 (hh : H) : sixB 0 3 3 0 1 hh = some (.bool true, hh) := by kernel_rfl
theorem sixB_0_3_3_0_2 (hh : H) : sixB 0 3 3 0 2 hh = some (.bool true, hh) := by kernel_rfl
theorem sixB_0_3_3_0_3 (hh : H) : sixB 0 3 3 0 3 hh = some (.bool true, hh) := by kernel_rfl

theorem sixB_1_0_0_0_0 (hh : H) : sixB 1 0 0 0 0 hh = some (.bool true, hh) := by kernel_rfl
theorem sixB_1_0_1_0_0 (hh : H) : sixB 1 0 1 0 0 hh = some (.bool true, hh) := by kernel_rfl
theorem sixB_1_0_1_0_1 (hh : H) : sixB 1 0 1 0 1 hh = some (.bool true, hh) := by kernel_rfl
theorem sixB_1_0_2_0_0 (hh : H) : sixB 1 0 2 0 0 hh = some (.bool true, hh) := by kernel_rfl
theorem sixB_1_0_2_0_1 (hh : H) : sixB 1 0 2 0 1 hh = some (.bool true, hh) := by kernel_rfl
theorem sixB_1_0_3_0_0 (hh : H) : sixB 1 0 3 0 0 hh = some (.bool true, hh) := by kernel_rfl
theorem sixB_1_0_3_0_1 (hh : H) : sixB 1 0 3 0 1 hh = some (.bool true, hh) := by kernel_rfl
theorem sixB_1_1_0_0_0 (hh : H) : sixB 1 1 0 0 0 hh = some (.bool true, hh) := by kernel_rfl
theorem sixB_1_1_0_1_0 (hh : H) : sixB 1 1 0 1 0 hh = some (.bool true, hh) := by kernel_rfl
theorem sixB_1_1_1_0_0 (hh : H) : sixB 1 1 1 0 0 hh = some (.bool true, hh) := by kernel_rfl
theorem sixB_1_1_1_0_1 (hh : H) : sixB 1 1 1 0 1 hh = some (.bool true, hh) := by kernel_rfl
theorem sixB_1_1_1_1_0 (hh : H) : sixB 1 1 1 1 0 hh = some (.bool true, hh) := by kernel_rfl
theorem sixB_1_1_2_0_0 (hh : H) : sixB 1 1 2 0 0 hh = some (.bool true, hh) := by kernel_rfl
theorem sixB_1_1_2_0_1 (hh : H) : sixB 1 1 2 0 1 hh = some (.bool true, hh) := by kernel_rfl
theorem sixB_1_1_2_0_2 (hh : H) : sixB 1 1 2 0 2 hh = some (.bool true, hh) := by kernel_rfl
theorem sixB_1_1_2_1_0 (hh : H) : sixB 1 1 2 1 0 hh = some (.bool true, hh) := by kernel_rfl
theorem sixB_1_1_3_0_0 (hh : H) : sixB 1 1 3 0 0 hh = some (.bool true, hh) := by kernel_rfl
theorem sixB_1_1_3_0_1 (hh : H) : sixB 1 1 3 0 1 hh = some (.bool true, hh) := by kernel_rfl
theorem sixB_1_1_3_0_2 (hh : H) : sixB 1 1 3 0 2 hh = some (.bool true, hh) := by kernel_rfl
theorem sixB_1_1_3_1_0 (hh : H) : sixB 1 1 3 1 0 hh = some (.bool true, hh) := by kernel_rfl
theorem sixB_1_2_0_0_0 (hh : H) : sixB 1 2 0 0 0 hh = some (.bool true, hh) := by kernel_rfl
theorem sixB_1_2_0_1_0 (hh : H) : sixB 1 2 0 1 0 hh = some (.bool true, hh) := by kernel_rfl
theorem sixB_1_2_1_0_0 (hh : H) : sixB 1 2 1 0 0 hh = some (.bool true, hh) := by kernel_rfl
theorem sixB_1_2_1_0_1 (hh : H) : sixB 1 2 1 0 1 hh = some (.bool true, hh) := by kernel_rfl
theorem sixB_1_2_1_1_0 (hh : H) : sixB 1 2 1 1 0 hh = some (.bool true, hh) := by kernel_rfl
theorem sixB_1_2_1_1_1 (hh : H) : sixB 1 2 1 1 1 hh = some (.bool true, hh) := by kernel_rfl
theorem sixB_1_2_2_0_0 (hh : H) : sixB 1 2 2 0 0 hh = some (.bool true, hh) := by kernel_rfl
theorem sixB_1_2_2_0_1 (hh : H) : sixB 1 2 2 0 1 hh = some (.bool true, hh) := by kernel_rfl
theorem sixB_1_2_2_0_2 (hh : H) : sixB 1 2 2 0 2 hh = some (.bool true, hh) := by kernel_rfl
theorem sixB_1_2_2_1_0 (hh : H) : sixB 1 2 2 1 0 hh = some (.bool true, hh) := by kernel_rfl
theorem sixB_1_2_2_1_1 (hh : H) : sixB 1 2 2 1 1 hh = some (.bool true, hh) := by kernel_rfl
theorem sixB_1_2_3_0_0 (hh : H) : sixB 1 2 3 0 0 hh = some (.bool true, hh) := by kernel_rfl
theorem sixB_1_2_3_0_1 (hh : H) : sixB 1 2 3 0 1 hh = some (.bool true, hh) := by kernel_rfl
theorem sixB_1_2_3_0_2 (hh : H) : sixB 1 2 3 0 2 hh = some (.bool true, hh) := by kernel_rfl
theorem sixB_1_2_3_0_3 (hh : H) : sixB 1 2 3 0 3 hh = some (.bool true, hh) := by kernel_rfl
theorem sixB_1_2_3_1_0 (hh : H) : sixB 1 2 3 1 0 hh = some (.bool true, hh) := by kernel_rfl
theorem sixB_1_2_3_1_1 (hh : H) : sixB 1 2 3 1 1 hh = some (.bool true, hh) := by kernel_rfl
theorem sixB_1_3_0_0_0 (hh : H) : sixB 1 3 0 0 0 hh = some (.bool true, hh) := by kernel_rfl
theorem sixB_1_3_0_1_0 (hh : H) : sixB 1 3 0 1 0 hh = some (.bool true, hh) := by kernel_rfl
theorem sixB_1_3_1_0_0 (hh : H) : sixB 1 3 1 0 0 hh = some (.bool true, hh) := by kernel_rfl
theorem sixB_1_3_1_0_1 (hh : H) : sixB 1 3 1 0 1 hh = some (.bool true, hh) := by kernel_rfl
theorem sixB_1_3_1_1_0 (hh : H) : sixB 1 3 1 1 0 hh = some (.bool true, hh) := by kernel_rfl
theorem sixB_1_3_1_1_1 (hh : H) : sixB 1 3 1 1 1 hh = some (.bool true, hh) := by kernel_rfl
theorem sixB_1_3_2_0_0 (hh : H) : sixB 1 3 2 0 0 hh = some (.bool true, hh) := by kernel_rfl
theorem sixB_1_3_2_0_1 (hh : H) : sixB 1 3 2 0 1 hh = some (.bool true, hh) := by kernel_rfl
theorem sixB_1_3_2_0_2 (hh : H) : sixB 1 3 2 0 2 hh = some (.bool true, hh) := by kernel_rfl
theorem sixB_1_3_2_1_0 (hh : H) : sixB 1 3 2 1 0 hh = some (.bool true, hh) := by kernel_rfl
theorem sixB_1_3_2_1_1 (hh : H) : sixB 1 3 2 1 1 hh = some (.bool true, hh) := by kernel_rfl
theorem sixB_1_3_2_1_2 (hh : H) : sixB 1 3 2 1 2 hh = some (.bool true, hh) := by kernel_rfl
theorem sixB_1_3_3_0_0 (hh : H) : sixB 1 3 3 0 0 hh = some (.bool true, hh) := by kernel_rfl
theorem sixB_1_3_3_0_1 (hh : H) : sixB 1 3 3 0 1 hh = some (.bool true, hh) := by kernel_rfl
theorem sixB_1_3_3_0_2 (hh : H) : sixB 1 3 3 0 2 hh = some (.bool true, hh) := by kernel_rfl
theorem sixB_1_3_3_0_3 (hh : H) : sixB 1 3 3 0 3 hh = some (.bool true, hh) := by kernel_rfl
theorem sixB_1_3_3_1_0 (hh : H) : sixB 1 3 3 1 0 hh = some (.bool true, hh) := by kernel_rfl
theorem sixB_1_3_3_1_1 (hh : H) : sixB 1 3 3 1 1 hh = some (.bool true, hh) := by kernel_rfl
theorem sixB_1_3_3_1_2 (hh : H) : sixB 1 3 3 1 2 hh = some (.bool true, hh) := by kernel_rfl

theorem sixB_2_0_0_0_0 (hh : H) : sixB 2 0 0 0 0 hh = some (.bool true, hh) := by kernel_rfl
theorem sixB_2_0_1_0_0 (hh : H) : sixB 2 0 1 0 0 hh = some (.bool true, hh) := by kernel_rfl
theorem sixB_2_0_1_0_1 (hh : H) : sixB 2 0 1 0 1 hh = some (.bool true, hh) := by kernel_rfl
theorem sixB_2_0_2_0_0 (hh : H) : sixB 2 0 2 0 0 hh = some (.bool true, hh) := by kernel_rfl
theorem sixB_2_0_2_0_1 (hh : H) : sixB 2 0 2 0 1 hh = some (.bool true, hh) := by kernel_rfl
theorem sixB_2_0_2_0_2 (hh : H) : sixB 2 0 2 0 2 hh = some (.bool true, hh) := by kernel_rfl
theorem sixB_2_0_3_0_0 (hh : H) : sixB 2 0 3 0 0 hh = some (.bool true, hh) := by kernel_rfl
theorem sixB_2_0_3_0_1 (hh : H) : sixB 2 0 3 0 1 hh = some (.bool true, hh) := by kernel_rfl
theorem sixB_2_0_3_0_2 (hh : H) : sixB 2 0 3 0 2 hh = some (.bool true, hh) := by kernel_rfl
theorem sixB_2_1_0_0_0 (hh : H) : sixB 2 1 0 0 0 hh = some (.bool true, hh) := by kernel_rfl
theorem sixB_2_1_0_1_0 (hh : H) : sixB 2 1 0 1 0 hh = some (.bool true, hh) := by kernel_rfl
theorem sixB_2_1_1_0_0 (hh : H) : sixB 2 1 1 0 0 hh = some (.bool true, hh) := by kernel_rfl
theorem sixB_2_1_1_0_1 (hh : H) : sixB 2 1 1 0 1 hh = some (.bool true, hh) := by kernel_rfl
theorem sixB_2_1_1_1_0 (hh : H) : sixB 2 1 1 1 0 hh = some (.bool true, hh) := by kernel_rfl
theorem sixB_2_1_1_1_1 (hh : H) : sixB 2 1 1 1 1 hh = some (.bool true, hh) := by kernel_rfl
theorem sixB_2_1_2_0_0 (hh : H) : sixB 2 1 2 0 0 hh = some (.bool true, hh) := by kernel_rfl
theorem sixB_2_1_2_0_1 (hh : H) : sixB 2 1 2 0 1 hh = some (.bool true, hh) := by kernel_rfl
theorem sixB_2_1_2_0_2 (hh : H) : sixB 2 1 2 0 2 hh = some (.bool true, hh) := by kernel_rfl
theorem sixB_2_1_2_1_0 (hh : H) : sixB 2 1 2 1 0 hh = some (.bool true, hh) := by kernel_rfl
theorem sixB_2_1_2_1_1 (hh : H) : sixB 2 1 2 1 1 hh = some (.bool true, hh) := by kernel_rfl
theorem sixB_2_1_3_0_0 (hh : H) : sixB 2 1 3 0 0 hh = some (.bool true, hh) := by kernel_rfl
theorem sixB_2_1_3_0_1 (hh : H) : sixB 2 1 3 0 1 hh = some (.bool true, hh) := by kernel_rfl
theorem sixB_2_1_3_0_2 (hh : H) : sixB 2 1 3 0 2 hh = some (.bool true, hh) := by kernel_rfl
theorem sixB_2_1_3_0_3 (hh : H) : sixB 2 1 3 0 3 hh = some (.bool true, hh) := by kernel_rfl
theorem sixB_2_1_3_1_0 (hh : H) : sixB 2 1 3 1 0 hh = some (.bool true, hh) := by kernel_rfl
theorem sixB_2_1_3_1_1 (hh : H) : sixB 2 1 3 1 1 hh = some (.bool true, hh) := by kernel_rfl
theorem sixB_2_2_0_0_0 (hh : H) : sixB 2 2 0 0 0 hh = some (.bool true, hh) := by kernel_rfl
theorem sixB_2_2_0_1_0 (hh : H) : sixB 2 2 0 1 0 hh = some (.bool true, hh) := by kernel_rfl
theorem sixB_2_2_0_2_0 (hh : H) : sixB 2 2 0 2 0 hh = some (.bool true, hh) := by kernel_rfl
theorem sixB_2_2_1_0_0 (hh : H) : sixB 2 2 1 0 0 hh = some (.bool true, hh) := by kernel_rfl
theorem sixB_2_2_1_0_1 (hh : H) : sixB 2 2 1 0 1 hh = some (.bool true, hh) := by kernel_rfl
theorem sixB_2_2_1_1_0 (hh : H) : sixB 2 2 1 1 0 hh = some (.bool true, hh) := by kernel_rfl
theorem sixB_2_2_1_1_1 (hh : H) : sixB 2 2 1 1 1 hh = some (.bool true, hh) := by kernel_rfl
theorem sixB_2_2_1_2_0 (hh : H) : sixB 2 2 1 2 0 hh = some (.bool true, hh) := by kernel_rfl
theorem sixB_2_2_2_0_0 (hh : H) : sixB 2 2 2 0 0 hh = some (.bool true, hh) := by kernel_rfl
theorem sixB_2_2_2_0_1 (hh : H) : sixB 2 2 2 0 1 hh = some (.bool true, hh) := by kernel_rfl
theorem sixB_2_2_2_0_2 (hh : H) : sixB 2 2 2 0 2 hh = some (.bool true, hh) := by kernel_rfl
theorem sixB_2_2_2_1_0 (hh : H) : sixB 2 2 2 1 0 hh = some (.bool true, hh) := by kernel_rfl
theorem sixB_2_2_2_1_1 (hh : H) : sixB 2 2 2 1 1 hh = some (.bool true, hh) := by kernel_rfl
theorem sixB_2_2_2_1_2 (hh : H) : sixB 2 2 2 1 2 hh = some (.bool true, hh) := by kernel_rfl
theorem sixB_2_2_2_2_0 (hh : H) : sixB 2 2 2 2 0 hh = some (.bool true, hh) := by kernel_rfl
theorem sixB_2_2_3_0_0 (hh : H) : sixB 2 2 3 0 0 hh = some (.bool true, hh) := by kernel_rfl
theorem sixB_2_2_3_0_1 (hh : H) : sixB 2 2 3 0 1 hh = some (.bool true, hh) := by kernel_rfl
theorem sixB_2_2_3_0_2 (hh : H) : sixB 2 2 3 0 2 hh = some (.bool true, hh) := by kernel_rfl
theorem sixB_2_2_3_0_3 (hh : H) : sixB 2 2 3 0 3 hh = some (.bool true, hh) := by kernel_rfl
theorem sixB_2_2_3_1_0 (hh : H) : sixB 2 2 3 1 0 hh = some (.bool true, hh) := by kernel_rfl
theorem sixB_2_2_3_1_1 (hh : H) : sixB 2 2 3 1 1 hh = some (.bool true, hh) := by kernel_rfl
theorem sixB_2_2_3_1_2 (hh : H) : sixB 2 2 3 1 2 hh = some (.bool true, hh) := by kernel_rfl
theorem sixB_2_2_3_2_0 (hh : H) : sixB 2 2 3 2 0 hh = some (.bool true, hh) := by kernel_rfl
theorem sixB_2_3_0_0_0 (hh : H) : sixB 2 3 0 0 0 hh = some (.bool true, hh) := by kernel_rfl
theorem sixB_2_3_0_1_0 (hh : H) : sixB 2 3 0 1 0 hh = some (.bool true, hh) := by kernel_rfl
theorem sixB_2_3_0_2_0 (hh : H) : sixB 2 3 0 2 0 hh = some (.bool true, hh) := by kernel_rfl
theorem sixB_2_3_1_0_0 (hh : H) : sixB 2 3 1 0 0 hh = some (.bool true, hh) := by kernel_rfl
theorem sixB_2_3_1_0_1 (hh : H) : sixB 2 3 1 0 1 hh = some (.bool true, hh) := by kernel_rfl
theorem sixB_2_3_1_1_0 (hh : H) : sixB 2 3 1 1 0 hh = some (.bool true, hh) := by kernel_rfl
theorem sixB_2_3_1_1_1 (hh : H) : sixB 2 3 1 1 1 hh = some (.bool true, hh) := by kernel_rfl
theorem sixB_2_3_1_2_0 (hh : H) : sixB 2 3 1 2 0 hh = some (.bool true, hh) := by kernel_rfl
theorem sixB_2_3_1_2_1 (hh : H) : sixB 2 3 1 2 1 hh = some (.bool true, hh) := by kernel_rfl
theorem sixB_2_3_2_0_0 (hh : H) : sixB 2 3 2 0 0 hh = some (.bool true, hh) := by kernel_rfl
theorem sixB_2_3_2_0_1 (hh : H) : sixB 2 3 2 0 1 hh = some (.bool true, hh) := by kernel_rfl
theorem sixB_2_3_2_0_2 (hh : H) : sixB 2 3 2 0 2 hh = some (.bool true, hh) := by kernel_rfl
theorem sixB_2_3_2_1_0 (hh : H) : sixB 2 3 2 1 0 hh = some (.bool true, hh) := by kernel_rfl
theorem sixB_2_3_2_1_1 (hh : H) : sixB 2 3 2 1 1 hh = some (.bool true, hh) := by kernel_rfl
theorem sixB_2_3_2_1_2 (hh : H) : sixB 2 3 2 1 2 hh = some (.bool true, hh) := by kernel_rfl
theorem sixB_2_3_2_2_0 (hh : H) : sixB 2 3 2 2 0 hh = some (.bool true, hh) := by kernel_rfl
theorem sixB_2_3_2_2_1 (hh : H) : sixB 2 3 2 2 1 hh = some (.bool true, hh) := by kernel_rfl
theorem sixB_2_3_3_0_0 (hh : H) : sixB 2 3 3 0 0 hh = some (.bool true, hh) := by kernel_rfl
theorem sixB_2_3_3_0_1 (hh : H) : sixB 2 3 3 0 1 hh = some (.bool true, hh) := by kernel_rfl
theorem sixB_2_3_3_0_2 (hh : H) : sixB 2 3 3 0 2 hh = some (.bool true, hh) := by kernel_rfl
theorem sixB_2_3_3_0_3 (hh : H) : sixB 2 3 3 0 3 hh = some (.bool true, hh) := by kernel_rfl
theorem sixB_2_3_3_1_0 (hh : H) : sixB 2 3 3 1 0 hh = some (.bool true, hh) := by kernel_rfl
theorem sixB_2_3_3_1_1 (hh : H) : sixB 2 3 3 1 1 hh = some (.bool true, hh) := by kernel_rfl
theorem sixB_2_3_3_1_2 (hh : H) : sixB 2 3 3 1 2 hh = some (.bool true, hh) := by kernel_rfl
theorem sixB_2_3_3_1_3 (hh : H) : sixB 2 3 3 1 3 hh = some (.bool true, hh) := by kernel_rfl
theorem sixB_2_3_3_2_0 (hh : H) : sixB 2 3 3 2 0 hh = some (.bool true, hh) := by kernel_rfl
theorem sixB_2_3_3_2_1 (hh : H) : sixB 2 3 3 2 1 hh = some (.bool true, hh) := by kernel_rfl

theorem sixB_3_0_0_0_0 (hh : H) : sixB 3 0 0 0 0 hh = some (.bool true, hh) := by kernel_rfl
theorem sixB_3_0_1_0_0 (hh : H) : sixB 3 0 1 0 0 hh = some (.bool true, hh) := by kernel_rfl
theorem sixB_3_0_1_0_1 (hh : H) : sixB 3 0 1 0 1 hh = some (.bool true, hh) := by kernel_rfl
theorem sixB_3_0_2_0_0 (hh : H) : sixB 3 0 2 0 0 hh = some (.bool true, hh) := by kernel_rfl
theorem sixB_3_0_2_0_1 (hh : H) : sixB 3 0 2 0 1 hh = some (.bool true, hh) := by kernel_rfl
theorem sixB_3_0_2_0_2 (hh : H) : sixB 3 0 2 0 2 hh = some (.bool true, hh) := by kernel_rfl
theorem sixB_3_0_3_0_0 (hh : H) : sixB 3 0 3 0 0 hh = some (.bool true, hh) := by kernel_rfl
theorem sixB_3_0_3_0_1 (hh : H) : sixB 3 0 3 0 1 hh = some (.bool true, hh) := by kernel_rfl
theorem sixB_3_0_3_0_2 (hh : H) : sixB 3 0 3 0 2 hh = some (.bool true, hh) := by kernel_rfl
theorem sixB_3_0_3_0_3 (hh : H) : sixB 3 0 3 0 3 hh = some (.bool true, hh) := by kernel_rfl
theorem sixB_3_1_0_0_0 (hh : H) : sixB 3 1 0 0 0 hh = some (.bool true, hh) := by kernel_rfl
theorem sixB_3_1_0_1_0 (hh : H) : sixB 3 1 0 1 0 hh = some (.bool true, hh) := by kernel_rfl
theorem sixB_3_1_1_0_0 (hh : H) : sixB 3 1 1 0 0 hh = some (.bool true, hh) := by kernel_rfl
theorem sixB_3_1_1_0_1 (hh : H) : sixB 3 1 1 0 1 hh = some (.bool true, hh) := by kernel_rfl
theorem sixB_3_1_1_1_0 (hh : H) : sixB 3 1 1 1 0 hh = some (.bool true, hh) := by kernel_rfl
theorem sixB_3_1_1_1_1 (hh : H) : sixB 3 1 1 1 1 hh = some (.bool true, hh) := by kernel_rfl
theorem sixB_3_1_2_0_0 (hh : H) : sixB 3 1 2 0 0 hh = some (.bool true, hh) := by kernel_rfl
theorem sixB_3_1_2_0_1 (hh : H) : sixB 3 1 2 0 1 hh = some (.bool true, hh) := by kernel_rfl
theorem sixB_3_1_2_0_2 (hh : H) : sixB 3 1 2 0 2 hh = some (.bool true, hh) := by kernel_rfl
theorem sixB_3_1_2_1_0 (hh : H) : sixB 3 1 2 1 0 hh = some (.bool true, hh) := by kernel_rfl
theorem sixB_3_1_2_1_1 (hh : H) : sixB 3 1 2 1 1 hh = some (.bool true, hh) := by kernel_rfl
theorem sixB_3_1_2_1_2 (hh : H) : sixB 3 1 2 1 2 hh = some (.bool true, hh) := by kernel_rfl
theorem sixB_3_1_3_0_0 (hh : H) : sixB 3 1 3 0 0 hh = some (.bool true, hh) := by kernel_rfl
theorem sixB_3_1_3_0_1 (hh : H) : sixB 3 1 3 0 1 hh = some (.bool true, hh) := by kernel_rfl
theorem sixB_3_1_3_0_2 (hh : H) : sixB 3 1 3 0 2 hh = some (.bool true, hh) := by kernel_rfl
theorem sixB_3_1_3_0_3 (hh : H) : sixB 3 1 3 0 3 hh = some (.bool true, hh) := by kernel_rfl
theorem sixB_3_1_3_1_0 (hh : H) : sixB 3 1 3 1 0 hh = some (.bool true, hh) := by kernel_rfl
theorem sixB_3_1_3_1_1 (hh : H) : sixB 3 1 3 1 1 hh = some (.bool true, hh) := by kernel_rfl
theorem sixB_3_1_3_1_2 (hh : H) : sixB 3 1 3 1 2 hh = some (.bool true, hh) := by kernel_rfl
theorem sixB_3_2_0_0_0 (hh : H) : sixB 3 2 0 0 0 hh = some (.bool true, hh) := by kernel_rfl
theorem sixB_3_2_0_1_0 (hh : H) : sixB 3 2 0 1 0 hh = some (.bool true, hh) := by kernel_rfl
theorem sixB_3_2_0_2_0 (hh : H) : sixB 3 2 0 2 0 hh = some (.bool true, hh) := by kernel_rfl
theorem sixB_3_2_1_0_0 (hh : H) : sixB 3 2 1 0 0 hh = some (.bool true, hh) := by kernel_rfl
theorem sixB_3_2_1_0_1 (hh : H) : sixB 3 2 1 0 1 hh = some (.bool true, hh) := by kernel_rfl
theorem sixB_3_2_1_1_0 (hh : H) : sixB 3 2 1 1 0 hh = some (.bool true, hh) := by kernel_rfl
theorem sixB_3_2_1_1_1 (hh : H) : sixB 3 2 1 1 1 hh = some (.bool true, hh) := by kernel_rfl
theorem sixB_3_2_1_2_0 (hh : H) : sixB 3 2 1 2 0 hh = some (.bool true, hh) := by kernel_rfl
theorem sixB_3_2_1_2_1 (hh : H) : sixB 3 2 1 2 1 hh = some (.bool true, hh) := by kernel_rfl
theorem sixB_3_2_2_0_0 (hh : H) : sixB 3 2 2 0 0 hh = some (.bool true, hh) := by kernel_rfl
theorem sixB_3_2_2_0_1 (hh : H) : sixB 3 2 2 0 1 hh = some (.bool true, hh) := by kernel_rfl
theorem sixB_3_2_2_0_2 (hh : H) : sixB 3 2 2 0 2 hh = some (.bool true, hh) := by kernel_rfl
theorem sixB_3_2_2_1_0 (hh : H) : sixB 3 2 2 1 0 hh = some (.bool true, hh) := by kernel_rfl
theorem sixB_3_2_2_1_1 (hh : H) : sixB 3 2 2 1 1 hh = some (.bool true, hh) := by kernel_rfl
theorem sixB_3_2_2_1_2 (hh : H) : sixB 3 2 2 1 2 hh = some (.bool true, hh) := by kernel_rfl
theorem sixB_3_2_2_2_0 (hh : H) : sixB 3 2 2 2 0 hh = some (.bool true, hh) := by kernel_rfl
theorem sixB_3_2_2_2_1 (hh : H) : sixB 3 2 2 2 1 hh = some (.bool true, hh) := by kernel_rfl
theorem sixB_3_2_3_0_0 (hh : H) : sixB 3 2 3 0 0 hh = some (.bool true, hh) := by kernel_rfl
theorem sixB_3_2_3_0_1 (hh : H) : sixB 3 2 3 0 1 hh = some (.bool true, hh) := by kernel_rfl
theorem sixB_3_2_3_0_2 (hh : H) : sixB 3 2 3 0 2 hh = some (.bool true, hh) := by kernel_rfl
theorem sixB_3_2_3_0_3 (hh : H) : sixB 3 2 3 0 3 hh = some (.bool true, hh) := by kernel_rfl
theorem sixB_3_2_3_1_0 (hh : H) : sixB 3 2 3 1 0 hh = some (.bool true, hh) := by kernel_rfl
theorem sixB_3_2_3_1_1 (hh : H) : sixB 3 2 3 1 1 hh = some (.bool true, hh) := by kernel_rfl
theorem sixB_3_2_3_1_2 (hh : H) : sixB 3 2 3 1 2 hh = some (.bool true, hh) := by kernel_rfl
theorem sixB_3_2_3_1_3 (hh : H) : sixB 3 2 3 1 3 hh = some (.bool true, hh) := by kernel_rfl
theorem sixB_3_2_3_2_0 (hh : H) : sixB 3 2 3 2 0 hh = some (.bool true, hh) := by kernel_rfl
theorem sixB_3_2_3_2_1 (hh : H) : sixB 3 2 3 2 1 hh = some (.bool true, hh) := by kernel_rfl
theorem sixB_3_3_0_0_0 (hh : H) : sixB 3 3 0 0 0 hh = some (.bool true, hh) := by kernel_rfl
theorem sixB_3_3_0_1_0 (hh : H) : sixB 3 3 0 1 0 hh = some (.bool true, hh) := by kernel_rfl
theorem sixB_3_3_0_2_0 (hh : H) : sixB 3 3 0 2 0 hh = some (.bool true, hh) := by kernel_rfl
theorem sixB_3_3_0_3_0 (hh : H) : sixB 3 3 0 3 0 hh = some (.bool true, hh) := by kernel_rfl
theorem sixB_3_3_1_0_0 (hh : H) : sixB 3 3 1 0 0 hh = some (.bool true, hh) := by kernel_rfl
theorem sixB_3_3_1_0_1 (hh : H) : sixB 3 3 1 0 1 hh = some (.bool true, hh) := by kernel_rfl
theorem sixB_3_3_1_1_0 (hh : H) : sixB 3 3 1 1 0 hh = some (.bool true, hh) := by kernel_rfl
theorem sixB_3_3_1_1_1 (hh : H) : sixB 3 3 1 1 1 hh = some (.bool true, hh) := by kernel_rfl
theorem sixB_3_3_1_2_0 (hh : H) : sixB 3 3 1 2 0 hh = some (.bool true, hh) := by kernel_rfl
theorem sixB_3_3_1_2_1 (hh : H) : sixB 3 3 1 2 1 hh = some (.bool true, hh) := by kernel_rfl
theorem sixB_3_3_1_3_0 (hh : H) : sixB 3 3 1 3 0 hh = some (.bool true, hh) := by kernel_rfl
theorem sixB_3_3_2_0_0 (hh : H) : sixB 3 3 2 0 0 hh = some (.bool true, hh) := by kernel_rfl
theorem sixB_3_3_2_0_1 (hh : H) : sixB 3 3 2 0 1 hh = some (.bool true, hh) := by kernel_rfl
theorem sixB_3_3_2_0_2 (hh : H) : sixB 3 3 2 0 2 hh = some (.bool true, hh) := by kernel_rfl
theorem sixB_3_3_2_1_0 (hh : H) : sixB 3 3 2 1 0 hh = some (.bool true, hh) := by kernel_rfl
theorem sixB_3_3_2_1_1 (hh : H) : sixB 3 3 2 1 1 hh = some (.bool true, hh) := by kernel_rfl
theorem sixB_3_3_2_1_2 (hh : H) : sixB 3 3 2 1 2 hh = some (.bool true, hh) := by kernel_rfl
theorem sixB_3_3_2_2_0 (hh : H) : sixB 3 3 2 2 0 hh = some (.bool true, hh) := by kernel_rfl
theorem sixB_3_3_2_2_1 (hh : H) : sixB 3 3 2 2 1 hh = some (.bool true, hh) := by kernel_rfl
theorem sixB_3_3_2_2_2 (hh : H) : sixB 3 3 2 2 2 hh = some (.bool true, hh) := by kernel_rfl
theorem sixB_3_3_2_3_0 (hh : H) : sixB 3 3 2 3 0 hh = some (.bool true, hh) := by kernel_rfl
theorem sixB_3_3_3_0_0 (hh : H) : sixB 3 3 3 0 0 hh = some (.bool true, hh) := by kernel_rfl
theorem sixB_3_3_3_0_1 (hh : H) : sixB 3 3 3 0 1 hh = some (.bool true, hh) := by kernel_rfl
theorem sixB_3_3_3_0_2 (hh : H) : sixB 3 3 3 0 2 hh = some (.bool true, hh) := by kernel_rfl
theorem sixB_3_3_3_0_3 (hh : H) : sixB 3 3 3 0 3 hh = some (.bool true, hh) := by kernel_rfl
theorem sixB_3_3_3_1_0 (hh : H) : sixB 3 3 3 1 0 hh = some (.bool true, hh) := by kernel_rfl
theorem sixB_3_3_3_1_1 (hh : H) : sixB 3 3 3 1 1 hh = some (.bool true, hh) := by kernel_rfl
theorem sixB_3_3_3_1_2 (hh : H) : sixB 3 3 3 1 2 hh = some (.bool true, hh) := by kernel_rfl
theorem sixB_3_3_3_1_3 (hh : H) : sixB 3 3 3 1 3 hh = some (.bool true, hh) := by kernel_rfl
theorem sixB_3_3_3_2_0 (hh : H) : sixB 3 3 3 2 0 hh = some (.bool true, hh) := by kernel_rfl
theorem sixB_3_3_3_2_1 (hh : H) : sixB 3 3 3 2 1 hh = some (.bool true, hh) := by kernel_rfl
theorem sixB_3_3_3_2_2 (hh : H) : sixB 3 3 3 2 2 hh = some (.bool true, hh) := by kernel_rfl
theorem sixB_3_3_3_3_0 (hh : H) : sixB 3 3 3 3 0 hh = some (.bool true, hh) := by kernel_rfl

theorem six_main {w2 w3 w4 w5 w6 : Int} (hh : H) (h2 : 0 ≤ w2 ∧ w2 < 4) (h3 : 0 ≤ w3 ∧ w3 < 4) (h4 : 0 ≤ w4 ∧ w4 < 4) (h5 : 0 ≤ w5 ∧ w5 < (IntKind.i64.wrap ((if w3 < w2 then w3 else w2) + 1))) (h6 : 0 ≤ w6 ∧ w6 < (IntKind.i64.wrap ((if w4 < (IntKind.i64.wrap ((IntKind.i64.wrap (w2 + w3)) - (IntKind.i64.wrap (2 * w5)))) then w4 else IntKind.i64.wrap ((IntKind.i64.wrap (w2 + w3)) - (IntKind.i64.wrap (2 * w5)))) + 1))) : sixB w2 w3 w4 w5 w6 hh = some (.bool true, hh) := by
  have hv : w2 = 0 ∨ w2 = 1 ∨ w2 = 2 ∨ w2 = 3 := by omega
  rcases hv with rfl | rfl | rfl | rfl
  · skip
    have hv : w3 = 0 ∨ w3 = 1 ∨ w3 = 2 ∨ w3 = 3 := by omega
    rcases hv with rfl | rfl | rfl | rfl
    · skip
      have hv : w4 = 0 ∨ w4 = 1 ∨ w4 = 2 ∨ w4 = 3 := by omega
      rcases hv with rfl | rfl | rfl | rfl
      · skip
        rw [show (IntKind.i64.wrap ((if (0 : Int) < (0 : Int) then (0 : Int) else (0 : Int)) + 1)) = 1 by kernel_rfl] at h5
        obtain rfl : w5 = 0 := by omega
        rw [show (IntKind.i64.wrap ((if (0 : Int) < (IntKind.i64.wrap ((IntKind.i64.wrap ((0 : Int) + (0 : Int))) - (IntKind.i64.wrap (2 * (0 : Int))))) then (0 : Int) else IntKind.i64.wrap ((IntKind.i64.wrap ((0 : Int) + (0 : Int))) - (IntKind.i64.wrap (2 * (0 : Int))))) + 1)) = 1 by kernel_rfl] at h6
        obtain rfl : w6 = 0 := by omega
        exact sixB_0_0_0_0_0 hh
      · skip
        rw [show (IntKind.i64.wrap ((if (0 : Int) < (0 : Int) then (0 : Int) else (0 : Int)) + 1)) = 1 by kernel_rfl] at h5
        obtain rfl : w5 = 0 := by omega
        rw [show (IntKind.i64.wrap ((if (1 : Int) < (IntKind.i64.wrap ((IntKind.i64.wrap ((0 : Int) + (0 : Int))) - (IntKind.i64.wrap (2 * (0 : Int))))) then (1 : Int) else IntKind.i64.wrap ((IntKind.i64.wrap ((0 : Int) + (0 : Int))) - (IntKind.i64.wrap (2 * (0 : Int))))) + 1)) = 1 by kernel_rfl] at h6
        obtain rfl : w6 = 0 := by omega
        exact sixB_0_0_1_0_0 hh
      · skip
        rw [show (IntKind.i64.wrap ((if (0 : Int) < (0 : Int) then (0 : Int) else (0 : Int)) + 1)) = 1 by kernel_rfl] at h5
        obtain rfl : w5 = 0 := by omega
        rw [show (IntKind.i64.wrap ((if (2 : Int) < (IntKind.i64.wrap ((IntKind.i64.wrap ((0 : Int) + (0 : Int))) - (IntKind.i64.wrap (2 * (0 : Int))))) then (2 : Int) else IntKind.i64.wrap ((IntKind.i64.wrap ((0 : Int) + (0 : Int))) - (IntKind.i64.wrap (2 * (0 : Int))))) + 1)) = 1 by kernel_rfl] at h6
        obtain rfl : w6 = 0 := by omega
        exact sixB_0_0_2_0_0 hh
      · skip
        rw [show (IntKind.i64.wrap ((if (0 : Int) < (0 : Int) then (0 : Int) else (0 : Int)) + 1)) = 1 by kernel_rfl] at h5
        obtain rfl : w5 = 0 := by omega
        rw [show (IntKind.i64.wrap ((if (3 : Int) < (IntKind.i64.wrap ((IntKind.i64.wrap ((0 : Int) + (0 : Int))) - (IntKind.i64.wrap (2 * (0 : Int))))) then (3 : Int) else IntKind.i64.wrap ((IntKind.i64.wrap ((0 : Int) + (0 : Int))) - (IntKind.i64.wrap (2 * (0 : Int))))) + 1)) = 1 by kernel_rfl] at h6
        obtain rfl : w6 = 0 := by omega
        exact sixB_0_0_3_0_0 hh
    · skip
      have hv : w4 = 0 ∨ w4 = 1 ∨ w4 = 2 ∨ w4 = 3 := by omega
      rcases hv with rfl | rfl | rfl | rfl
      · skip
        rw [show (IntKind.i64.wrap ((if (1 : Int) < (0 : Int) then (1 : Int) else (0 : Int)) + 1)) = 1 by kernel_rfl] at h5
        obtain rfl : w5 = 0 := by omega
        rw [show (IntKind.i64.wrap ((if (0 : Int) < (IntKind.i64.wrap ((IntKind.i64.wrap ((0 : Int) + (1 : Int))) - (IntKind.i64.wrap (2 * (0 : Int))))) then (0 : Int) else IntKind.i64.wrap ((IntKind.i64.wrap ((0 : Int) + (1 : Int))) - (IntKind.i64.wrap (2 * (0 : Int))))) + 1)) = 1 by kernel_rfl] at h6
        obtain rfl : w6 = 0 := by omega
        exact sixB_0_1_0_0_0 hh
      · skip
        rw [show (IntKind.i64.wrap ((if (1 : Int) < (0 : Int) then (1 : Int) else (0 : Int)) + 1)) = 1 by kernel_rfl] at h5
        obtain rfl : w5 = 0 := by omega
        rw [show (IntKind.i64.wrap ((if (1 : Int) < (IntKind.i64.wrap ((IntKind.i64.wrap ((0 : Int) + (1 : Int))) - (IntKind.i64.wrap (2 * (0 : Int))))) then (1 : Int) else IntKind.i64.wrap ((IntKind.i64.wrap ((0 : Int) + (1 : Int))) - (IntKind.i64.wrap (2 * (0 : Int))))) + 1)) = 2 by kernel_rfl] at h6
        have hv : w6 = 0 ∨ w6 = 1 := by omega
        rcases hv with rfl | rfl
        · skip
          exact sixB_0_1_1_0_0 hh
        · skip
          exact sixB_0_1_1_0_1 hh
      · skip
        rw [show (IntKind.i64.wrap ((if (1 : Int) < (0 : Int) then (1 : Int) else (0 : Int)) + 1)) = 1 by kernel_rfl] at h5
        obtain rfl : w5 = 0 := by omega
        rw [show (IntKind.i64.wrap ((if (2 : Int) < (IntKind.i64.wrap ((IntKind.i64.wrap ((0 : Int) + (1 : Int))) - (IntKind.i64.wrap (2 * (0 : Int))))) then (2 : Int) else IntKind.i64.wrap ((IntKind.i64.wrap ((0 : Int) + (1 : Int))) - (IntKind.i64.wrap (2 * (0 : Int))))) + 1)) = 2 by kernel_rfl] at h6
        have hv : w6 = 0 ∨ w6 = 1 := by omega
        rcases hv with rfl | rfl
        · skip
          exact sixB_0_1_2_0_0 hh
        · skip
          exact sixB_0_1_2_0_1 hh
      · skip
        rw [show (IntKind.i64.wrap ((if (1 : Int) < (0 : Int) then (1 : Int) else (0 : Int)) + 1)) = 1 by kernel_rfl] at h5
        obtain rfl : w5 = 0 := by omega
        rw [show (IntKind.i64.wrap ((if (3 : Int) < (IntKind.i64.wrap ((IntKind.i64.wrap ((0 : Int) + (1 : Int))) - (IntKind.i64.wrap (2 * (0 : Int))))) then (3 : Int) else IntKind.i64.wrap ((IntKind.i64.wrap ((0 : Int) + (1 : Int))) - (IntKind.i64.wrap (2 * (0 : Int))))) + 1)) = 2 by kernel_rfl] at h6
        have hv : w6 = 0 ∨ w6 = 1 := by omega
        rcases hv with rfl | rfl
        · skip
          exact sixB_0_1_3_0_0 hh
        · skip
          exact sixB_0_1_3_0_1 hh
    · skip
      have hv : w4 = 0 ∨ w4 = 1 ∨ w4 = 2 ∨ w4 = 3 := by omega
      rcases hv with rfl | rfl | rfl | rfl
      · skip
        rw [show (IntKind.i64.wrap ((if (2 : Int) < (0 : Int) then (2 : Int) else (0 : Int)) + 1)) = 1 by kernel_rfl] at h5
        obtain rfl : w5 = 0 := by omega
        rw [show (IntKind.i64.wrap ((if (0 : Int) < (IntKind.i64.wrap ((IntKind.i64.wrap ((0 : Int) + (2 : Int))) - (IntKind.i64.wrap (2 * (0 : Int))))) then (0 : Int) else IntKind.i64.wrap ((IntKind.i64.wrap ((0 : Int) + (2 : Int))) - (IntKind.i64.wrap (2 * (0 : Int))))) + 1)) = 1 by kernel_rfl] at h6
        obtain rfl : w6 = 0 := by omega
        exact sixB_0_2_0_0_0 hh
      · skip
        rw [show (IntKind.i64.wrap ((if (2 : Int) < (0 : Int) then (2 : Int) else (0 : Int)) + 1)) = 1 by kernel_rfl] at h5
        obtain rfl : w5 = 0 := by omega
        rw [show (IntKind.i64.wrap ((if (1 : Int) < (IntKind.i64.wrap ((IntKind.i64.wrap ((0 : Int) + (2 : Int))) - (IntKind.i64.wrap (2 * (0 : Int))))) then (1 : Int) else IntKind.i64.wrap ((IntKind.i64.wrap ((0 : Int) + (2 : Int))) - (IntKind.i64.wrap (2 * (0 : Int))))) + 1)) = 2 by kernel_rfl] at h6
        have hv : w6 = 0 ∨ w6 = 1 := by omega
        rcases hv with rfl | rfl
        · skip
          exact sixB_0_2_1_0_0 hh
        · skip
          exact sixB_0_2_1_0_1 hh
      · skip
        rw [show (IntKind.i64.wrap ((if (2 : Int) < (0 : Int) then (2 : Int) else (0 : Int)) + 1)) = 1 by kernel_rfl] at h5
        obtain rfl : w5 = 0 := by omega
        rw [show (IntKind.i64.wrap ((if (2 : Int) < (IntKind.i64.wrap ((IntKind.i64.wrap ((0 : Int) + (2 : Int))) - (IntKind.i64.wrap (2 * (0 : Int))))) then (2 : Int) else IntKind.i64.wrap ((IntKind.i64.wrap ((0 : Int) + (2 : Int))) - (IntKind.i64.wrap (2 * (0 : Int))))) + 1)) = 3 by kernel_rfl] at h6
        have hv : w6 = 0 ∨ w6 = 1 ∨ w6 = 2 := by omega
        rcases hv with rfl | rfl | rfl
        · skip
          exact sixB_0_2_2_0_0 hh
        · skip
          exact sixB_0_2_2_0_1 hh
        · skip
          exact sixB_0_2_2_0_2 hh
      · skip
        rw [show (IntKind.i64.wrap ((if (2 : Int) < (0 : Int) then (2 : Int) else (0 : Int)) + 1)) = 1 by kernel_rfl] at h5
        obtain rfl : w5 = 0 := by omega
        rw [show (IntKind.i64.wrap ((if (3 : Int) < (IntKind.i64.wrap ((IntKind.i64.wrap ((0 : Int) + (2 : Int))) - (IntKind.i64.wrap (2 * (0 : Int))))) then (3 : Int) else IntKind.i64.wrap ((IntKind.i64.wrap ((0 : Int) + (2 : Int))) - (IntKind.i64.wrap (2 * (0 : Int))))) + 1)) = 3 by kernel_rfl] at h6
        have hv : w6 = 0 ∨ w6 = 1 ∨ w6 = 2 := by omega
        rcases hv with rfl | rfl | rfl
        · skip
          exact sixB_0_2_3_0_0 hh
        · skip
          exact sixB_0_2_3_0_1 hh
        · skip
          exact sixB_0_2_3_0_2 hh
    · skip
      have hv : w4 = 0 ∨ w4 = 1 ∨ w4 = 2 ∨ w4 = 3 := by omega
      rcases hv with rfl | rfl | rfl | rfl
      · skip
        rw [show (IntKind.i64.wrap ((if (3 : Int) < (0 : Int) then (3 : Int) else (0 : Int)) + 1)) = 1 by kernel_rfl] at h5
        obtain rfl : w5 = 0 := by omega
        rw [show (IntKind.i64.wrap ((if (0 : Int) < (IntKind.i64.wrap ((IntKind.i64.wrap ((0 : Int) + (3 : Int))) - (IntKind.i64.wrap (2 * (0 : Int))))) then (0 : Int) else IntKind.i64.wrap ((IntKind.i64.wrap ((0 : Int) + (3 : Int))) - (IntKind.i64.wrap (2 * (0 : Int))))) + 1)) = 1 by kernel_rfl] at h6
        obtain rfl : w6 = 0 := by omega
        exact sixB_0_3_0_0_0 hh
      · skip
        rw [show (IntKind.i64.wrap ((if (3 : Int) < (0 : Int) then (3 : Int) else (0 : Int)) + 1)) = 1 by kernel_rfl] at h5
        obtain rfl : w5 = 0 := by omega
        rw [show (IntKind.i64.wrap ((if (1 : Int) < (IntKind.i64.wrap ((IntKind.i64.wrap ((0 : Int) + (3 : Int))) - (IntKind.i64.wrap (2 * (0 : Int))))) then (1 : Int) else IntKind.i64.wrap ((IntKind.i64.wrap ((0 : Int) + (3 : Int))) - (IntKind.i64.wrap (2 * (0 : Int))))) + 1)) = 2 by kernel_rfl] at h6
        have hv : w6 = 0 ∨ w6 = 1 := by omega
        rcases hv with rfl | rfl
        · skip
          exact sixB_0_3_1_0_0 hh
        · skip
          exact sixB_0_3_1_0_1 hh
      · skip
        rw [show (IntKind.i64.wrap ((if (3 : Int) < (0 : Int) then (3 : Int) else (0 : Int)) + 1)) = 1 by kernel_rfl] at h5
        obtain rfl : w5 = 0 := by omega
        rw [show (IntKind.i64.wrap ((if (2 : Int) < (IntKind.i64.wrap ((IntKind.i64.wrap ((0 : Int) + (3 : Int))) - (IntKind.i64.wrap (2 * (0 : Int))))) then (2 : Int) else IntKind.i64.wrap ((IntKind.i64.wrap ((0 : Int) + (3 : Int))) - (IntKind.i64.wrap (2 * (0 : Int))))) + 1)) = 3 by kernel_rfl] at h6
        have hv : w6 = 0 ∨ w6 = 1 ∨ w6 = 2 := by omega
        rcases hv with rfl | rfl | rfl
        · skip
          exact sixB_0_3_2_0_0 hh
        · skip
          exact sixB_0_3_2_0_1 hh
        · skip
          exact sixB_0_3_2_0_2 hh
      · skip
        rw [show (IntKind.i64.wrap ((if (3 : Int) < (0 : Int) then (3 : Int) else (0 : Int)) + 1)) = 1 by kernel_rfl] at h5
        obtain rfl : w5 = 0 := by omega
        rw [show (IntKind.i64.wrap ((if (3 : Int) < (IntKind.i64.wrap ((IntKind.i64.wrap ((0 : Int) + (3 : Int))) - (IntKind.i64.wrap (2 * (0 : Int))))) then (3 : Int) else IntKind.i64.wrap ((IntKind.i64.wrap ((0 : Int) + (3 : Int))) - (IntKind.i64.wrap (2 * (0 : Int))))) + 1)) = 4 by kernel_rfl] at h6
        have hv : w6 = 0 ∨ w6 = 1 ∨ w6 = 2 ∨ w6 = 3 := by omega
        rcases hv with rfl | rfl | rfl | rfl
        · skip
          exact sixB_0_3_3_0_0 hh
        · skip
          exact sixB_0_3_3_0_1 hh
        · skip
          exact sixB_0_3_3_0_2 hh
        · skip
          exact sixB_0_3_3_0_3 hh
  · skip
    have hv : w3 = 0 ∨ w3 = 1 ∨ w3 = 2 ∨ w3 = 3 := by omega
    rcases hv with rfl | rfl | rfl | rfl
    · skip
      have hv : w4 = 0 ∨ w4 = 1 ∨ w4 = 2 ∨ w4 = 3 := by omega
      rcases hv with rfl | rfl | rfl | rfl
      · skip
        rw [show (IntKind.i64.wrap ((if (0 : Int) < (1 : Int) then (0 : Int) else (1 : Int)) + 1)) = 1 by kernel_rfl] at h5
        obtain rfl : w5 = 0 := by omega
        rw [show (IntKind.i64.wrap ((if (0 : Int) < (IntKind.i64.wrap ((IntKind.i64.wrap ((1 : Int) + (0 : Int))) - (IntKind.i64.wrap (2 * (0 : Int))))) then (0 : Int) else IntKind.i64.wrap ((IntKind.i64.wrap ((1 : Int) + (0 : Int))) - (IntKind.i64.wrap (2 * (0 : Int))))) + 1)) = 1 by kernel_rfl] at h6
        obtain rfl : w6 = 0 := by omega
        exact sixB_1_0_0_0_0 hh
      · skip
        rw [show (IntKind.i64.wrap ((if (0 : Int) < (1 : Int) then (0 : Int) else (1 : Int)) + 1)) = 1 by kernel_rfl] at h5
        obtain rfl : w5 = 0 := by omega
        rw [show (IntKind.i64.wrap ((if (1 : Int) < (IntKind.i64.wrap ((IntKind.i64.wrap ((1 : Int) + (0 : Int))) - (IntKind.i64.wrap (2 * (0 : Int))))) then (1 : Int) else IntKind.i64.wrap ((IntKind.i64.wrap ((1 : Int) + (0 : Int))) - (IntKind.i64.wrap (2 * (0 : Int))))) + 1)) = 2 by kernel_rfl] at h6
        have hv : w6 = 0 ∨ w6 = 1 := by omega
        rcases hv with rfl | rfl
        · skip
          exact sixB_1_0_1_0_0 hh
        · skip
          exact sixB_1_0_1_0_1 hh
      · skip
        rw [show (IntKind.i64.wrap ((if (0 : Int) < (1 : Int) then (0 : Int) else (1 : Int)) + 1)) = 1 by kernel_rfl] at h5
        obtain rfl : w5 = 0 := by omega
        rw [show (IntKind.i64.wrap ((if (2 : Int) < (IntKind.i64.wrap ((IntKind.i64.wrap ((1 : Int) + (0 : Int))) - (IntKind.i64.wrap (2 * (0 : Int))))) then (2 : Int) else IntKind.i64.wrap ((IntKind.i64.wrap ((1 : Int) + (0 : Int))) - (IntKind.i64.wrap (2 * (0 : Int))))) + 1)) = 2 by kernel_rfl] at h6
        have hv : w6 = 0 ∨ w6 = 1 := by omega
        rcases hv with rfl | rfl
        · skip
          exact sixB_1_0_2_0_0 hh
        · skip
          exact sixB_1_0_2_0_1 hh
      · skip
        rw [show (IntKind.i64.wrap ((if (0 : Int) < (1 : Int) then (0 : Int) else (1 : Int)) + 1)) = 1 by kernel_rfl] at h5
        obtain rfl : w5 = 0 := by omega
        rw [show (IntKind.i64.wrap ((if (3 : Int) < (IntKind.i64.wrap ((IntKind.i64.wrap ((1 : Int) + (0 : Int))) - (IntKind.i64.wrap (2 * (0 : Int))))) then (3 : Int) else IntKind.i64.wrap ((IntKind.i64.wrap ((1 : Int) + (0 : Int))) - (IntKind.i64.wrap (2 * (0 : Int))))) + 1)) = 2 by kernel_rfl] at h6
        have hv : w6 = 0 ∨ w6 = 1 := by omega
        rcases hv with rfl | rfl
        · skip
          exact sixB_1_0_3_0_0 hh
        · skip
          exact sixB_1_0_3_0_1 hh
    · skip
      have hv : w4 = 0 ∨ w4 = 1 ∨ w4 = 2 ∨ w4 = 3 := by omega
      rcases hv with rfl | rfl | rfl | rfl
      · skip
        rw [show (IntKind.i64.wrap ((if (1 : Int) < (1 : Int) then (1 : Int) else (1 : Int)) + 1)) = 2 by kernel_rfl] at h5
        have hv : w5 = 0 ∨ w5 = 1 := by omega
        rcases hv with rfl | rfl
        · skip
          rw [show (IntKind.i64.wrap ((if (0 : Int) < (IntKind.i64.wrap ((IntKind.i64.wrap ((1 : Int) + (1 : Int))) - (IntKind.i64.wrap (2 * (0 : Int))))) then (0 : Int) else IntKind.i64.wrap ((IntKind.i64.wrap ((1 : Int) + (1 : Int))) - (IntKind.i64.wrap (2 * (0 : Int))))) + 1)) = 1 by kernel_rfl] at h6
          obtain rfl : w6 = 0 := by omega
          exact sixB_1_1_0_0_0 hh
        · skip
          rw [show (IntKind.i64.wrap ((if (0 : Int) < (IntKind.i64.wrap ((IntKind.i64.wrap ((1 : Int) + (1 : Int))) - (IntKind.i64.wrap (2 * (1 : Int))))) then (0 : Int) else IntKind.i64.wrap ((IntKind.i64.wrap ((1 : Int) + (1 : Int))) - (IntKind.i64.wrap (2 * (1 : Int))))) + 1)) = 1 by kernel_rfl] at h6
          obtain rfl : w6 = 0 := by omega
          exact sixB_1_1_0_1_0 hh
      · skip
        rw [show (IntKind.i64.wrap ((if (1 : Int) < (1 : Int) then (1 : Int) else (1 : Int)) + 1)) = 2 by kernel_rfl] at h5
        have hv : w5 = 0 ∨ w5 = 1 := by omega
        rcases hv with rfl | rfl
        · skip
          rw [show (IntKind.i64.wrap ((if (1 : Int) < (IntKind.i64.wrap ((IntKind.i64.wrap ((1 : Int) + (1 : Int))) - (IntKind.i64.wrap (2 * (0 : Int))))) then (1 : Int) else IntKind.i64.wrap ((IntKind.i64.wrap ((1 : Int) + (1 : Int))) - (IntKind.i64.wrap (2 * (0 : Int))))) + 1)) = 2 by kernel_rfl] at h6
          have hv : w6 = 0 ∨ w6 = 1 := by omega
          rcases hv with rfl | rfl
          · skip
            exact sixB_1_1_1_0_0 hh
          · skip
            exact sixB_1_1_1_0_1 hh
        · skip
          rw [show (IntKind.i64.wrap ((if (1 : Int) < (IntKind.i64.wrap ((IntKind.i64.wrap ((1 : Int) + (1 : Int))) - (IntKind.i64.wrap (2 * (1 : Int))))) then (1 : Int) else IntKind.i64.wrap ((IntKind.i64.wrap ((1 : Int) + (1 : Int))) - (IntKind.i64.wrap (2 * (1 : Int))))) + 1)) = 1 by kernel_rfl] at h6
          obtain rfl : w6 = 0 := by omega
          exact sixB_1_1_1_1_0 hh
      · skip
        rw [show (IntKind.i64.wrap ((if (1 : Int) < (1 : Int) then (1 : Int) else (1 : Int)) + 1)) = 2 by kernel_rfl] at h5
        have hv : w5 = 0 ∨ w5 = 1 := by omega
        rcases hv with rfl | rfl
        · skip
          rw [show (IntKind.i64.wrap ((if (2 : Int) < (IntKind.i64.wrap ((IntKind.i64.wrap ((1 : Int) + (1 : Int))) - (IntKind.i64.wrap (2 * (0 : Int))))) then (2 : Int) else IntKind.i64.wrap ((IntKind.i64.wrap ((1 : Int) + (1 : Int))) - (IntKind.i64.wrap (2 * (0 : Int))))) + 1)) = 3 by kernel_rfl] at h6
          have hv : w6 = 0 ∨ w6 = 1 ∨ w6 = 2 := by omega
          rcases hv with rfl | rfl | rfl
          · skip
            exact sixB_1_1_2_0_0 hh
          · skip
            exact sixB_1_1_2_0_1 hh
          · skip
            exact sixB_1_1_2_0_2 hh
        · skip
          rw [show (IntKind.i64.wrap ((if (2 : Int) < (IntKind.i64.wrap ((IntKind.i64.wrap ((1 : Int) + (1 : Int))) - (IntKind.i64.wrap (2 * (1 : Int))))) then (2 : Int) else IntKind.i64.wrap ((IntKind.i64.wrap ((1 : Int) + (1 : Int))) - (IntKind.i64.wrap (2 * (1 : Int))))) + 1)) = 1 by kernel_rfl] at h6
          obtain rfl : w6 = 0 := by omega
          exact sixB_1_1_2_1_0 hh
      · skip
        rw [show (IntKind.i64.wrap ((if (1 : Int) < (1 : Int) then (1 : Int) else (1 : Int)) + 1)) = 2 by kernel_rfl] at h5
        have hv : w5 = 0 ∨ w5 = 1 := by omega
        rcases hv with rfl | rfl
        · skip
          rw [show (IntKind.i64.wrap ((if (3 : Int) < (IntKind.i64.wrap ((IntKind.i64.wrap ((1 : Int) + (1 : Int))) - (IntKind.i64.wrap (2 * (0 : Int))))) then (3 : Int) else IntKind.i64.wrap ((IntKind.i64.wrap ((1 : Int) + (1 : Int))) - (IntKind.i64.wrap (2 * (0 : Int))))) + 1)) = 3 by kernel_rfl] at h6
          have hv : w6 = 0 ∨ w6 = 1 ∨ w6 = 2 := by omega
          rcases hv with rfl | rfl | rfl
          · skip
            exact sixB_1_1_3_0_0 hh
          · skip
            exact sixB_1_1_3_0_1 hh
          · skip
            exact sixB_1_1_3_0_2 hh
        · skip
          rw [show (IntKind.i64.wrap ((if (3 : Int) < (IntKind.i64.wrap ((IntKind.i64.wrap ((1 : Int) + (1 : Int))) - (IntKind.i64.wrap (2 * (1 : Int))))) then (3 : Int) else IntKind.i64.wrap ((IntKind.i64.wrap ((1 : Int) + (1 : Int))) - (IntKind.i64.wrap (2 * (1 : Int))))) + 1)) = 1 by kernel_rfl] at h6
          obtain rfl : w6 = 0 := by omega
          exact sixB_1_1_3_1_0 hh
    · skip
      have hv : w4 = 0 ∨ w4 = 1 ∨ w4 = 2 ∨ w4 = 3 := by omega
      rcases hv with rfl | rfl | rfl | rfl
      · skip
        rw [show (IntKind.i64.wrap ((if (2 : Int) < (1 : Int) then (2 : Int) else (1 : Int)) + 1)) = 2 by kernel_rfl] at h5
        have hv : w5 = 0 ∨ w5 = 1 := by omega
        rcases hv with rfl | rfl
        · skip
          rw [show (IntKind.i64.wrap ((if (0 : Int) < (IntKind.i64.wrap ((IntKind.i64.wrap ((1 : Int) + (2 : Int))) - (IntKind.i64.wrap (2 * (0 : Int))))) then (0 : Int) else IntKind.i64.wrap ((IntKind.i64.wrap ((1 : Int) + (2 : Int))) - (IntKind.i64.wrap (2 * (0 : Int))))) + 1)) = 1 by kernel_rfl] at h6
          obtain rfl : w6 = 0 := by omega
          exact sixB_1_2_0_0_0 hh
        · skip
          rw [show (IntKind.i64.wrap ((if (0 : Int) < (IntKind.i64.wrap ((IntKind.i64.wrap ((1 : Int) + (2 : Int))) - (IntKind.i64.wrap (2 * (1 : Int))))) then (0 : Int) else IntKind.i64.wrap ((IntKind.i64.wrap ((1 : Int) + (2 : Int))) - (IntKind.i64.wrap (2 * (1 : Int))))) + 1)) = 1 by kernel_rfl] at h6
          obtain rfl : w6 = 0 := by omega
          exact sixB_1_2_0_1_0 hh
      · skip
        rw [show (IntKind.i64.wrap ((if (2 : Int) < (1 : Int) then (2 : Int) else (1 : Int)) + 1)) = 2 by kernel_rfl] at h5
        have hv : w5 = 0 ∨ w5 = 1 := by omega
        rcases hv with rfl | rfl
        · skip
          rw [show (IntKind.i64.wrap ((if (1 : Int) < (IntKind.i64.wrap ((IntKind.i64.wrap ((1 : Int) + (2 : Int))) - (IntKind.i64.wrap (2 * (0 : Int))))) then (1 : Int) else IntKind.i64.wrap ((IntKind.i64.wrap ((1 : Int) + (2 : Int))) - (IntKind.i64.wrap (2 * (0 : Int))))) + 1)) = 2 by kernel_rfl] at h6
          have hv : w6 = 0 ∨ w6 = 1 := by omega
          rcases hv with rfl | rfl
          · skip
            exact sixB_1_2_1_0_0 hh
          · skip
            exact sixB_1_2_1_0_1 hh
        · skip
          rw [show (IntKind.i64.wrap ((if (1 : Int) < (IntKind.i64.wrap ((IntKind.i64.wrap ((1 : Int) + (2 : Int))) - (IntKind.i64.wrap (2 * (1 : Int))))) then (1 : Int) else IntKind.i64.wrap ((IntKind.i64.wrap ((1 : Int) + (2 : Int))) - (IntKind.i64.wrap (2 * (1 : Int))))) + 1)) = 2 by kernel_rfl] at h6
          have hv : w6 = 0 ∨ w6 = 1 := by omega
          rcases hv with rfl | rfl
          · skip
            exact sixB_1_2_1_1_0 hh
          · skip
            exact sixB_1_2_1_1_1 hh
      · skip
        rw [show (IntKind.i64.wrap ((if (2 : Int) < (1 : Int) then (2 : Int) else (1 : Int)) + 1)) = 2 by kernel_rfl] at h5
        have hv : w5 = 0 ∨ w5 = 1 := by omega
        rcases hv with rfl | rfl
        · skip
          rw [show (IntKind.i64.wrap ((if (2 : Int) < (IntKind.i64.wrap ((IntKind.i64.wrap ((1 : Int) + (2 : Int))) - (IntKind.i64.wrap (2 * (0 : Int))))) then (2 : Int) else IntKind.i64.wrap ((IntKind.i64.wrap ((1 : Int) + (2 : Int))) - (IntKind.i64.wrap (2 * (0 : Int))))) + 1)) = 3 by kernel_rfl] at h6
          have hv : w6 = 0 ∨ w6 = 1 ∨ w6 = 2 := by omega
          rcases hv with rfl | rfl | rfl
          · skip
            exact sixB_1_2_2_0_0 hh
          · skip
            exact sixB_1_2_2_0_1 hh
          · skip
            exact sixB_1_2_2_0_2 hh
        · skip
          rw [show (IntKind.i64.wrap ((if (2 : Int) < (IntKind.i64.wrap ((IntKind.i64.wrap ((1 : Int) + (2 : Int))) - (IntKind.i64.wrap (2 * (1 : Int))))) then (2 : Int) else IntKind.i64.wrap ((IntKind.i64.wrap ((1 : Int) + (2 : Int))) - (IntKind.i64.wrap (2 * (1 : Int))))) + 1)) = 2 by kernel_rfl] at h6
          have hv : w6 = 0 ∨ w6 = 1 := by omega
          rcases hv with rfl | rfl
          · skip
            exact sixB_1_2_2_1_0 hh
          · skip
            exact sixB_1_2_2_1_1 hh
      · skip
        rw [show (IntKind.i64.wrap ((if (2 : Int) < (1 : Int) then (2 : Int) else (1 : Int)) + 1)) = 2 by kernel_rfl] at h5
        have hv : w5 = 0 ∨ w5 = 1 := by omega
        rcases hv with rfl | rfl
        · skip
          rw [show (IntKind.i64.wrap ((if (3 : Int) < (IntKind.i64.wrap ((IntKind.i64.wrap ((1 : Int) + (2 : Int))) - (IntKind.i64.wrap (2 * (0 : Int))))) then (3 : Int) else IntKind.i64.wrap ((IntKind.i64.wrap ((1 : Int) + (2 : Int))) - (IntKind.i64.wrap (2 * (0 : Int))))) + 1)) = 4 by kernel_rfl] at h6
          have hv : w6 = 0 ∨ w6 = 1 ∨ w6 = 2 ∨ w6 = 3 := by omega
          rcases hv with rfl | rfl | rfl | rfl
          · skip
            exact sixB_1_2_3_0_0 hh
          · skip
            exact sixB_1_2_3_0_1 hh
          · skip
            exact sixB_1_2_3_0_2 hh
          · skip
            exact sixB_1_2_3_0_3 hh
        · skip
          rw [show (IntKind.i64.wrap ((if (3 : Int) < (IntKind.i64.wrap ((IntKind.i64.wrap ((1 : Int) + (2 : Int))) - (IntKind.i64.wrap (2 * (1 : Int))))) then (3 : Int) else IntKind.i64.wrap ((IntKind.i64.wrap ((1 : Int) + (2 : Int))) - (IntKind.i64.wrap (2 * (1 : Int))))) + 1)) = 2 by kernel_rfl] at h6
          have hv : w6 = 0 ∨ w6 = 1 := by omega
          rcases hv with rfl | rfl
          · skip
            exact sixB_1_2_3_1_0 hh
          · skip
            exact sixB_1_2_3_1_1 hh
    · skip
      have hv : w4 = 0 ∨ w4 = 1 ∨ w4 = 2 ∨ w4 = 3 := by omega
      rcases hv with rfl | rfl | rfl | rfl
      · skip
        rw [show (IntKind.i64.wrap ((if (3 : Int) < (1 : Int) then (3 : Int) else (1 : Int)) + 1)) = 2 by kernel_rfl] at h5
        have hv : w5 = 0 ∨ w5 = 1 := by omega
        rcases hv with rfl | rfl
        · skip
          rw [show (IntKind.i64.wrap ((if (0 : Int) < (IntKind.i64.wrap ((IntKind.i64.wrap ((1 : Int) + (3 : Int))) - (IntKind.i64.wrap (2 * (0 : Int))))) then (0 : Int) else IntKind.i64.wrap ((IntKind.i64.wrap ((1 : Int) + (3 : Int))) - (IntKind.i64.wrap (2 * (0 : Int))))) + 1)) = 1 by kernel_rfl] at h6
          obtain rfl : w6 = 0 := by omega
          exact sixB_1_3_0_0_0 hh
        · skip
          rw [show (IntKind.i64.wrap ((if (0 : Int) < (IntKind.i64.wrap ((IntKind.i64.wrap ((1 : Int) + (3 : Int))) - (IntKind.i64.wrap (2 * (1 : Int))))) then (0 : Int) else IntKind.i64.wrap ((IntKind.i64.wrap ((1 : Int) + (3 : Int))) - (IntKind.i64.wrap (2 * (1 : Int))))) + 1)) = 1 by kernel_rfl] at h6
          obtain rfl : w6 = 0 := by omega
          exact sixB_1_3_0_1_0 hh
      · skip
        rw [show (IntKind.i64.wrap ((if (3 : Int) < (1 : Int) then (3 : Int) else (1 : Int)) + 1)) = 2 by kernel_rfl] at h5
        have hv : w5 = 0 ∨ w5 = 1 := by omega
        rcases hv with rfl | rfl
        · skip
          rw [show (IntKind.i64.wrap ((if (1 : Int) < (IntKind.i64.wrap ((IntKind.i64.wrap ((1 : Int) + (3 : Int))) - (IntKind.i64.wrap (2 * (0 : Int))))) then (1 : Int) else IntKind.i64.wrap ((IntKind.i64.wrap ((1 : Int) + (3 : Int))) - (IntKind.i64.wrap (2 * (0 : Int))))) + 1)) = 2 by kernel_rfl] at h6
          have hv : w6 = 0 ∨ w6 = 1 := by omega
          rcases hv with rfl | rfl
          · skip
            exact sixB_1_3_1_0_0 hh
          · skip
            exact sixB_1_3_1_0_1 hh
        · skip
          rw [show (IntKind.i64.wrap ((if (1 : Int) < (IntKind.i64.wrap ((IntKind.i64.wrap ((1 : Int) + (3 : Int))) - (IntKind.i64.wrap (2 * (1 : Int))))) then (1 : Int) else IntKind.i64.wrap ((IntKind.i64.wrap ((1 : Int) + (3 : Int))) - (IntKind.i64.wrap (2 * (1 : Int))))) + 1)) = 2 by kernel_rfl] at h6
          have hv : w6 = 0 ∨ w6 = 1 := by omega
          rcases hv with rfl | rfl
          · skip
            exact sixB_1_3_1_1_0 hh
          · skip
            exact sixB_1_3_1_1_1 hh
      · skip
        rw [show (IntKind.i64.wrap ((if (3 : Int) < (1 : Int) then (3 : Int) else (1 : Int)) + 1)) = 2 by kernel_rfl] at h5
        have hv : w5 = 0 ∨ w5 = 1 := by omega
        rcases hv with rfl | rfl
        · skip
          rw [show (IntKind.i64.wrap ((if (2 : Int) < (IntKind.i64.wrap ((IntKind.i64.wrap ((1 : Int) + (3 : Int))) - (IntKind.i64.wrap (2 * (0 : Int))))) then (2 : Int) else IntKind.i64.wrap ((IntKind.i64.wrap ((1 : Int) + (3 : Int))) - (IntKind.i64.wrap (2 * (0 : Int))))) + 1)) = 3 by kernel_rfl] at h6
          have hv : w6 = 0 ∨ w6 = 1 ∨ w6 = 2 := by omega
          rcases hv with rfl | rfl | rfl
          · skip
            exact sixB_1_3_2_0_0 hh
          · skip
            exact sixB_1_3_2_0_1 hh
          · skip
            exact sixB_1_3_2_0_2 hh
        · skip
          rw [show (IntKind.i64.wrap ((if (2 : Int) < (IntKind.i64.wrap ((IntKind.i64.wrap ((1 : Int) + (3 : Int))) - (IntKind.i64.wrap (2 * (1 : Int))))) then (2 : Int) else IntKind.i64.wrap ((IntKind.i64.wrap ((1 : Int) + (3 : Int))) - (IntKind.i64.wrap (2 * (1 : Int))))) + 1)) = 3 by kernel_rfl] at h6
          have hv : w6 = 0 ∨ w6 = 1 ∨ w6 = 2 := by omega
          rcases hv with rfl | rfl | rfl
          · skip
            exact sixB_1_3_2_1_0 hh
          · skip
            exact sixB_1_3_2_1_1 hh
          · skip
            exact sixB_1_3_2_1_2 hh
      · skip
        rw [show (IntKind.i64.wrap ((if (3 : Int) < (1 : Int) then (3 : Int) else (1 : Int)) + 1)) = 2 by kernel_rfl] at h5
        have hv : w5 = 0 ∨ w5 = 1 := by omega
        rcases hv with rfl | rfl
        · skip
          rw [show (IntKind.i64.wrap ((if (3 : Int) < (IntKind.i64.wrap ((IntKind.i64.wrap ((1 : Int) + (3 : Int))) - (IntKind.i64.wrap (2 * (0 : Int))))) then (3 : Int) else IntKind.i64.wrap ((IntKind.i64.wrap ((1 : Int) + (3 : Int))) - (IntKind.i64.wrap (2 * (0 : Int))))) + 1)) = 4 by kernel_rfl] at h6
          have hv : w6 = 0 ∨ w6 = 1 ∨ w6 = 2 ∨ w6 = 3 := by omega
          rcases hv with rfl | rfl | rfl | rfl
          · skip
            exact sixB_1_3_3_0_0 hh
          · skip
            exact sixB_1_3_3_0_1 hh
          · skip
            exact sixB_1_3_3_0_2 hh
          · skip
            exact sixB_1_3_3_0_3 hh
        · skip
          rw [show (IntKind.i64.wrap ((if (3 : Int) < (IntKind.i64.wrap ((IntKind.i64.wrap ((1 : Int) + (3 : Int))) - (IntKind.i64.wrap (2 * (1 : Int))))) then (3 : Int) else IntKind.i64.wrap ((IntKind.i64.wrap ((1 : Int) + (3 : Int))) - (IntKind.i64.wrap (2 * (1 : Int))))) + 1)) = 3 by kernel_rfl] at h6
          have hv : w6 = 0 ∨ w6 = 1 ∨ w6 = 2 := by omega
          rcases hv with rfl | rfl | rfl
          · skip
            exact sixB_1_3_3_1_0 hh
          · skip
            exact sixB_1_3_3_1_1 hh
          · skip
            exact sixB_1_3_3_1_2 hh
  · skip
    have hv : w3 = 0 ∨ w3 = 1 ∨ w3 = 2 ∨ w3 = 3 := by omega
    rcases hv with rfl | rfl | rfl | rfl
    · skip
      have hv : w4 = 0 ∨ w4 = 1 ∨ w4 = 2 ∨ w4 = 3 := by omega
      rcases hv with rfl | rfl | rfl | rfl
      · skip
        rw [show (IntKind.i64.wrap ((if (0 : Int) < (2 : Int) then (0 : Int) else (2 : Int)) + 1)) = 1 by kernel_rfl] at h5
        obtain rfl : w5 = 0 := by omega
        rw [show (IntKind.i64.wrap ((if (0 : Int) < (IntKind.i64.wrap ((IntKind.i64.wrap ((2 : Int) + (0 : Int))) - (IntKind.i64.wrap (2 * (0 : Int))))) then (0 : Int) else IntKind.i64.wrap ((IntKind.i64.wrap ((2 : Int) + (0 : Int))) - (IntKind.i64.wrap (2 * (0 : Int))))) + 1)) = 1 by kernel_rfl] at h6
        obtain rfl : w6 = 0 := by omega
        exact sixB_2_0_0_0_0 hh
      · skip
        rw [show (IntKind.i64.wrap ((if (0 : Int) < (2 : Int) then (0 : Int) else (2 : Int)) + 1)) = 1 by kernel_rfl] at h5
        obtain rfl : w5 = 0 := by omega
        rw [show (IntKind.i64.wrap ((if (1 : Int) < (IntKind.i64.wrap ((IntKind.i64.wrap ((2 : Int) + (0 : Int))) - (IntKind.i64.wrap (2 * (0 : Int))))) then (1 : Int) else IntKind.i64.wrap ((IntKind.i64.wrap ((2 : Int) + (0 : Int))) - (IntKind.i64.wrap (2 * (0 : Int))))) + 1)) = 2 by kernel_rfl] at h6
        have hv : w6 = 0 ∨ w6 = 1 := by omega
        rcases hv with rfl | rfl
        · skip
          exact sixB_2_0_1_0_0 hh
        · skip
          exact sixB_2_0_1_0_1 hh
      · skip
        rw [show (IntKind.i64.wrap ((if (0 : Int) < (2 : Int) then (0 : Int) else (2 : Int)) + 1)) = 1 by kernel_rfl] at h5
        obtain rfl : w5 = 0 := by omega
        rw [show (IntKind.i64.wrap ((if (2 : Int) < (IntKind.i64.wrap ((IntKind.i64.wrap ((2 : Int) + (0 : Int))) - (IntKind.i64.wrap (2 * (0 : Int))))) then (2 : Int) else IntKind.i64.wrap ((IntKind.i64.wrap ((2 : Int) + (0 : Int))) - (IntKind.i64.wrap (2 * (0 : Int))))) + 1)) = 3 by kernel_rfl] at h6
        have hv : w6 = 0 ∨ w6 = 1 ∨ w6 = 2 := by omega
        rcases hv with rfl | rfl | rfl
        · skip
          exact sixB_2_0_2_0_0 hh
        · skip
          exact sixB_2_0_2_0_1 hh
        · skip
          exact sixB_2_0_2_0_2 hh
      · skip
        rw [show (IntKind.i64.wrap ((if (0 : Int) < (2 : Int) then (0 : Int) else (2 : Int)) + 1)) = 1 by kernel_rfl] at h5
        obtain rfl : w5 = 0 := by omega
        rw [show (IntKind.i64.wrap ((if (3 : Int) < (IntKind.i64.wrap ((IntKind.i64.wrap ((2 : Int) + (0 : Int))) - (IntKind.i64.wrap (2 * (0 : Int))))) then (3 : Int) else IntKind.i64.wrap ((IntKind.i64.wrap ((2 : Int) + (0 : Int))) - (IntKind.i64.wrap (2 * (0 : Int))))) + 1)) = 3 by kernel_rfl] at h6
        have hv : w6 = 0 ∨ w6 = 1 ∨ w6 = 2 := by omega
        rcases hv with rfl | rfl | rfl
        · skip
          exact sixB_2_0_3_0_0 hh
        · skip
          exact sixB_2_0_3_0_1 hh
        · skip
          exact sixB_2_0_3_0_2 hh
    · skip
      have hv : w4 = 0 ∨ w4 = 1 ∨ w4 = 2 ∨ w4 = 3 := by omega
      rcases hv with rfl | rfl | rfl | rfl
      · skip
        rw [show (IntKind.i64.wrap ((if (1 : Int) < (2 : Int) then (1 : Int) else (2 : Int)) + 1)) = 2 by kernel_rfl] at h5
        have hv : w5 = 0 ∨ w5 = 1 := by omega
        rcases hv with rfl | rfl
        · skip
          rw [show (IntKind.i64.wrap ((if (0 : Int) < (IntKind.i64.wrap ((IntKind.i64.wrap ((2 : Int) + (1 : Int))) - (IntKind.i64.wrap (2 * (0 : Int))))) then (0 : Int) else IntKind.i64.wrap ((IntKind.i64.wrap ((2 : Int) + (1 : Int))) - (IntKind.i64.wrap (2 * (0 : Int))))) + 1)) = 1 by kernel_rfl] at h6
          obtain rfl : w6 = 0 := by omega
          exact sixB_2_1_0_0_0 hh
        · skip
          rw [show (IntKind.i64.wrap ((if (0 : Int) < (IntKind.i64.wrap ((IntKind.i64.wrap ((2 : Int) + (1 : Int))) - (IntKind.i64.wrap (2 * (1 : Int))))) then (0 : Int) else IntKind.i64.wrap ((IntKind.i64.wrap ((2 : Int) + (1 : Int))) - (IntKind.i64.wrap (2 * (1 : Int))))) + 1)) = 1 by kernel_rfl] at h6
          obtain rfl : w6 = 0 := by omega
          exact sixB_2_1_0_1_0 hh
      · skip
        rw [show (IntKind.i64.wrap ((if (1 : Int) < (2 : Int) then (1 : Int) else (2 : Int)) + 1)) = 2 by kernel_rfl] at h5
        have hv : w5 = 0 ∨ w5 = 1 := by omega
        rcases hv with rfl | rfl
        · skip
          rw [show (IntKind.i64.wrap ((if (1 : Int) < (IntKind.i64.wrap ((IntKind.i64.wrap ((2 : Int) + (1 : Int))) - (IntKind.i64.wrap (2 * (0 : Int))))) then (1 : Int) else IntKind.i64.wrap ((IntKind.i64.wrap ((2 : Int) + (1 : Int))) - (IntKind.i64.wrap (2 * (0 : Int))))) + 1)) = 2 by kernel_rfl] at h6
          have hv : w6 = 0 ∨ w6 = 1 := by omega
          rcases hv with rfl | rfl
          · skip
            exact sixB_2_1_1_0_0 hh
          · skip
            exact sixB_2_1_1_0_1 hh
        · skip
          rw [show (IntKind.i64.wrap ((if (1 : Int) < (IntKind.i64.wrap ((IntKind.i64.wrap ((2 : Int) + (1 : Int))) - (IntKind.i64.wrap (2 * (1 : Int))))) then (1 : Int) else IntKind.i64.wrap ((IntKind.i64.wrap ((2 : Int) + (1 : Int))) - (IntKind.i64.wrap (2 * (1 : Int))))) + 1)) = 2 by kernel_rfl] at h6
          have hv : w6 = 0 ∨ w6 = 1 := by omega
          rcases hv with rfl | rfl
          · skip
            exact sixB_2_1_1_1_0 hh
          · skip
            exact sixB_2_1_1_1_1 hh
      · skip
        rw [show (IntKind.i64.wrap ((if (1 : Int) < (2 : Int) then (1 : Int) else (2 : Int)) + 1)) = 2 by kernel_rfl] at h5
        have hv : w5 = 0 ∨ w5 = 1 := by omega
        rcases hv with rfl | rfl
        · skip
          rw [show (IntKind.i64.wrap ((if (2 : Int) < (IntKind.i64.wrap ((IntKind.i64.wrap ((2 : Int) + (1 : Int))) - (IntKind.i64.wrap (2 * (0 : Int))))) then (2 : Int) else IntKind.i64.wrap ((IntKind.i64.wrap ((2 : Int) + (1 : Int))) - (IntKind.i64.wrap (2 * (0 : Int))))) + 1)) = 3 by kernel_rfl] at h6
          have hv : w6 = 0 ∨ w6 = 1 ∨ w6 = 2 := by omega
          rcases hv with rfl | rfl | rfl
          · skip
            exact sixB_2_1_2_0_0 hh
          · skip
            exact sixB_2_1_2_0_1 hh
          · skip
            exact sixB_2_1_2_0_2 hh
        · skip
          rw [show (IntKind.i64.wrap ((if (2 : Int) < (IntKind.i64.wrap ((IntKind.i64.wrap ((2 : Int) + (1 : Int))) - (IntKind.i64.wrap (2 * (1 : Int))))) then (2 : Int) else IntKind.i64.wrap ((IntKind.i64.wrap ((2 : Int) + (1 : Int))) - (IntKind.i64.wrap (2 * (1 : Int))))) + 1)) = 2 by kernel_rfl] at h6
          have hv : w6 = 0 ∨ w6 = 1 := by omega
          rcases hv with rfl | rfl
          · skip
            exact sixB_2_1_2_1_0 hh
          · skip
            exact sixB_2_1_2_1_1 hh
      · skip
        rw [show (IntKind.i64.wrap ((if (1 : Int) < (2 : Int) then (1 : Int) else (2 : Int)) + 1)) = 2 by kernel_rfl] at h5
        have hv : w5 = 0 ∨ w5 = 1 := by omega
        rcases hv with rfl | rfl
        · skip
          rw [show (IntKind.i64.wrap ((if (3 : Int) < (IntKind.i64.wrap ((IntKind.i64.wrap ((2 : Int) + (1 : Int))) - (IntKind.i64.wrap (2 * (0 : Int))))) then (3 : Int) else IntKind.i64.wrap ((IntKind.i64.wrap ((2 : Int) + (1 : Int))) - (IntKind.i64.wrap (2 * (0 : Int))))) + 1)) = 4 by kernel_rfl] at h6
          have hv : w6 = 0 ∨ w6 = 1 ∨ w6 = 2 ∨ w6 = 3 := by omega
          rcases hv with rfl | rfl | rfl | rfl
          · skip
            exact sixB_2_1_3_0_0 hh
          · skip
            exact sixB_2_1_3_0_1 hh
          · skip
            exact sixB_2_1_3_0_2 hh
          · skip
            exact sixB_2_1_3_0_3 hh
        · skip
          rw [show (IntKind.i64.wrap ((if (3 : Int) < (IntKind.i64.wrap ((IntKind.i64.wrap ((2 : Int) + (1 : Int))) - (IntKind.i64.wrap (2 * (1 : Int))))) then (3 : Int) else IntKind.i64.wrap ((IntKind.i64.wrap ((2 : Int) + (1 : Int))) - (IntKind.i64.wrap (2 * (1 : Int))))) + 1)) = 2 by kernel_rfl] at h6
          have hv : w6 = 0 ∨ w6 = 1 := by omega
          rcases hv with rfl | rfl
          · skip
            exact sixB_2_1_3_1_0 hh
          · skip
            exact sixB_2_1_3_1_1 hh
    · skip
      have hv : w4 = 0 ∨ w4 = 1 ∨ w4 = 2 ∨ w4 = 3 := by omega
      rcases hv with rfl | rfl | rfl | rfl
      · skip
        rw [show (IntKind.i64.wrap ((if (2 : Int) < (2 : Int) then (2 : Int) else (2 : Int)) + 1)) = 3 by kernel_rfl] at h5
        have hv : w5 = 0 ∨ w5 = 1 ∨ w5 = 2 := by omega
        rcases hv with rfl | rfl | rfl
        · skip
          rw [show (IntKind.i64.wrap ((if (0 : Int) < (IntKind.i64.wrap ((IntKind.i64.wrap ((2 : Int) + (2 : Int))) - (IntKind.i64.wrap (2 * (0 : Int))))) then (0 : Int) else IntKind.i64.wrap ((IntKind.i64.wrap ((2 : Int) + (2 : Int))) - (IntKind.i64.wrap (2 * (0 : Int))))) + 1)) = 1 by kernel_rfl] at h6
          obtain rfl : w6 = 0 := by omega
          exact sixB_2_2_0_0_0 hh
        · skip
          rw [show (IntKind.i64.wrap ((if (0 : Int) < (IntKind.i64.wrap ((IntKind.i64.wrap ((2 : Int) + (2 : Int))) - (IntKind.i64.wrap (2 * (1 : Int))))) then (0 : Int) else IntKind.i64.wrap ((IntKind.i64.wrap ((2 : Int) + (2 : Int))) - (IntKind.i64.wrap (2 * (1 : Int))))) + 1)) = 1 by kernel_rfl] at h6
          obtain rfl : w6 = 0 := by omega
          exact sixB_2_2_0_1_0 hh
        · skip
          rw [show (IntKind.i64.wrap ((if (0 : Int) < (IntKind.i64.wrap ((IntKind.i64.wrap ((2 : Int) + (2 : Int))) - (IntKind.i64.wrap (2 * (2 : Int))))) then (0 : Int) else IntKind.i64.wrap ((IntKind.i64.wrap ((2 : Int) + (2 : Int))) - (IntKind.i64.wrap (2 * (2 : Int))))) + 1)) = 1 by kernel_rfl] at h6
          obtain rfl : w6 = 0 := by omega
          exact sixB_2_2_0_2_0 hh
      · skip
        rw [show (IntKind.i64.wrap ((if (2 : Int) < (2 : Int) then (2 : Int) else (2 : Int)) + 1)) = 3 by kernel_rfl] at h5
        have hv : w5 = 0 ∨ w5 = 1 ∨ w5 = 2 := by omega
        rcases hv with rfl | rfl | rfl
        · skip
          rw [show (IntKind.i64.wrap ((if (1 : Int) < (IntKind.i64.wrap ((IntKind.i64.wrap ((2 : Int) + (2 : Int))) - (IntKind.i64.wrap (2 * (0 : Int))))) then (1 : Int) else IntKind.i64.wrap ((IntKind.i64.wrap ((2 : Int) + (2 : Int))) - (IntKind.i64.wrap (2 * (0 : Int))))) + 1)) = 2 by kernel_rfl] at h6
          have hv : w6 = 0 ∨ w6 = 1 := by omega
          rcases hv with rfl | rfl
          · skip
            exact sixB_2_2_1_0_0 hh
          · skip
            exact sixB_2_2_1_0_1 hh
        · skip
          rw [show (IntKind.i64.wrap ((if (1 : Int) < (IntKind.i64.wrap ((IntKind.i64.wrap ((2 : Int) + (2 : Int))) - (IntKind.i64.wrap (2 * (1 : Int))))) then (1 : Int) else IntKind.i64.wrap ((IntKind.i64.wrap ((2 : Int) + (2 : Int))) - (IntKind.i64.wrap (2 * (1 : Int))))) + 1)) = 2 by kernel_rfl] at h6
          have hv : w6 = 0 ∨ w6 = 1 := by omega
          rcases hv with rfl | rfl
          · skip
            exact sixB_2_2_1_1_0 hh
          · skip
            exact sixB_2_2_1_1_1 hh
        · skip
          rw [show (IntKind.i64.wrap ((if (1 : Int) < (IntKind.i64.wrap ((IntKind.i64.wrap ((2 : Int) + (2 : Int))) - (IntKind.i64.wrap (2 * (2 : Int))))) then (1 : Int) else IntKind.i64.wrap ((IntKind.i64.wrap ((2 : Int) + (2 : Int))) - (IntKind.i64.wrap (2 * (2 : Int))))) + 1)) = 1 by kernel_rfl] at h6
          obtain rfl : w6 = 0 := by omega
          exact sixB_2_2_1_2_0 hh
      · skip
        rw [show (IntKind.i64.wrap ((if (2 : Int) < (2 : Int) then (2 : Int) else (2 : Int)) + 1)) = 3 by kernel_rfl] at h5
        have hv : w5 = 0 ∨ w5 = 1 ∨ w5 = 2 := by omega
        rcases hv with rfl | rfl | rfl
        · skip
          rw [show (IntKind.i64.wrap ((if (2 : Int) < (IntKind.i64.wrap ((IntKind.i64.wrap ((2 : Int) + (2 : Int))) - (IntKind.i64.wrap (2 * (0 : Int))))) then (2 : Int) else IntKind.i64.wrap ((IntKind.i64.wrap ((2 : Int) + (2 : Int))) - (IntKind.i64.wrap (2 * (0 : Int))))) + 1)) = 3 by kernel_rfl] at h6
          have hv : w6 = 0 ∨ w6 = 1 ∨ w6 = 2 := by omega
          rcases hv with rfl | rfl | rfl
          · skip
            exact sixB_2_2_2_0_0 hh
          · skip
            exact sixB_2_2_2_0_1 hh
          · skip
            exact sixB_2_2_2_0_2 hh
        · skip
          rw [show (IntKind.i64.wrap ((if (2 : Int) < (IntKind.i64.wrap ((IntKind.i64.wrap ((2 : Int) + (2 : Int))) - (IntKind.i64.wrap (2 * (1 : Int))))) then (2 : Int) else IntKind.i64.wrap ((IntKind.i64.wrap ((2 : Int) + (2 : Int))) - (IntKind.i64.wrap (2 * (1 : Int))))) + 1)) = 3 by kernel_rfl] at h6
          have hv : w6 = 0 ∨ w6 = 1 ∨ w6 = 2 := by omega
          rcases hv with rfl | rfl | rfl
          · skip
            exact sixB_2_2_2_1_0 hh
          · skip
            exact sixB_2_2_2_1_1 hh
          · skip
            exact sixB_2_2_2_1_2 hh
        · skip
          rw [show (IntKind.i64.wrap ((if (2 : Int) < (IntKind.i64.wrap ((IntKind.i64.wrap ((2 : Int) + (2 : Int))) - (IntKind.i64.wrap (2 * (2 : Int))))) then (2 : Int) else IntKind.i64.wrap ((IntKind.i64.wrap ((2 : Int) + (2 : Int))) - (IntKind.i64.wrap (2 * (2 : Int))))) + 1)) = 1 by kernel_rfl] at h6
          obtain rfl : w6 = 0 := by omega
          exact sixB_2_2_2_2_0 hh
      · skip
        rw [show (IntKind.i64.wrap ((if (2 : Int) < (2 : Int) then (2 : Int) else (2 : Int)) + 1)) = 3 by kernel_rfl] at h5
        have hv : w5 = 0 ∨ w5 = 1 ∨ w5 = 2 := by omega
        rcases hv with rfl | rfl | rfl
        · skip
          rw [show (IntKind.i64.wrap ((if (3 : Int) < (IntKind.i64.wrap ((IntKind.i64.wrap ((2 : Int) + (2 : Int))) - (IntKind.i64.wrap (2 * (0 : Int))))) then (3 : Int) else IntKind.i64.wrap ((IntKind.i64.wrap ((2 : Int) + (2 : Int))) - (IntKind.i64.wrap (2 * (0 : Int))))) + 1)) = 4 by kernel_rfl] at h6
          have hv : w6 = 0 ∨ w6 = 1 ∨ w6 = 2 ∨ w6 = 3 := by omega
          rcases hv with rfl | rfl | rfl | rfl
          · skip
            exact sixB_2_2_3_0_0 hh
          · skip
            exact sixB_2_2_3_0_1 hh
          · skip
            exact sixB_2_2_3_0_2 hh
          · skip
            exact sixB_2_2_3_0_3 hh
        · skip
          rw [show (IntKind.i64.wrap ((if (3 : Int) < (IntKind.i64.wrap ((IntKind.i64.wrap ((2 : Int) + (2 : Int))) - (IntKind.i64.wrap (2 * (1 : Int))))) then (3 : Int) else IntKind.i64.wrap ((IntKind.i64.wrap ((2 : Int) + (2 : Int))) - (IntKind.i64.wrap (2 * (1 : Int))))) + 1)) = 3 by kernel_rfl] at h6
          have hv : w6 = 0 ∨ w6 = 1 ∨ w6 = 2 := by omega
          rcases hv with rfl | rfl | rfl
          · skip
            exact sixB_2_2_3_1_0 hh
          · skip
            exact sixB_2_2_3_1_1 hh
          · skip
            exact sixB_2_2_3_1_2 hh
        · skip
          rw [show (IntKind.i64.wrap ((if (3 : Int) < (IntKind.i64.wrap ((IntKind.i64.wrap ((2 : Int) + (2 : Int))) - (IntKind.i64.wrap (2 * (2 : Int))))) then (3 : Int) else IntKind.i64.wrap ((IntKind.i64.wrap ((2 : Int) + (2 : Int))) - (IntKind.i64.wrap (2 * (2 : Int))))) + 1)) = 1 by kernel_rfl] at h6
          obtain rfl : w6 = 0 := by omega
          exact sixB_2_2_3_2_0 hh
    · skip
      have hv : w4 = 0 ∨ w4 = 1 ∨ w4 = 2 ∨ w4 = 3 := by omega
      rcases hv with rfl | rfl | rfl | rfl
      · skip
        rw [show (IntKind.i64.wrap ((if (3 : Int) < (2 : Int) then (3 : Int) else (2 : Int)) + 1)) = 3 by kernel_rfl] at h5
        have hv : w5 = 0 ∨ w5 = 1 ∨ w5 = 2 := by omega
        rcases hv with rfl | rfl | rfl
        · skip
          rw [show (IntKind.i64.wrap ((if (0 : Int) < (IntKind.i64.wrap ((IntKind.i64.wrap ((2 : Int) + (3 : Int))) - (IntKind.i64.wrap (2 * (0 : Int))))) then (0 : Int) else IntKind.i64.wrap ((IntKind.i64.wrap ((2 : Int) + (3 : Int))) - (IntKind.i64.wrap (2 * (0 : Int))))) + 1)) = 1 by kernel_rfl] at h6
          obtain rfl : w6 = 0 := by omega
          exact sixB_2_3_0_0_0 hh
        · skip
          rw [show (IntKind.i64.wrap ((if (0 : Int) < (IntKind.i64.wrap ((IntKind.i64.wrap ((2 : Int) + (3 : Int))) - (IntKind.i64.wrap (2 * (1 : Int))))) then (0 : Int) else IntKind.i64.wrap ((IntKind.i64.wrap ((2 : Int) + (3 : Int))) - (IntKind.i64.wrap (2 * (1 : Int))))) + 1)) = 1 by kernel_rfl] at h6
          obtain rfl : w6 = 0 := by omega
          exact sixB_2_3_0_1_0 hh
        · skip
          rw [show (IntKind.i64.wrap ((if (0 : Int) < (IntKind.i64.wrap ((IntKind.i64.wrap ((2 : Int) + (3 : Int))) - (IntKind.i64.wrap (2 * (2 : Int))))) then (0 : Int) else IntKind.i64.wrap ((IntKind.i64.wrap ((2 : Int) + (3 : Int))) - (IntKind.i64.wrap (2 * (2 : Int))))) + 1)) = 1 by kernel_rfl] at h6
          obtain rfl : w6 = 0 := by omega
          exact sixB_2_3_0_2_0 hh
      · skip
        rw [show (IntKind.i64.wrap ((if (3 : Int) < (2 : Int) then (3 : Int) else (2 : Int)) + 1)) = 3 by kernel_rfl] at h5
        have hv : w5 = 0 ∨ w5 = 1 ∨ w5 = 2 := by omega
        rcases hv with rfl | rfl | rfl
        · skip
          rw [show (IntKind.i64.wrap ((if (1 : Int) < (IntKind.i64.wrap ((IntKind.i64.wrap ((2 : Int) + (3 : Int))) - (IntKind.i64.wrap (2 * (0 : Int))))) then (1 : Int) else IntKind.i64.wrap ((IntKind.i64.wrap ((2 : Int) + (3 : Int))) - (IntKind.i64.wrap (2 * (0 : Int))))) + 1)) = 2 by kernel_rfl] at h6
          have hv : w6 = 0 ∨ w6 = 1 := by omega
          rcases hv with rfl | rfl
          · skip
            exact sixB_2_3_1_0_0 hh
          · skip
            exact sixB_2_3_1_0_1 hh
        · skip
          rw [show (IntKind.i64.wrap ((if (1 : Int) < (IntKind.i64.wrap ((IntKind.i64.wrap ((2 : Int) + (3 : Int))) - (IntKind.i64.wrap (2 * (1 : Int))))) then (1 : Int) else IntKind.i64.wrap ((IntKind.i64.wrap ((2 : Int) + (3 : Int))) - (IntKind.i64.wrap (2 * (1 : Int))))) + 1)) = 2 by kernel_rfl] at h6
          have hv : w6 = 0 ∨ w6 = 1 := by omega
          rcases hv with rfl | rfl
          · skip
            exact sixB_2_3_1_1_0 hh
          · skip
            exact sixB_2_3_1_1_1 hh
        · skip
          rw [show (IntKind.i64.wrap ((if (1 : Int) < (IntKind.i64.wrap ((IntKind.i64.wrap ((2 : Int) + (3 : Int))) - (IntKind.i64.wrap (2 * (2 : Int))))) then (1 : Int) else IntKind.i64.wrap ((IntKind.i64.wrap ((2 : Int) + (3 : Int))) - (IntKind.i64.wrap (2 * (2 : Int))))) + 1)) = 2 by kernel_rfl] at h6
          have hv : w6 = 0 ∨ w6 = 1 := by omega
          rcases hv with rfl | rfl
          · skip
            exact sixB_2_3_1_2_0 hh
          · skip
            exact sixB_2_3_1_2_1 hh
      · skip
        rw [show (IntKind.i64.wrap ((if (3 : Int) < (2 : Int) then (3 : Int) else (2 : Int)) + 1)) = 3 by kernel_rfl] at h5
        have hv : w5 = 0 ∨ w5 = 1 ∨ w5 = 2 := by omega
        rcases hv with rfl | rfl | rfl
        · skip
          rw [show (IntKind.i64.wrap ((if (2 : Int) < (IntKind.i64.wrap ((IntKind.i64.wrap ((2 : Int) + (3 : Int))) - (IntKind.i64.wrap (2 * (0 : Int))))) then (2 : Int) else IntKind.i64.wrap ((IntKind.i64.wrap ((2 : Int) + (3 : Int))) - (IntKind.i64.wrap (2 * (0 : Int))))) + 1)) = 3 by kernel_rfl] at h6
          have hv : w6 = 0 ∨ w6 = 1 ∨ w6 = 2 := by omega
          rcases hv with rfl | rfl | rfl
          · skip
            exact sixB_2_3_2_0_0 hh
          · skip
            exact sixB_2_3_2_0_1 hh
          · skip
            exact sixB_2_3_2_0_2 hh
        · skip
          rw [show (IntKind.i64.wrap ((if (2 : Int) < (IntKind.i64.wrap ((IntKind.i64.wrap ((2 : Int) + (3 : Int))) - (IntKind.i64.wrap (2 * (1 : Int))))) then (2 : Int) else IntKind.i64.wrap ((IntKind.i64.wrap ((2 : Int) + (3 : Int))) - (IntKind.i64.wrap (2 * (1 : Int))))) + 1)) = 3 by kernel_rfl] at h6
          have hv : w6 = 0 ∨ w6 = 1 ∨ w6 = 2 := by omega
          rcases hv with rfl | rfl | rfl
          · skip
            exact sixB_2_3_2_1_0 hh
          · skip
            exact sixB_2_3_2_1_1 hh
          · skip
            exact sixB_2_3_2_1_2 hh
        · skip
          rw [show (IntKind.i64.wrap ((if (2 : Int) < (IntKind.i64.wrap ((IntKind.i64.wrap ((2 : Int) + (3 : Int))) - (IntKind.i64.wrap (2 * (2 : Int))))) then (2 : Int) else IntKind.i64.wrap ((IntKind.i64.wrap ((2 : Int) + (3 : Int))) - (IntKind.i64.wrap (2 * (2 : Int))))) + 1)) = 2 by kernel_rfl] at h6
          have hv : w6 = 0 ∨ w6 = 1 := by omega
          rcases hv with rfl | rfl
          · skip
            exact sixB_2_3_2_2_0 hh
          · skip
            exact sixB_2_3_2_2_1 hh
      · skip
        rw [show (IntKind.i64.wrap ((if (3 : Int) < (2 : Int) then (3 : Int) else (2 : Int)) + 1)) = 3 by kernel_rfl] at h5
        have hv : w5 = 0 ∨ w5 = 1 ∨ w5 = 2 := by omega
        rcases hv with rfl | rfl | rfl
        · skip
          rw [show (IntKind.i64.wrap ((if (3 : Int) < (IntKind.i64.wrap ((IntKind.i64.wrap ((2 : Int) + (3 : Int))) - (IntKind.i64.wrap (2 * (0 : Int))))) then (3 : Int) else IntKind.i64.wrap ((IntKind.i64.wrap ((2 : Int) + (3 : Int))) - (IntKind.i64.wrap (2 * (0 : Int))))) + 1)) = 4 by kernel_rfl] at h6
          have hv : w6 = 0 ∨ w6 = 1 ∨ w6 = 2 ∨ w6 = 3 := by omega
          rcases hv with rfl | rfl | rfl | rfl
          · skip
            exact sixB_2_3_3_0_0 hh
          · skip
            exact sixB_2_3_3_0_1 hh
          · skip
            exact sixB_2_3_3_0_2 hh
          · skip
            exact sixB_2_3_3_0_3 hh
        · skip
          rw [show (IntKind.i64.wrap ((if (3 : Int) < (IntKind.i64.wrap ((IntKind.i64.wrap ((2 : Int) + (3 : Int))) - (IntKind.i64.wrap (2 * (1 : Int))))) then (3 : Int) else IntKind.i64.wrap ((IntKind.i64.wrap ((2 : Int) + (3 : Int))) - (IntKind.i64.wrap (2 * (1 : Int))))) + 1)) = 4 by kernel_rfl] at h6
          have hv : w6 = 0 ∨ w6 = 1 ∨ w6 = 2 ∨ w6 = 3 := by omega
          rcases hv with rfl | rfl | rfl | rfl
          · skip
            exact sixB_2_3_3_1_0 hh
          · skip
            exact sixB_2_3_3_1_1 hh
          · skip
            exact sixB_2_3_3_1_2 hh
          · skip
            exact sixB_2_3_3_1_3 hh
        · skip
          rw [show (IntKind.i64.wrap ((if (3 : Int) < (IntKind.i64.wrap ((IntKind.i64.wrap ((2 : Int) + (3 : Int))) - (IntKind.i64.wrap (2 * (2 : Int))))) then (3 : Int) else IntKind.i64.wrap ((IntKind.i64.wrap ((2 : Int) + (3 : Int))) - (IntKind.i64.wrap (2 * (2 : Int))))) + 1)) = 2 by kernel_rfl] at h6
          have hv : w6 = 0 ∨ w6 = 1 := by omega
          rcases hv with rfl | rfl
          · skip
            exact sixB_2_3_3_2_0 hh
          · skip
            exact sixB_2_3_3_2_1 hh
  · skip
    have hv : w3 = 0 ∨ w3 = 1 ∨ w3 = 2 ∨ w3 = 3 := by omega
    rcases hv with rfl | rfl | rfl | rfl
    · skip
      have hv : w4 = 0 ∨ w4 = 1 ∨ w4 = 2 ∨ w4 = 3 := by omega
      rcases hv with rfl | rfl | rfl | rfl
      · skip
        rw [show (IntKind.i64.wrap ((if (0 : Int) < (3 : Int) then (0 : Int) else (3 : Int)) + 1)) = 1 by kernel_rfl] at h5
        obtain rfl : w5 = 0 := by omega
        rw [show (IntKind.i64.wrap ((if (0 : Int) < (IntKind.i64.wrap ((IntKind.i64.wrap ((3 : Int) + (0 : Int))) - (IntKind.i64.wrap (2 * (0 : Int))))) then (0 : Int) else IntKind.i64.wrap ((IntKind.i64.wrap ((3 : Int) + (0 : Int))) - (IntKind.i64.wrap (2 * (0 : Int))))) + 1)) = 1 by kernel_rfl] at h6
        obtain rfl : w6 = 0 := by omega
        exact sixB_3_0_0_0_0 hh
      · skip
        rw [show (IntKind.i64.wrap ((if (0 : Int) < (3 : Int) then (0 : Int) else (3 : Int)) + 1)) = 1 by kernel_rfl] at h5
        obtain rfl : w5 = 0 := by omega
        rw [show (IntKind.i64.wrap ((if (1 : Int) < (IntKind.i64.wrap ((IntKind.i64.wrap ((3 : Int) + (0 : Int))) - (IntKind.i64.wrap (2 * (0 : Int))))) then (1 : Int) else IntKind.i64.wrap ((IntKind.i64.wrap ((3 : Int) + (0 : Int))) - (IntKind.i64.wrap (2 * (0 : Int))))) + 1)) = 2 by kernel_rfl] at h6
        have hv : w6 = 0 ∨ w6 = 1 := by omega
        rcases hv with rfl | rfl
        · skip
          exact sixB_3_0_1_0_0 hh
        · skip
          exact sixB_3_0_1_0_1 hh
      · skip
        rw [show (IntKind.i64.wrap ((if (0 : Int) < (3 : Int) then (0 : Int) else (3 : Int)) + 1)) = 1 by kernel_rfl] at h5
        obtain rfl : w5 = 0 := by omega
        rw [show (IntKind.i64.wrap ((if (2 : Int) < (IntKind.i64.wrap ((IntKind.i64.wrap ((3 : Int) + (0 : Int))) - (IntKind.i64.wrap (2 * (0 : Int))))) then (2 : Int) else IntKind.i64.wrap ((IntKind.i64.wrap ((3 : Int) + (0 : Int))) - (IntKind.i64.wrap (2 * (0 : Int))))) + 1)) = 3 by kernel_rfl] at h6
        have hv : w6 = 0 ∨ w6 = 1 ∨ w6 = 2 := by omega
        rcases hv with rfl | rfl | rfl
        · skip
          exact sixB_3_0_2_0_0 hh
        · skip
          exact sixB_3_0_2_0_1 hh
        · skip
          exact sixB_3_0_2_0_2 hh
      · skip
        rw [show (IntKind.i64.wrap ((if (0 : Int) < (3 : Int) then (0 : Int) else (3 : Int)) + 1)) = 1 by kernel_rfl] at h5
        obtain rfl : w5 = 0 := by omega
        rw [show (IntKind.i64.wrap ((if (3 : Int) < (IntKind.i64.wrap ((IntKind.i64.wrap ((3 : Int) + (0 : Int))) - (IntKind.i64.wrap (2 * (0 : Int))))) then (3 : Int) else IntKind.i64.wrap ((IntKind.i64.wrap ((3 : Int) + (0 : Int))) - (IntKind.i64.wrap (2 * (0 : Int))))) + 1)) = 4 by kernel_rfl] at h6
        have hv : w6 = 0 ∨ w6 = 1 ∨ w6 = 2 ∨ w6 = 3 := by omega
        rcases hv with rfl | rfl | rfl | rfl
        · skip
          exact sixB_3_0_3_0_0 hh
        · skip
          exact sixB_3_0_3_0_1 hh
        · skip
          exact sixB_3_0_3_0_2 hh
        · skip
          exact sixB_3_0_3_0_3 hh
    · skip
      have hv : w4 = 0 ∨ w4 = 1 ∨ w4 = 2 ∨ w4 = 3 := by omega
      rcases hv with rfl | rfl | rfl | rfl
      · skip
        rw [show (IntKind.i64.wrap ((if (1 : Int) < (3 : Int) then (1 : Int) else (3 : Int)) + 1)) = 2 by kernel_rfl] at h5
        have hv : w5 = 0 ∨ w5 = 1 := by omega
        rcases hv with rfl | rfl
        · skip
          rw [show (IntKind.i64.wrap ((if (0 : Int) < (IntKind.i64.wrap ((IntKind.i64.wrap ((3 : Int) + (1 : Int))) - (IntKind.i64.wrap (2 * (0 : Int))))) then (0 : Int) else IntKind.i64.wrap ((IntKind.i64.wrap ((3 : Int) + (1 : Int))) - (IntKind.i64.wrap (2 * (0 : Int))))) + 1)) = 1 by kernel_rfl] at h6
          obtain rfl : w6 = 0 := by omega
          exact sixB_3_1_0_0_0 hh
        · skip
          rw [show (IntKind.i64.wrap ((if (0 : Int) < (IntKind.i64.wrap ((IntKind.i64.wrap ((3 : Int) + (1 : Int))) - (IntKind.i64.wrap (2 * (1 : Int))))) then (0 : Int) else IntKind.i64.wrap ((IntKind.i64.wrap ((3 : Int) + (1 : Int))) - (IntKind.i64.wrap (2 * (1 : Int))))) + 1)) = 1 by kernel_rfl] at h6
          obtain rfl : w6 = 0 := by omega
          exact sixB_3_1_0_1_0 hh
      · skip
        rw [show (IntKind.i64.wrap ((if (1 : Int) < (3 : Int) then (1 : Int) else (3 : Int)) + 1)) = 2 by kernel_rfl] at h5
        have hv : w5 = 0 ∨ w5 = 1 := by omega
        rcases hv with rfl | rfl
        · skip
          rw [show (IntKind.i64.wrap ((if (1 : Int) < (IntKind.i64.wrap ((IntKind.i64.wrap ((3 : Int) + (1 : Int))) - (IntKind.i64.wrap (2 * (0 : Int))))) then (1 : Int) else IntKind.i64.wrap ((IntKind.i64.wrap ((3 : Int) + (1 : Int))) - (IntKind.i64.wrap (2 * (0 : Int))))) + 1)) = 2 by kernel_rfl] at h6
          have hv : w6 = 0 ∨ w6 = 1 := by omega
          rcases hv with rfl | rfl
          · skip
            exact sixB_3_1_1_0_0 hh
          · skip
            exact sixB_3_1_1_0_1 hh
        · skip
          rw [show (IntKind.i64.wrap ((if (1 : Int) < (IntKind.i64.wrap ((IntKind.i64.wrap ((3 : Int) + (1 : Int))) - (IntKind.i64.wrap (2 * (1 : Int))))) then (1 : Int) else IntKind.i64.wrap ((IntKind.i64.wrap ((3 : Int) + (1 : Int))) - (IntKind.i64.wrap (2 * (1 : Int))))) + 1)) = 2 by kernel_rfl] at h6
          have hv : w6 = 0 ∨ w6 = 1 := by omega
          rcases hv with rfl | rfl
          · skip
            exact sixB_3_1_1_1_0 hh
          · skip
            exact sixB_3_1_1_1_1 hh
      · skip
        rw [show (IntKind.i64.wrap ((if (1 : Int) < (3 : Int) then (1 : Int) else (3 : Int)) + 1)) = 2 by kernel_rfl] at h5
        have hv : w5 = 0 ∨ w5 = 1 := by omega
        rcases hv with rfl | rfl
        · skip
          rw [show (IntKind.i64.wrap ((if (2 : Int) < (IntKind.i64.wrap ((IntKind.i64.wrap ((3 : Int) + (1 : Int))) - (IntKind.i64.wrap (2 * (0 : Int))))) then (2 : Int) else IntKind.i64.wrap ((IntKind.i64.wrap ((3 : Int) + (1 : Int))) - (IntKind.i64.wrap (2 * (0 : Int))))) + 1)) = 3 by kernel_rfl] at h6
          have hv : w6 = 0 ∨ w6 = 1 ∨ w6 = 2 := by omega
          rcases hv with rfl | rfl | rfl
          · skip
            exact sixB_3_1_2_0_0 hh
          · skip
            exact sixB_3_1_2_0_1 hh
          · skip
            exact sixB_3_1_2_0_2 hh
        · skip
          rw [show (IntKind.i64.wrap ((if (2 : Int) < (IntKind.i64.wrap ((IntKind.i64.wrap ((3 : Int) + (1 : Int))) - (IntKind.i64.wrap (2 * (1 : Int))))) then (2 : Int) else IntKind.i64.wrap ((IntKind.i64.wrap ((3 : Int) + (1 : Int))) - (IntKind.i64.wrap (2 * (1 : Int))))) + 1)) = 3 by kernel_rfl] at h6
          have hv : w6 = 0 ∨ w6 = 1 ∨ w6 = 2 := by omega
          rcases hv with rfl | rfl | rfl
          · skip
            exact sixB_3_1_2_1_0 hh
          · skip
            exact sixB_3_1_2_1_1 hh
          · skip
            exact sixB_3_1_2_1_2 hh
      · skip
        rw [show (IntKind.i64.wrap ((if (1 : Int) < (3 : Int) then (1 : Int) else (3 : Int)) + 1)) = 2 by kernel_rfl] at h5
        have hv : w5 = 0 ∨ w5 = 1 := by omega
        rcases hv with rfl | rfl
        · skip
          rw [show (IntKind.i64.wrap ((if (3 : Int) < (IntKind.i64.wrap ((IntKind.i64.wrap ((3 : Int) + (1 : Int))) - (IntKind.i64.wrap (2 * (0 : Int))))) then (3 : Int) else IntKind.i64.wrap ((IntKind.i64.wrap ((3 : Int) + (1 : Int))) - (IntKind.i64.wrap (2 * (0 : Int))))) + 1)) = 4 by kernel_rfl] at h6
          have hv : w6 = 0 ∨ w6 = 1 ∨ w6 = 2 ∨ w6 = 3 := by omega
          rcases hv with rfl | rfl | rfl | rfl
          · skip
            exact sixB_3_1_3_0_0 hh
          · skip
            exact sixB_3_1_3_0_1 hh
          · skip
            exact sixB_3_1_3_0_2 hh
          · skip
            exact sixB_3_1_3_0_3 hh
        · skip
          rw [show (IntKind.i64.wrap ((if (3 : Int) < (IntKind.i64.wrap ((IntKind.i64.wrap ((3 : Int) + (1 : Int))) - (IntKind.i64.wrap (2 * (1 : Int))))) then (3 : Int) else IntKind.i64.wrap ((IntKind.i64.wrap ((3 : Int) + (1 : Int))) - (IntKind.i64.wrap (2 * (1 : Int))))) + 1)) = 3 by kernel_rfl] at h6
          have hv : w6 = 0 ∨ w6 = 1 ∨ w6 = 2 := by omega
          rcases hv with rfl | rfl | rfl
          · skip
            exact sixB_3_1_3_1_0 hh
          · skip
            exact sixB_3_1_3_1_1 hh
          · skip
            exact sixB_3_1_3_1_2 hh
    · skip
      have hv : w4 = 0 ∨ w4 = 1 ∨ w4 = 2 ∨ w4 = 3 := by omega
      rcases hv with rfl | rfl | rfl | rfl
      · skip
        rw [show (IntKind.i64.wrap ((if (2 : Int) < (3 : Int) then (2 : Int) else (3 : Int)) + 1)) = 3 by kernel_rfl] at h5
        have hv : w5 = 0 ∨ w5 = 1 ∨ w5 = 2 := by omega
        rcases hv with rfl | rfl | rfl
        · skip
          rw [show (IntKind.i64.wrap ((if (0 : Int) < (IntKind.i64.wrap ((IntKind.i64.wrap ((3 : Int) + (2 : Int))) - (IntKind.i64.wrap (2 * (0 : Int))))) then (0 : Int) else IntKind.i64.wrap ((IntKind.i64.wrap ((3 : Int) + (2 : Int))) - (IntKind.i64.wrap (2 * (0 : Int))))) + 1)) = 1 by kernel_rfl] at h6
          obtain rfl : w6 = 0 := by omega
          exact sixB_3_2_0_0_0 hh
        · skip
          rw [show (IntKind.i64.wrap ((if (0 : Int) < (IntKind.i64.wrap ((IntKind.i64.wrap ((3 : Int) + (2 : Int))) - (IntKind.i64.wrap (2 * (1 : Int))))) then (0 : Int) else IntKind.i64.wrap ((IntKind.i64.wrap ((3 : Int) + (2 : Int))) - (IntKind.i64.wrap (2 * (1 : Int))))) + 1)) = 1 by kernel_rfl] at h6
          obtain rfl : w6 = 0 := by omega
          exact sixB_3_2_0_1_0 hh
        · skip
          rw [show (IntKind.i64.wrap ((if (0 : Int) < (IntKind.i64.wrap ((IntKind.i64.wrap ((3 : Int) + (2 : Int))) - (IntKind.i64.wrap (2 * (2 : Int))))) then (0 : Int) else IntKind.i64.wrap ((IntKind.i64.wrap ((3 : Int) + (2 : Int))) - (IntKind.i64.wrap (2 * (2 : Int))))) + 1)) = 1 by kernel_rfl] at h6
          obtain rfl : w6 = 0 := by omega
          exact sixB_3_2_0_2_0 hh
      · skip
        rw [show (IntKind.i64.wrap ((if (2 : Int) < (3 : Int) then (2 : Int) else (3 : Int)) + 1)) = 3 by kernel_rfl] at h5
        have hv : w5 = 0 ∨ w5 = 1 ∨ w5 = 2 := by omega
        rcases hv with rfl | rfl | rfl
        · skip
          rw [show (IntKind.i64.wrap ((if (1 : Int) < (IntKind.i64.wrap ((IntKind.i64.wrap ((3 : Int) + (2 : Int))) - (IntKind.i64.wrap (2 * (0 : Int))))) then (1 : Int) else IntKind.i64.wrap ((IntKind.i64.wrap ((3 : Int) + (2 : Int))) - (IntKind.i64.wrap (2 * (0 : Int))))) + 1)) = 2 by kernel_rfl] at h6
          have hv : w6 = 0 ∨ w6 = 1 := by omega
          rcases hv with rfl | rfl
          · skip
            exact sixB_3_2_1_0_0 hh
          · skip
            exact sixB_3_2_1_0_1 hh
        · skip
          rw [show (IntKind.i64.wrap ((if (1 : Int) < (IntKind.i64.wrap ((IntKind.i64.wrap ((3 : Int) + (2 : Int))) - (IntKind.i64.wrap (2 * (1 : Int))))) then (1 : Int) else IntKind.i64.wrap ((IntKind.i64.wrap ((3 : Int) + (2 : Int))) - (IntKind.i64.wrap (2 * (1 : Int))))) + 1)) = 2 by kernel_rfl] at h6
          have hv : w6 = 0 ∨ w6 = 1 := by omega
          rcases hv with rfl | rfl
          · skip
            exact sixB_3_2_1_1_0 hh
          · skip
            exact sixB_3_2_1_1_1 hh
        · skip
          rw [show (IntKind.i64.wrap ((if (1 : Int) < (IntKind.i64.wrap ((IntKind.i64.wrap ((3 : Int) + (2 : Int))) - (IntKind.i64.wrap (2 * (2 : Int))))) then (1 : Int) else IntKind.i64.wrap ((IntKind.i64.wrap ((3 : Int) + (2 : Int))) - (IntKind.i64.wrap (2 * (2 : Int))))) + 1)) = 2 by kernel_rfl] at h6
          have hv : w6 = 0 ∨ w6 = 1 := by omega
          rcases hv with rfl | rfl
          · skip
            exact sixB_3_2_1_2_0 hh
          · skip
            exact sixB_3_2_1_2_1 hh
      · skip
        rw [show (IntKind.i64.wrap ((if (2 : Int) < (3 : Int) then (2 : Int) else (3 : Int)) + 1)) = 3 by kernel_rfl] at h5
        have hv : w5 = 0 ∨ w5 = 1 ∨ w5 = 2 := by omega
        rcases hv with rfl | rfl | rfl
        · skip
          rw [show (IntKind.i64.wrap ((if (2 : Int) < (IntKind.i64.wrap ((IntKind.i64.wrap ((3 : Int) + (2 : Int))) - (IntKind.i64.wrap (2 * (0 : Int))))) then (2 : Int) else IntKind.i64.wrap ((IntKind.i64.wrap ((3 : Int) + (2 : Int))) - (IntKind.i64.wrap (2 * (0 : Int))))) + 1)) = 3 by kernel_rfl] at h6
          have hv : w6 = 0 ∨ w6 = 1 ∨ w6 = 2 := by omega
          rcases hv with rfl | rfl | rfl
          · skip
            exact sixB_3_2_2_0_0 hh
          · skip
            exact sixB_3_2_2_0_1 hh
          · skip
            exact sixB_3_2_2_0_2 hh
        · skip
          rw [show (IntKind.i64.wrap ((if (2 : Int) < (IntKind.i64.wrap ((IntKind.i64.wrap ((3 : Int) + (2 : Int))) - (IntKind.i64.wrap (2 * (1 : Int))))) then (2 : Int) else IntKind.i64.wrap ((IntKind.i64.wrap ((3 : Int) + (2 : Int))) - (IntKind.i64.wrap (2 * (1 : Int))))) + 1)) = 3 by kernel_rfl] at h6
          have hv : w6 = 0 ∨ w6 = 1 ∨ w6 = 2 := by omega
          rcases hv with rfl | rfl | rfl
          · skip
            exact sixB_3_2_2_1_0 hh
          · skip
            exact sixB_3_2_2_1_1 hh
          · skip
            exact sixB_3_2_2_1_2 hh
        · skip
          rw [show (IntKind.i64.wrap ((if (2 : Int) < (IntKind.i64.wrap ((IntKind.i64.wrap ((3 : Int) + (2 : Int))) - (IntKind.i64.wrap (2 * (2 : Int))))) then (2 : Int) else IntKind.i64.wrap ((IntKind.i64.wrap ((3 : Int) + (2 : Int))) - (IntKind.i64.wrap (2 * (2 : Int))))) + 1)) = 2 by kernel_rfl] at h6
          have hv : w6 = 0 ∨ w6 = 1 := by omega
          rcases hv with rfl | rfl
          · skip
            exact sixB_3_2_2_2_0 hh
          · skip
            exact sixB_3_2_2_2_1 hh
      · skip
        rw [show (IntKind.i64.wrap ((if (2 : Int) < (3 : Int) then (2 : Int) else (3 : Int)) + 1)) = 3 by kernel_rfl] at h5
        have hv : w5 = 0 ∨ w5 = 1 ∨ w5 = 2 := by omega
        rcases hv with rfl | rfl | rfl
        · skip
          rw [show (IntKind.i64.wrap ((if (3 : Int) < (IntKind.i64.wrap ((IntKind.i64.wrap ((3 : Int) + (2 : Int))) - (IntKind.i64.wrap (2 * (0 : Int))))) then (3 : Int) else IntKind.i64.wrap ((IntKind.i64.wrap ((3 : Int) + (2 : Int))) - (IntKind.i64.wrap (2 * (0 : Int))))) + 1)) = 4 by kernel_rfl] at h6
          have hv : w6 = 0 ∨ w6 = 1 ∨ w6 = 2 ∨ w6 = 3 := by omega
          rcases hv with rfl | rfl | rfl | rfl
          · skip
            exact sixB_3_2_3_0_0 hh
          · skip
            exact sixB_3_2_3_0_1 hh
          · skip
            exact sixB_3_2_3_0_2 hh
          · skip
            exact sixB_3_2_3_0_3 hh
        · skip
          rw [show (IntKind.i64.wrap ((if (3 : Int) < (IntKind.i64.wrap ((IntKind.i64.wrap ((3 : Int) + (2 : Int))) - (IntKind.i64.wrap (2 * (1 : Int))))) then (3 : Int) else IntKind.i64.wrap ((IntKind.i64.wrap ((3 : Int) + (2 : Int))) - (IntKind.i64.wrap (2 * (1 : Int))))) + 1)) = 4 by kernel_rfl] at h6
          have hv : w6 = 0 ∨ w6 = 1 ∨ w6 = 2 ∨ w6 = 3 := by omega
          rcases hv with rfl | rfl | rfl | rfl
          · skip
            exact sixB_3_2_3_1_0 hh
          · skip
            exact sixB_3_2_3_1_1 hh
          · skip
            exact sixB_3_2_3_1_2 hh
          · skip
            exact sixB_3_2_3_1_3 hh
        · skip
          rw [show (IntKind.i64.wrap ((if (3 : Int) < (IntKind.i64.wrap ((IntKind.i64.wrap ((3 : Int) + (2 : Int))) - (IntKind.i64.wrap (2 * (2 : Int))))) then (3 : Int) else IntKind.i64.wrap ((IntKind.i64.wrap ((3 : Int) + (2 : Int))) - (IntKind.i64.wrap (2 * (2 : Int))))) + 1)) = 2 by kernel_rfl] at h6
          have hv : w6 = 0 ∨ w6 = 1 := by omega
          rcases hv with rfl | rfl
          · skip
            exact sixB_3_2_3_2_0 hh
          · skip
            exact sixB_3_2_3_2_1 hh
    · skip
      have hv : w4 = 0 ∨ w4 = 1 ∨ w4 = 2 ∨ w4 = 3 := by omega
      rcases hv with rfl | rfl | rfl | rfl
      · skip
        rw [show (IntKind.i64.wrap ((if (3 : Int) < (3 : Int) then (3 : Int) else (3 : Int)) + 1)) = 4 by kernel_rfl] at h5
        have hv : w5 = 0 ∨ w5 = 1 ∨ w5 = 2 ∨ w5 = 3 := by omega
        rcases hv with rfl | rfl | rfl | rfl
        · skip
          rw [show (IntKind.i64.wrap ((if (0 : Int) < (IntKind.i64.wrap ((IntKind.i64.wrap ((3 : Int) + (3 : Int))) - (IntKind.i64.wrap (2 * (0 : Int))))) then (0 : Int) else IntKind.i64.wrap ((IntKind.i64.wrap ((3 : Int) + (3 : Int))) - (IntKind.i64.wrap (2 * (0 : Int))))) + 1)) = 1 by kernel_rfl] at h6
          obtain rfl : w6 = 0 := by omega
          exact sixB_3_3_0_0_0 hh
        · skip
          rw [show (IntKind.i64.wrap ((if (0 : Int) < (IntKind.i64.wrap ((IntKind.i64.wrap ((3 : Int) + (3 : Int))) - (IntKind.i64.wrap (2 * (1 : Int))))) then (0 : Int) else IntKind.i64.wrap ((IntKind.i64.wrap ((3 : Int) + (3 : Int))) - (IntKind.i64.wrap (2 * (1 : Int))))) + 1)) = 1 by kernel_rfl] at h6
          obtain rfl : w6 = 0 := by omega
          exact sixB_3_3_0_1_0 hh
        · skip
          rw [show (IntKind.i64.wrap ((if (0 : Int) < (IntKind.i64.wrap ((IntKind.i64.wrap ((3 : Int) + (3 : Int))) - (IntKind.i64.wrap (2 * (2 : Int))))) then (0 : Int) else IntKind.i64.wrap ((IntKind.i64.wrap ((3 : Int) + (3 : Int))) - (IntKind.i64.wrap (2 * (2 : Int))))) + 1)) = 1 by kernel_rfl] at h6
          obtain rfl : w6 = 0 := by omega
          exact sixB_3_3_0_2_0 hh
        · skip
          rw [show (IntKind.i64.wrap ((if (0 : Int) < (IntKind.i64.wrap ((IntKind.i64.wrap ((3 : Int) + (3 : Int))) - (IntKind.i64.wrap (2 * (3 : Int))))) then (0 : Int) else IntKind.i64.wrap ((IntKind.i64.wrap ((3 : Int) + (3 : Int))) - (IntKind.i64.wrap (2 * (3 : Int))))) + 1)) = 1 by kernel_rfl] at h6
          obtain rfl : w6 = 0 := by omega
          exact sixB_3_3_0_3_0 hh
      · skip
        rw [show (IntKind.i64.wrap ((if (3 : Int) < (3 : Int) then (3 : Int) else (3 : Int)) + 1)) = 4 by kernel_rfl] at h5
        have hv : w5 = 0 ∨ w5 = 1 ∨ w5 = 2 ∨ w5 = 3 := by omega
        rcases hv with rfl | rfl | rfl | rfl
        · skip
          rw [show (IntKind.i64.wrap ((if (1 : Int) < (IntKind.i64.wrap ((IntKind.i64.wrap ((3 : Int) + (3 : Int))) - (IntKind.i64.wrap (2 * (0 : Int))))) then (1 : Int) else IntKind.i64.wrap ((IntKind.i64.wrap ((3 : Int) + (3 : Int))) - (IntKind.i64.wrap (2 * (0 : Int))))) + 1)) = 2 by kernel_rfl] at h6
          have hv : w6 = 0 ∨ w6 = 1 := by omega
          rcases hv with rfl | rfl
          · skip
            exact sixB_3_3_1_0_0 hh
          · skip
            exact sixB_3_3_1_0_1 hh
        · skip
          rw [show (IntKind.i64.wrap ((if (1 : Int) < (IntKind.i64.wrap ((IntKind.i64.wrap ((3 : Int) + (3 : Int))) - (IntKind.i64.wrap (2 * (1 : Int))))) then (1 : Int) else IntKind.i64.wrap ((IntKind.i64.wrap ((3 : Int) + (3 : Int))) - (IntKind.i64.wrap (2 * (1 : Int))))) + 1)) = 2 by kernel_rfl] at h6
          have hv : w6 = 0 ∨ w6 = 1 := by omega
          rcases hv with rfl | rfl
          · skip
            exact sixB_3_3_1_1_0 hh
          · skip
            exact sixB_3_3_1_1_1 hh
        · skip
          rw [show (IntKind.i64.wrap ((if (1 : Int) < (IntKind.i64.wrap ((IntKind.i64.wrap ((3 : Int) + (3 : Int))) - (IntKind.i64.wrap (2 * (2 : Int))))) then (1 : Int) else IntKind.i64.wrap ((IntKind.i64.wrap ((3 : Int) + (3 : Int))) - (IntKind.i64.wrap (2 * (2 : Int))))) + 1)) = 2 by kernel_rfl] at h6
          have hv : w6 = 0 ∨ w6 = 1 := by omega
          rcases hv with rfl | rfl
          · skip
            exact sixB_3_3_1_2_0 hh
          · skip
            exact sixB_3_3_1_2_1 hh
        · skip
          rw [show (IntKind.i64.wrap ((if (1 : Int) < (IntKind.i64.wrap ((IntKind.i64.wrap ((3 : Int) + (3 : Int))) - (IntKind.i64.wrap (2 * (3 : Int))))) then (1 : Int) else IntKind.i64.wrap ((IntKind.i64.wrap ((3 : Int) + (3 : Int))) - (IntKind.i64.wrap (2 * (3 : Int))))) + 1)) = 1 by kernel_rfl] at h6
          obtain rfl : w6 = 0 := by omega
          exact sixB_3_3_1_3_0 hh
      · skip
        rw [show (IntKind.i64.wrap ((if (3 : Int) < (3 : Int) then (3 : Int) else (3 : Int)) + 1)) = 4 by kernel_rfl] at h5
        have hv : w5 = 0 ∨ w5 = 1 ∨ w5 = 2 ∨ w5 = 3 := by omega
        rcases hv with rfl | rfl | rfl | rfl
        · skip
          rw [show (IntKind.i64.wrap ((if (2 : Int) < (IntKind.i64.wrap ((IntKind.i64.wrap ((3 : Int) + (3 : Int))) - (IntKind.i64.wrap (2 * (0 : Int))))) then (2 : Int) else IntKind.i64.wrap ((IntKind.i64.wrap ((3 : Int) + (3 : Int))) - (IntKind.i64.wrap (2 * (0 : Int))))) + 1)) = 3 by kernel_rfl] at h6
          have hv : w6 = 0 ∨ w6 = 1 ∨ w6 = 2 := by omega
          rcases hv with rfl | rfl | rfl
          · skip
            exact sixB_3_3_2_0_0 hh
          · skip
            exact sixB_3_3_2_0_1 hh
          · skip
            exact sixB_3_3_2_0_2 hh
        · skip
          rw [show (IntKind.i64.wrap ((if (2 : Int) < (IntKind.i64.wrap ((IntKind.i64.wrap ((3 : Int) + (3 : Int))) - (IntKind.i64.wrap (2 * (1 : Int))))) then (2 : Int) else IntKind.i64.wrap ((IntKind.i64.wrap ((3 : Int) + (3 : Int))) - (IntKind.i64.wrap (2 * (1 : Int))))) + 1)) = 3 by kernel_rfl] at h6
          have hv : w6 = 0 ∨ w6 = 1 ∨ w6 = 2 := by omega
          rcases hv with rfl | rfl | rfl
          · skip
            exact sixB_3_3_2_1_0 hh
          · skip
            exact sixB_3_3_2_1_1 hh
          · skip
            exact sixB_3_3_2_1_2 hh
        · skip
          rw [show (IntKind.i64.wrap ((if (2 : Int) < (IntKind.i64.wrap ((IntKind.i64.wrap ((3 : Int) + (3 : Int))) - (IntKind.i64.wrap (2 * (2 : Int))))) then (2 : Int) else IntKind.i64.wrap ((IntKind.i64.wrap ((3 : Int) + (3 : Int))) - (IntKind.i64.wrap (2 * (2 : Int))))) + 1)) = 3 by kernel_rfl] at h6
          have hv : w6 = 0 ∨ w6 = 1 ∨ w6 = 2 := by omega
          rcases hv with rfl | rfl | rfl
          · skip
            exact sixB_3_3_2_2_0 hh
          · skip
            exact sixB_3_3_2_2_1 hh
          · skip
            exact sixB_3_3_2_2_2 hh
        · skip
          rw [show (IntKind.i64.wrap ((if (2 : Int) < (IntKind.i64.wrap ((IntKind.i64.wrap ((3 : Int) + (3 : Int))) - (IntKind.i64.wrap (2 * (3 : Int))))) then (2 : Int) else IntKind.i64.wrap ((IntKind.i64.wrap ((3 : Int) + (3 : Int))) - (IntKind.i64.wrap (2 * (3 : Int))))) + 1)) = 1 by kernel_rfl] at h6
          obtain rfl : w6 = 0 := by omega
          exact sixB_3_3_2_3_0 hh
      · skip
        rw [show (IntKind.i64.wrap ((if (3 : Int) < (3 : Int) then (3 : Int) else (3 : Int)) + 1)) = 4 by kernel_rfl] at h5
        have hv : w5 = 0 ∨ w5 = 1 ∨ w5 = 2 ∨ w5 = 3 := by omega
        rcases hv with rfl | rfl | rfl | rfl
        · skip
          rw [show (IntKind.i64.wrap ((if (3 : Int) < (IntKind.i64.wrap ((IntKind.i64.wrap ((3 : Int) + (3 : Int))) - (IntKind.i64.wrap (2 * (0 : Int))))) then (3 : Int) else IntKind.i64.wrap ((IntKind.i64.wrap ((3 : Int) + (3 : Int))) - (IntKind.i64.wrap (2 * (0 : Int))))) + 1)) = 4 by kernel_rfl] at h6
          have hv : w6 = 0 ∨ w6 = 1 ∨ w6 = 2 ∨ w6 = 3 := by omega
          rcases hv with rfl | rfl | rfl | rfl
          · skip
            exact sixB_3_3_3_0_0 hh
          · skip
            exact sixB_3_3_3_0_1 hh
          · skip
            exact sixB_3_3_3_0_2 hh
          · skip
            exact sixB_3_3_3_0_3 hh
        · skip
          rw [show (IntKind.i64.wrap ((if (3 : Int) < (IntKind.i64.wrap ((IntKind.i64.wrap ((3 : Int) + (3 : Int))) - (IntKind.i64.wrap (2 * (1 : Int))))) then (3 : Int) else IntKind.i64.wrap ((IntKind.i64.wrap ((3 : Int) + (3 : Int))) - (IntKind.i64.wrap (2 * (1 : Int))))) + 1)) = 4 by kernel_rfl] at h6
          have hv : w6 = 0 ∨ w6 = 1 ∨ w6 = 2 ∨ w6 = 3 := by omega
          rcases hv with rfl | rfl | rfl | rfl
          · skip
            exact sixB_3_3_3_1_0 hh
          · skip
            exact sixB_3_3_3_1_1 hh
          · skip
            exact sixB_3_3_3_1_2 hh
          · skip
            exact sixB_3_3_3_1_3 hh
        · skip
          rw [show (IntKind.i64.wrap ((if (3 : Int) < (IntKind.i64.wrap ((IntKind.i64.wrap ((3 : Int) + (3 : Int))) - (IntKind.i64.wrap (2 * (2 : Int))))) then (3 : Int) else IntKind.i64.wrap ((IntKind.i64.wrap ((3 : Int) + (3 : Int))) - (IntKind.i64.wrap (2 * (2 : Int))))) + 1)) = 3 by kernel_rfl] at h6
          have hv : w6 = 0 ∨ w6 = 1 ∨ w6 = 2 := by omega
          rcases hv with rfl | rfl | rfl
          · skip
            exact sixB_3_3_3_2_0 hh
          · skip
            exact sixB_3_3_3_2_1 hh
          · skip
            exact sixB_3_3_3_2_2 hh
        · skip
          rw [show (IntKind.i64.wrap ((if (3 : Int) < (IntKind.i64.wrap ((IntKind.i64.wrap ((3 : Int) + (3 : Int))) - (IntKind.i64.wrap (2 * (3 : Int))))) then (3 : Int) else IntKind.i64.wrap ((IntKind.i64.wrap ((3 : Int) + (3 : Int))) - (IntKind.i64.wrap (2 * (3 : Int))))) + 1)) = 1 by kernel_rfl] at h6
          obtain rfl : w6 = 0 := by omega
          exact sixB_3_3_3_3_0 hh
noncomputable section
theorem bytes_wf {l : List Int} (h : ∀ z ∈ l, (Lit.int .u8 z).wf = true) : bytesB l = true := by
  unfold bytesB
  rw [List.all_eq_true]
  intro z hz
  have hw := h z hz
  simp only [Lit.wf, Bool.and_eq_true, decide_eq_true_eq] at hw
  have h1 : (0 : Int) ≤ z := hw.1
  have h2 : z ≤ 255 := hw.2
  exact decide_eq_true (by omega)
theorem H_sixA (n : Nat) (m : Nat) (l0 : List Int) (l1 : List Int) (hl : l1.length = m) (hb : bytesB l1 = true) : md_sixA 40 n m l0 l1 = some (.bool true, [.at false (.int .u8 l0), .at false (.int .u8 l1)]) := by
  unfold md_sixA
  cases hg : longB n m with
  | true => rfl
  | false =>
    unfold longB at hg
    simp only [Bool.or_eq_false_iff, decide_eq_false_iff_not] at hg
    have hb' : bytesB l1 = true := hb
    have hok : ∀ i : Int, 0 ≤ i → i < 1000 → atOk m l1 i = true := fun i h1 h2 => decide_eq_true ⟨hl, by omega, h1, h2⟩
    have hat : ∀ i k : Int, 0 ≤ i → i < 1000 → 1 ≤ k → 0 ≤ atF l1 i k ∧ atF l1 i k < k := fun i k h1 h2 h3 => atF_range hb' h1 h2 h3
    rw [hok 0 (by omega) (by omega), hok 1 (by omega) (by omega), hok 2 (by omega) (by omega), hok 3 (by omega) (by omega), hok 4 (by omega) (by omega)]
    simp only [tr_sixA12]
    obtain ⟨w2, e0⟩ : ∃ w : Int, w = atF l1 0 4 := ⟨_, rfl⟩
    obtain ⟨w3, e1⟩ : ∃ w : Int, w = atF l1 1 4 := ⟨_, rfl⟩
    obtain ⟨w4, e2⟩ : ∃ w : Int, w = atF l1 2 4 := ⟨_, rfl⟩
    obtain ⟨w5, e3⟩ : ∃ w : Int, w = atF l1 3 (IntKind.i64.wrap ((if w3 < w2 then w3 else w2) + 1)) := ⟨_, rfl⟩
    obtain ⟨w6, e4⟩ : ∃ w : Int, w = atF l1 4 (IntKind.i64.wrap ((if w4 < (IntKind.i64.wrap ((IntKind.i64.wrap (w2 + w3)) - (IntKind.i64.wrap (2 * w5)))) then w4 else IntKind.i64.wrap ((IntKind.i64.wrap (w2 + w3)) - (IntKind.i64.wrap (2 * w5)))) + 1)) := ⟨_, rfl⟩
    have g0 : 0 ≤ w2 ∧ w2 < 4 := by rw [e0]; exact hat _ _ (by omega) (by omega) (by omega)
    have g1 : 0 ≤ w3 ∧ w3 < 4 := by rw [e1]; exact hat _ _ (by omega) (by omega) (by omega)
    have g2 : 0 ≤ w4 ∧ w4 < 4 := by rw [e2]; exact hat _ _ (by omega) (by omega) (by omega)
    have g3 : 0 ≤ w5 ∧ w5 < (IntKind.i64.wrap ((if w3 < w2 then w3 else w2) + 1)) := by rw [e3]; exact hat _ _ (by omega) (by omega) (by rw [wrap_n (by split <;> omega) (by split <;> omega)]; split <;> omega)
    have q3 : w5 < w2 + 1 ∧ w5 < w3 + 1 := by
      have := g3.2
      rw [wrap_n (by split <;> omega) (by split <;> omega)] at this
      split at this <;> omega
    have g4 : 0 ≤ w6 ∧ w6 < (IntKind.i64.wrap ((if w4 < (IntKind.i64.wrap ((IntKind.i64.wrap (w2 + w3)) - (IntKind.i64.wrap (2 * w5)))) then w4 else IntKind.i64.wrap ((IntKind.i64.wrap (w2 + w3)) - (IntKind.i64.wrap (2 * w5)))) + 1)) := by rw [e4]; exact hat _ _ (by omega) (by omega) (by rw [wrap_n (n := w2 + w3) (by omega) (by omega), wrap_n (n := 2 * w5) (by omega) (by omega), wrap_n (n := w2 + w3 - 2 * w5) (by omega) (by omega), wrap_n (by split <;> omega) (by split <;> omega)]; split <;> omega)
    refine Eq.trans ?_ (six_main [.at false (.int .u8 l0), .at false (.int .u8 l1)] g0 g1 g2 g3 g4)
    rw [e4, e3, e2, e1, e0]
    kernel_rfl
theorem H_sixB (n : Nat) (l0 : List Int) : md_sixB 40 n l0 = some (.bool true, [.at false (.int .u8 l0)]) := by
  unfold md_sixB
  cases hg : longB n 0 with
  | true => rfl
  | false =>
    unfold longB at hg
    simp only [Bool.or_eq_false_iff, decide_eq_false_iff_not] at hg
    have hb' : bytesB [] = true := rfl
    have hok : ∀ i : Int, 0 ≤ i → i < 1000 → atOk 0 [] i = true := fun i h1 h2 => decide_eq_true ⟨rfl, by omega, h1, h2⟩
    have hat : ∀ i k : Int, 0 ≤ i → i < 1000 → 1 ≤ k → 0 ≤ atF [] i k ∧ atF [] i k < k := fun i k h1 h2 h3 => atF_range hb' h1 h2 h3
    rw [hok 0 (by omega) (by omega), hok 1 (by omega) (by omega), hok 2 (by omega) (by omega), hok 3 (by omega) (by omega), hok 4 (by omega) (by omega)]
    simp only [tr_sixB12]
    obtain ⟨w2, e0⟩ : ∃ w : Int, w = atF [] 0 4 := ⟨_, rfl⟩
    obtain ⟨w3, e1⟩ : ∃ w : Int, w = atF [] 1 4 := ⟨_, rfl⟩
    obtain ⟨w4, e2⟩ : ∃ w : Int, w = atF [] 2 4 := ⟨_, rfl⟩
    obtain ⟨w5, e3⟩ : ∃ w : Int, w = atF [] 3 (IntKind.i64.wrap ((if w3 < w2 then w3 else w2) + 1)) := ⟨_, rfl⟩
    obtain ⟨w6, e4⟩ : ∃ w : Int, w = atF [] 4 (IntKind.i64.wrap ((if w4 < (IntKind.i64.wrap ((IntKind.i64.wrap (w2 + w3)) - (IntKind.i64.wrap (2 * w5)))) then w4 else IntKind.i64.wrap ((IntKind.i64.wrap (w2 + w3)) - (IntKind.i64.wrap (2 * w5)))) + 1)) := ⟨_, rfl⟩
    have g0 : 0 ≤ w2 ∧ w2 < 4 := by rw [e0]; exact hat _ _ (by omega) (by omega) (by omega)
    have g1 : 0 ≤ w3 ∧ w3 < 4 := by rw [e1]; exact hat _ _ (by omega) (by omega) (by omega)
    have g2 : 0 ≤ w4 ∧ w4 < 4 := by rw [e2]; exact hat _ _ (by omega) (by omega) (by omega)
    have g3 : 0 ≤ w5 ∧ w5 < (IntKind.i64.wrap ((if w3 < w2 then w3 else w2) + 1)) := by rw [e3]; exact hat _ _ (by omega) (by omega) (by rw [wrap_n (by split <;> omega) (by split <;> omega)]; split <;> omega)
    have q3 : w5 < w2 + 1 ∧ w5 < w3 + 1 := by
      have := g3.2
      rw [wrap_n (by split <;> omega) (by split <;> omega)] at this
      split at this <;> omega
    have g4 : 0 ≤ w6 ∧ w6 < (IntKind.i64.wrap ((if w4 < (IntKind.i64.wrap ((IntKind.i64.wrap (w2 + w3)) - (IntKind.i64.wrap (2 * w5)))) then w4 else IntKind.i64.wrap ((IntKind.i64.wrap (w2 + w3)) - (IntKind.i64.wrap (2 * w5)))) + 1)) := by rw [e4]; exact hat _ _ (by omega) (by omega) (by rw [wrap_n (n := w2 + w3) (by omega) (by omega), wrap_n (n := 2 * w5) (by omega) (by omega), wrap_n (n := w2 + w3 - 2 * w5) (by omega) (by omega), wrap_n (by split <;> omega) (by split <;> omega)]; split <;> omega)
    refine Eq.trans ?_ (six_main [.at false (.int .u8 l0)] g0 g1 g2 g3 g4)
    rw [e4, e3, e2, e1, e0]
    kernel_rfl
theorem H_sixC (m : Nat) (l1 : List Int) (hl : l1.length = m) (hb : bytesB l1 = true) : md_sixC 40 m l1 = some (.bool true, [.at false (.int .u8 l1)]) := by
  unfold md_sixC
  cases hg : longB 0 m with
  | true => rfl
  | false =>
    unfold longB at hg
    simp only [Bool.or_eq_false_iff, decide_eq_false_iff_not] at hg
    have hb' : bytesB l1 = true := hb
    have hok : ∀ i : Int, 0 ≤ i → i < 1000 → atOk m l1 i = true := fun i h1 h2 => decide_eq_true ⟨hl, by omega, h1, h2⟩
    have hat : ∀ i k : Int, 0 ≤ i → i < 1000 → 1 ≤ k → 0 ≤ atF l1 i k ∧ atF l1 i k < k := fun i k h1 h2 h3 => atF_range hb' h1 h2 h3
    rw [hok 0 (by omega) (by omega), hok 1 (by omega) (by omega), hok 2 (by omega) (by omega), hok 3 (by omega) (by omega), hok 4 (by omega) (by omega)]
    simp only [tr_sixC12]
    obtain ⟨w2, e0⟩ : ∃ w : Int, w = atF l1 0 4 := ⟨_, rfl⟩
    obtain ⟨w3, e1⟩ : ∃ w : Int, w = atF l1 1 4 := ⟨_, rfl⟩
    obtain ⟨w4, e2⟩ : ∃ w : Int, w = atF l1 2 4 := ⟨_, rfl⟩
    obtain ⟨w5, e3⟩ : ∃ w : Int, w = atF l1 3 (IntKind.i64.wrap ((if w3 < w2 then w3 else w2) + 1)) := ⟨_, rfl⟩
    obtain ⟨w6, e4⟩ : ∃ w : Int, w = atF l1 4 (IntKind.i64.wrap ((if w4 < (IntKind.i64.wrap ((IntKind.i64.wrap (w2 + w3)) - (IntKind.i64.wrap (2 * w5)))) then w4 else IntKind.i64.wrap ((IntKind.i64.wrap (w2 + w3)) - (IntKind.i64.wrap (2 * w5)))) + 1)) := ⟨_, rfl⟩
    have g0 : 0 ≤ w2 ∧ w2 < 4 := by rw [e0]; exact hat _ _ (by omega) (by omega) (by omega)
    have g1 : 0 ≤ w3 ∧ w3 < 4 := by rw [e1]; exact hat _ _ (by omega) (by omega) (by omega)
    have g2 : 0 ≤ w4 ∧ w4 < 4 := by rw [e2]; exact hat _ _ (by omega) (by omega) (by omega)
    have g3 : 0 ≤ w5 ∧ w5 < (IntKind.i64.wrap ((if w3 < w2 then w3 else w2) + 1)) := by rw [e3]; exact hat _ _ (by omega) (by omega) (by rw [wrap_n (by split <;> omega) (by split <;> omega)]; split <;> omega)
    have q3 : w5 < w2 + 1 ∧ w5 < w3 + 1 := by
      have := g3.2
      rw [wrap_n (by split <;> omega) (by split <;> omega)] at this
      split at this <;> omega
    have g4 : 0 ≤ w6 ∧ w6 < (IntKind.i64.wrap ((if w4 < (IntKind.i64.wrap ((IntKind.i64.wrap (w2 + w3)) - (IntKind.i64.wrap (2 * w5)))) then w4 else IntKind.i64.wrap ((IntKind.i64.wrap (w2 + w3)) - (IntKind.i64.wrap (2 * w5)))) + 1)) := by rw [e4]; exact hat _ _ (by omega) (by omega) (by rw [wrap_n (n := w2 + w3) (by omega) (by omega), wrap_n (n := 2 * w5) (by omega) (by omega), wrap_n (n := w2 + w3 - 2 * w5) (by omega) (by omega), wrap_n (by split <;> omega) (by split <;> omega)]; split <;> omega)
    refine Eq.trans ?_ (six_main [.at false (.int .u8 l1)] g0 g1 g2 g3 g4)
    rw [e4, e3, e2, e1, e0]
    kernel_rfl
theorem H_sixD  : md_sixD 40  = some (.bool true, []) := by
  unfold md_sixD
  cases hg : longB 0 0 with
  | true => rfl
  | false =>
    unfold longB at hg
    simp only [Bool.or_eq_false_iff, decide_eq_false_iff_not] at hg
    have hb' : bytesB [] = true := rfl
    have hok : ∀ i : Int, 0 ≤ i → i < 1000 → atOk 0 [] i = true := fun i h1 h2 => decide_eq_true ⟨rfl, by omega, h1, h2⟩
    have hat : ∀ i k : Int, 0 ≤ i → i < 1000 → 1 ≤ k → 0 ≤ atF [] i k ∧ atF [] i k < k := fun i k h1 h2 h3 => atF_range hb' h1 h2 h3
    rw [hok 0 (by omega) (by omega), hok 1 (by omega) (by omega), hok 2 (by omega) (by omega), hok 3 (by omega) (by omega), hok 4 (by omega) (by omega)]
    
    obtain ⟨w2, e0⟩ : ∃ w : Int, w = atF [] 0 4 := ⟨_, rfl⟩
    obtain ⟨w3, e1⟩ : ∃ w : Int, w = atF [] 1 4 := ⟨_, rfl⟩
    obtain ⟨w4, e2⟩ : ∃ w : Int, w = atF [] 2 4 := ⟨_, rfl⟩
    obtain ⟨w5, e3⟩ : ∃ w : Int, w = atF [] 3 (IntKind.i64.wrap ((if w3 < w2 then w3 else w2) + 1)) := ⟨_, rfl⟩
    obtain ⟨w6, e4⟩ : ∃ w : Int, w = atF [] 4 (IntKind.i64.wrap ((if w4 < (IntKind.i64.wrap ((IntKind.i64.wrap (w2 + w3)) - (IntKind.i64.wrap (2 * w5)))) then w4 else IntKind.i64.wrap ((IntKind.i64.wrap (w2 + w3)) - (IntKind.i64.wrap (2 * w5)))) + 1)) := ⟨_, rfl⟩
    have g0 : 0 ≤ w2 ∧ w2 < 4 := by rw [e0]; exact hat _ _ (by omega) (by omega) (by omega)
    have g1 : 0 ≤ w3 ∧ w3 < 4 := by rw [e1]; exact hat _ _ (by omega) (by omega) (by omega)
    have g2 : 0 ≤ w4 ∧ w4 < 4 := by rw [e2]; exact hat _ _ (by omega) (by omega) (by omega)
    have g3 : 0 ≤ w5 ∧ w5 < (IntKind.i64.wrap ((if w3 < w2 then w3 else w2) + 1)) := by rw [e3]; exact hat _ _ (by omega) (by omega) (by rw [wrap_n (by split <;> omega) (by split <;> omega)]; split <;> omega)
    have q3 : w5 < w2 + 1 ∧ w5 < w3 + 1 := by
      have := g3.2
      rw [wrap_n (by split <;> omega) (by split <;> omega)] at this
      split at this <;> omega
    have g4 : 0 ≤ w6 ∧ w6 < (IntKind.i64.wrap ((if w4 < (IntKind.i64.wrap ((IntKind.i64.wrap (w2 + w3)) - (IntKind.i64.wrap (2 * w5)))) then w4 else IntKind.i64.wrap ((IntKind.i64.wrap (w2 + w3)) - (IntKind.i64.wrap (2 * w5)))) + 1)) := by rw [e4]; exact hat _ _ (by omega) (by omega) (by rw [wrap_n (n := w2 + w3) (by omega) (by omega), wrap_n (n := 2 * w5) (by omega) (by omega), wrap_n (n := w2 + w3 - 2 * w5) (by omega) (by omega), wrap_n (by split <;> omega) (by split <;> omega)]; split <;> omega)
    refine Eq.trans ?_ (six_main [] g0 g1 g2 g3 g4)
    rw [e4, e3, e2, e1, e0]
    kernel_rfl
def gBytes : G := fun vs h => match vs, h with
  | [.sl 0 0 n, .sl 1 0 m], [.at false (.int .u8 l0), .at false (.int .u8 l1)] => if n = l0.length ∧ m = l1.length ∧ bytesB l0 = true ∧ bytesB l1 = true then some (.bool true, [.at false (.int .u8 l0), .at false (.int .u8 l1)]) else none
  | [.sl 0 0 n, .nil], [.at false (.int .u8 l0)] => if n = l0.length ∧ bytesB l0 = true then some (.bool true, [.at false (.int .u8 l0)]) else none
  | [.nil, .sl 0 0 m], [.at false (.int .u8 l1)] => if m = l1.length ∧ bytesB l1 = true then some (.bool true, [.at false (.int .u8 l1)]) else none
  | [.nil, .nil], [] => some (.bool true, [])
  | _, _ => none
theorem ok_lawsix : FnOk Try.prog 13 gBytes := by
  intro vs hp v h' e
  rw [T.run_of] at e
  unfold gBytes at e
  split at e
  · rename_i n m l0 l1
    split at e
    · rename_i hc
      cases e
      refine FnT.runs tabok_sixA Try.func13 rfl rfl an_sixA 40 _ _ _ _ ?_
      rw [T.run_of]
      exact Eq.trans (mdl_sixA 40 n m l0 l1) (H_sixA n m l0 l1 hc.2.1.symm hc.2.2.2)
    · cases e
  · rename_i n l0
    split at e
    · rename_i hc
      cases e
      refine FnT.runs tabok_sixB Try.func13 rfl rfl an_sixB 40 _ _ _ _ ?_
      rw [T.run_of]
      exact Eq.trans (mdl_sixB 40 n l0) (H_sixB n l0)
    · cases e
  · rename_i m l1
    split at e
    · rename_i hc
      cases e
      refine FnT.runs tabok_sixC Try.func13 rfl rfl an_sixC 40 _ _ _ _ ?_
      rw [T.run_of]
      exact Eq.trans (mdl_sixC 40 m l1) (H_sixC m l1 hc.1.symm hc.2)
    · cases e
  · cases e
    refine FnT.runs tabok_sixD Try.func13 rfl rfl an_sixD 40 _ _ _ _ ?_
    rw [T.run_of]
    exact Eq.trans (mdl_sixD 40) H_sixD
  · cases e
end

end Go.Proofs.Ytbhfjdlhhjeknaa.Ab

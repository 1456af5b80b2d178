/- What the proof names: lemmas and words, merged by a program from its parts. No condition. -/
import Derived.Test.YtpeplbbphpamhaaZ11
namespace Go.Proofs.Ytpeplbbphpamhaa.Ab
set_option linter.unusedVariables false
set_option linter.unusedSimpArgs false
open Go
def an_lawA : Ann := ⟨fun r => if r = 14 then some ([5, 6, 7, 8, 14, 15, 16], [4, 5, 6, 7, 8, 14, 15]) else if r = 33 then some ([5, 6, 7, 8, 23, 27], [4]) else none, fun _ _ => .quiet⟩
noncomputable def tab_lawA : Fns := tabT [(4, gLong), (5, gAt), (6, g_R8), (7, g_gl), (8, g_CB), (9, g_lo), (10, gT gG8), (11, g_so), (12, g_ov)]
theorem tabok_lawA : ∀ f, FnT Try.prog f (tab_lawA f) := (tabT_cons (k := 4) ok_Long (tabT_cons (k := 5) ok_At (tabT_cons (k := 6) ok_R8 (tabT_cons (k := 7) ok_gl (tabT_cons (k := 8) ok_CB (tabT_cons (k := 9) ok_lo (tabT_cons (k := 10) ok_r8g (tabT_cons (k := 11) ok_so (tabT_cons (k := 12) ok_ov tabT_nil)))))))))
def st_lawA14 (n5 : Int) (rows6n : Nat) (beside7 : Nat) (levels8n : Nat) (sum14 : Nat) (trace15 : Nat) (k16 : Int) (rw0 : Bool) (l0 : List Int) (rw1 : Bool) (l1 : List Int) (l2 : List Nat) (l3 : List Nat) : St := ⟨(.any :: .any :: .any :: .any :: .any :: .int .i64 n5 :: .sl 2 0 rows6n :: .fl .f32 beside7 :: .sl 3 0 levels8n :: .any :: .any :: .any :: .any :: .any :: .fl .f64 sum14 :: .fl .f64 trace15 :: .int .i64 k16 :: (anys 257 [])), [.at rw0 (.int .u8 l0), .at rw1 (.int .u8 l1), .at true (.fl .f32 l2), .at true (.fl .f32 l3)]⟩
abbrev kp_lawA14 : Option (List Nat × List Nat) := some ([5, 6, 7, 8, 14, 15, 16], [4, 5, 6, 7, 8, 14, 15])
noncomputable def lp_lawA14 {R : Type} (N M : Nat) (s : St) (K : X → St → Option R) : Option R := loopH 2 kp_lawA14 (fun st K => exec ty tab_lawA an_lawA N 2 (atOf [true, true, true, true, true, true, true, true, true, true, true, false, true, false, false] Try.f3) st K) M s K
noncomputable def kt_lawA14 {R : Type} (N : Nat) (K : X → St → Option R) : X → St → Option R := kBlkR 0 (kSeqR tab_lawA an_lawA N 2 (atOf [true, true, true, true, true, true, true, true, true, true, true, true] Try.f3) (K))
def st_lawA33 (n5 : Int) (rows6n : Nat) (beside7 : Nat) (levels8n : Nat) (state23n : Nat) (i27 : Int) (rw0 : Bool) (l0 : List Int) (rw1 : Bool) (l1 : List Int) (l2 : List Nat) (l3 : List Nat) (l4 : List Nat) : St := ⟨(.any :: .any :: .any :: .any :: .any :: .int .i64 n5 :: .sl 2 0 rows6n :: .fl .f32 beside7 :: .sl 3 0 levels8n :: (anys 14 (.sl 4 0 state23n :: .any :: .any :: .any :: .int .i64 i27 :: (anys 246 [])))), [.at rw0 (.int .u8 l0), .at rw1 (.int .u8 l1), .at true (.fl .f32 l2), .at true (.fl .f32 l3), .at true (.fl .f32 l4)]⟩
abbrev kp_lawA33 : Option (List Nat × List Nat) := some ([5, 6, 7, 8, 23, 27], [4])
noncomputable def lp_lawA33 {R : Type} (N M : Nat) (s : St) (K : X → St → Option R) : Option R := loopH 2 kp_lawA33 (fun st K => exec ty tab_lawA an_lawA N 2 (atOf [true, true, true, true, true, true, true, true, true, true, true, true, true, true, true, true, true, false, true, false, true, false, false] Try.f3) st K) M s K
noncomputable def kt_lawA33 {R : Type} (N : Nat) (K : X → St → Option R) : X → St → Option R := kBlkR 2 (kSeqR tab_lawA an_lawA N 2 (atOf [true, true, true, true, true, true, true, true, true, true, true, true, true, true, true, true, true, true] Try.f3) (K))
def en_lawA14_0 (n5 : Int) (rows6n : Nat) (beside7 : Nat) (levels8n : Nat) (sum14 : Nat) (trace15 : Nat) (rw0 : Bool) (l0 : List Int) (rw1 : Bool) (l1 : List Int) (l2 : List Nat) (l3 : List Nat) : St := ⟨(.any :: .any :: .any :: .any :: .bool false :: .int .i64 n5 :: .sl 2 0 rows6n :: .fl .f32 beside7 :: .sl 3 0 levels8n :: .any :: .any :: .any :: .any :: .any :: .fl .f64 sum14 :: .fl .f64 trace15 :: (anys 258 [])), [.at rw0 (.int .u8 l0), .at rw1 (.int .u8 l1), .at true (.fl .f32 l2), .at true (.fl .f32 l3)]⟩
def en_lawA14_1 (n5 : Int) (rows6n : Nat) (beside7 : Nat) (levels8n : Nat) (sum14 : Nat) (trace15 : Nat) (rw0 : Bool) (l0 : List Int) (rw1 : Bool) (l1 : List Int) (l2 : List Nat) (l3 : List Nat) : St := ⟨(.any :: .any :: .any :: .any :: .any :: .int .i64 n5 :: .sl 2 0 rows6n :: .fl .f32 beside7 :: .sl 3 0 levels8n :: .any :: .any :: .any :: .any :: .any :: .fl .f64 sum14 :: .fl .f64 trace15 :: (anys 258 [])), [.at rw0 (.int .u8 l0), .at rw1 (.int .u8 l1), .at true (.fl .f32 l2), .at true (.fl .f32 l3)]⟩
def en_lawA33_0 (rw0 : Bool) (l0 : List Int) (rw1 : Bool) (l1 : List Int) : St := ⟨(.any :: .any :: .any :: .any :: .bool false :: (anys 269 [])), [.at rw0 (.int .u8 l0), .at rw1 (.int .u8 l1)]⟩
def en_lawA33_1 (rw0 : Bool) (l0 : List Int) (rw1 : Bool) (l1 : List Int) : St := ⟨(anys 274 []), [.at rw0 (.int .u8 l0), .at rw1 (.int .u8 l1)]⟩
theorem run_lawA (N : Nat) (n : Nat) (m : Nat) (r : Bool) (l : List Int) (q : Bool) (l' : List Int) : run ty tab_lawA an_lawA N Try.f3 [.sl 0 0 n, .sl 1 0 m] [.at r (.int .u8 l), .at q (.int .u8 l')]
    = (match longB n m with | true => some (.bool true, [.at r (.int .u8 l), .at q (.int .u8 l')]) | false => (match atOk m l' 40 with | true => (match (d_rr n (IntKind.i64.wrap (1 + (atF l' 40 8))) r l).isSome with | true => (match atOk m l' 41 with | true => (match (d_gl ((v_rr n (IntKind.i64.wrap (1 + (atF l' 40 8))) r l).1) (fop .quo .f32 (fneg .f32 (floatOfInt .f32 (IntKind.i64.wrap (1 + (atF l' 41 8))))) 1082130432) (IntKind.i64.wrap (1 + (atF l' 40 8))) 36 true ((v_rr n (IntKind.i64.wrap (1 + (atF l' 40 8))) r l).2)).isSome with | true => (match (d_CB ((v_rr n (IntKind.i64.wrap (1 + (atF l' 40 8))) r l).1) (fop .quo .f32 (fneg .f32 (floatOfInt .f32 (IntKind.i64.wrap (1 + (atF l' 41 8))))) 1082130432) 3267887104 true ((v_rr n (IntKind.i64.wrap (1 + (atF l' 40 8))) r l).2)).isSome with | true => (match (d_CB ((v_rr n (IntKind.i64.wrap (1 + (atF l' 40 8))) r l).1) (fop .quo .f32 (fneg .f32 (floatOfInt .f32 (IntKind.i64.wrap (1 + (atF l' 41 8))))) 1082130432) 1120403456 true ((v_rr n (IntKind.i64.wrap (1 + (atF l' 40 8))) r l).2)).isSome with | true => (match !((v_CB ((v_rr n (IntKind.i64.wrap (1 + (atF l' 40 8))) r l).1) (fop .quo .f32 (fneg .f32 (floatOfInt .f32 (IntKind.i64.wrap (1 + (atF l' 41 8))))) 1082130432) 3267887104 true ((v_rr n (IntKind.i64.wrap (1 + (atF l' 40 8))) r l).2)).2) with | true => some (.bool false, [.at r (.int .u8 l), .at q (.int .u8 l')]) | false => (match !((v_CB ((v_rr n (IntKind.i64.wrap (1 + (atF l' 40 8))) r l).1) (fop .quo .f32 (fneg .f32 (floatOfInt .f32 (IntKind.i64.wrap (1 + (atF l' 41 8))))) 1082130432) 1120403456 true ((v_rr n (IntKind.i64.wrap (1 + (atF l' 40 8))) r l).2)).2) with | true => some (.bool false, [.at r (.int .u8 l), .at q (.int .u8 l')]) | false => (match (((v_gl ((v_rr n (IntKind.i64.wrap (1 + (atF l' 40 8))) r l).1) (fop .quo .f32 (fneg .f32 (floatOfInt .f32 (IntKind.i64.wrap (1 + (atF l' 41 8))))) 1082130432) (IntKind.i64.wrap (1 + (atF l' 40 8))) 36 true ((v_rr n (IntKind.i64.wrap (1 + (atF l' 40 8))) r l).2)).1 : Nat) : Int) != (IntKind.i64.wrap (1 + (atF l' 40 8))) with | true => some (.bool false, [.at r (.int .u8 l), .at q (.int .u8 l')]) | false => (match ((v_CB ((v_rr n (IntKind.i64.wrap (1 + (atF l' 40 8))) r l).1) (fop .quo .f32 (fneg .f32 (floatOfInt .f32 (IntKind.i64.wrap (1 + (atF l' 41 8))))) 1082130432) 3267887104 true ((v_rr n (IntKind.i64.wrap (1 + (atF l' 40 8))) r l).2)).1) != 0 with | true => some (.bool false, [.at r (.int .u8 l), .at q (.int .u8 l')]) | false => (match ((v_CB ((v_rr n (IntKind.i64.wrap (1 + (atF l' 40 8))) r l).1) (fop .quo .f32 (fneg .f32 (floatOfInt .f32 (IntKind.i64.wrap (1 + (atF l' 41 8))))) 1082130432) 1120403456 true ((v_rr n (IntKind.i64.wrap (1 + (atF l' 40 8))) r l).2)).1) != (IntKind.i64.wrap (1 + (atF l' 40 8))) with | true => some (.bool false, [.at r (.int .u8 l), .at q (.int .u8 l')]) | false => lp_lawA14 N N (st_lawA14 (IntKind.i64.wrap (1 + (atF l' 40 8))) ((v_rr n (IntKind.i64.wrap (1 + (atF l' 40 8))) r l).1) (fop .quo .f32 (fneg .f32 (floatOfInt .f32 (IntKind.i64.wrap (1 + (atF l' 41 8))))) 1082130432) ((v_gl ((v_rr n (IntKind.i64.wrap (1 + (atF l' 40 8))) r l).1) (fop .quo .f32 (fneg .f32 (floatOfInt .f32 (IntKind.i64.wrap (1 + (atF l' 41 8))))) 1082130432) (IntKind.i64.wrap (1 + (atF l' 40 8))) 36 true ((v_rr n (IntKind.i64.wrap (1 + (atF l' 40 8))) r l).2)).1) 0 0 0 r l q l' ((v_rr n (IntKind.i64.wrap (1 + (atF l' 40 8))) r l).2) ((v_gl ((v_rr n (IntKind.i64.wrap (1 + (atF l' 40 8))) r l).1) (fop .quo .f32 (fneg .f32 (floatOfInt .f32 (IntKind.i64.wrap (1 + (atF l' 41 8))))) 1082130432) (IntKind.i64.wrap (1 + (atF l' 40 8))) 36 true ((v_rr n (IntKind.i64.wrap (1 + (atF l' 40 8))) r l).2)).2)) (kt_lawA14 N (kEnd Try.f3 2))))))) | false => none) | false => none) | false => none) | false => none) | false => none) | false => none)) := by
  kernel_rfl
theorem step_lawA14 {R : Type} (N M : Nat) (K : X → St → Option R) (n5 : Int) (rows6n : Nat) (beside7 : Nat) (levels8n : Nat) (sum14 : Nat) (trace15 : Nat) (k16 : Int) (rw0 : Bool) (l0 : List Int) (rw1 : Bool) (l1 : List Int) (l2 : List Nat) (l3 : List Nat) : lp_lawA14 N (M + 1) (st_lawA14 n5 rows6n beside7 levels8n sum14 trace15 k16 rw0 l0 rw1 l1 l2 l3) K
    = (match decide ((k16 : Int) < n5) with | true => (match (d_lo rows6n beside7 k16 36 true l2).isSome with | true => (match decide (0 ≤ (k16 : Int) ∧ (k16 : Int) < ((levels8n : Nat) : Int)) with | true => (match l3[0 + (k16).toNat * 1]? with | some e1 => (match (d_CB rows6n beside7 (fop .sub .f32 e1 1008981770) true l2).isSome with | true => (match decide (0 ≤ (k16 : Int) ∧ (k16 : Int) < ((levels8n : Nat) : Int)) with | true => (match l3[0 + (k16).toNat * 1]? with | some e2 => (match (d_CB rows6n beside7 (fop .add .f32 e2 1008981770) true l2).isSome with | true => (match decide (0 ≤ (k16 : Int) ∧ (k16 : Int) < ((levels8n : Nat) : Int)) with | true => (match l3[0 + (k16).toNat * 1]? with | some e3 => (match fconv .f32 e3 .f64 with | some c4 => (match decide (0 ≤ (k16 : Int) ∧ (k16 : Int) < ((rows6n : Nat) : Int)) with | true => (match l2[0 + (k16).toNat * 1]? with | some e5 => (match fconv .f32 e5 .f64 with | some c6 => (match !((v_lo rows6n beside7 k16 36 true l2).2) with | true => K .ret (en_lawA14_0 n5 rows6n beside7 levels8n (fop .add .f64 sum14 c4) (fop .add .f64 trace15 c6) rw0 l0 rw1 l1 l2 l3) | false => (match !((v_CB rows6n beside7 (fop .sub .f32 e1 1008981770) true l2).2) with | true => K .ret (en_lawA14_0 n5 rows6n beside7 levels8n (fop .add .f64 sum14 c4) (fop .add .f64 trace15 c6) rw0 l0 rw1 l1 l2 l3) | false => (match !((v_CB rows6n beside7 (fop .add .f32 e2 1008981770) true l2).2) with | true => K .ret (en_lawA14_0 n5 rows6n beside7 levels8n (fop .add .f64 sum14 c4) (fop .add .f64 trace15 c6) rw0 l0 rw1 l1 l2 l3) | false => (match decide (0 ≤ (k16 : Int) ∧ (k16 : Int) < ((levels8n : Nat) : Int)) with | true => (match l3[0 + (k16).toNat * 1]? with | some e7 => (match FloatKind.f32.format.order ((v_lo rows6n beside7 k16 36 true l2).1) e7 != some .eq with | true => K .ret (en_lawA14_0 n5 rows6n beside7 levels8n (fop .add .f64 sum14 c4) (fop .add .f64 trace15 c6) rw0 l0 rw1 l1 l2 l3) | false => (match decide ((k16 : Int) > 0) with | true => (match decide (0 ≤ (k16 : Int) ∧ (k16 : Int) < ((levels8n : Nat) : Int)) with | true => (match l3[0 + (k16).toNat * 1]? with | some e8 => (match decide (0 ≤ (IntKind.i64.wrap (k16 - 1) : Int) ∧ (IntKind.i64.wrap (k16 - 1) : Int) < ((levels8n : Nat) : Int)) with | true => (match l3[0 + (IntKind.i64.wrap (k16 - 1)).toNat * 1]? with | some e9 => (match ltB e8 e9 with | true => K .ret (en_lawA14_0 n5 rows6n beside7 levels8n (fop .add .f64 sum14 c4) (fop .add .f64 trace15 c6) rw0 l0 rw1 l1 l2 l3) | false => (match decide (((v_CB rows6n beside7 (fop .sub .f32 e1 1008981770) true l2).1 : Int) > k16) with | true => K .ret (en_lawA14_0 n5 rows6n beside7 levels8n (fop .add .f64 sum14 c4) (fop .add .f64 trace15 c6) rw0 l0 rw1 l1 l2 l3) | false => (match decide (((v_CB rows6n beside7 (fop .add .f32 e2 1008981770) true l2).1 : Int) < (IntKind.i64.wrap (k16 + 1))) with | true => K .ret (en_lawA14_0 n5 rows6n beside7 levels8n (fop .add .f64 sum14 c4) (fop .add .f64 trace15 c6) rw0 l0 rw1 l1 l2 l3) | false => lp_lawA14 N M (st_lawA14 n5 rows6n beside7 levels8n (fop .add .f64 sum14 c4) (fop .add .f64 trace15 c6) (IntKind.i64.wrap (k16 + 1)) rw0 l0 rw1 l1 l2 l3) K))) | none => none) | false => none) | none => none) | false => none) | false => (match decide (((v_CB rows6n beside7 (fop .sub .f32 e1 1008981770) true l2).1 : Int) > k16) with | true => K .ret (en_lawA14_0 n5 rows6n beside7 levels8n (fop .add .f64 sum14 c4) (fop .add .f64 trace15 c6) rw0 l0 rw1 l1 l2 l3) | false => (match decide (((v_CB rows6n beside7 (fop .add .f32 e2 1008981770) true l2).1 : Int) < (IntKind.i64.wrap (k16 + 1))) with | true => K .ret (en_lawA14_0 n5 rows6n beside7 levels8n (fop .add .f64 sum14 c4) (fop .add .f64 trace15 c6) rw0 l0 rw1 l1 l2 l3) | false => lp_lawA14 N M (st_lawA14 n5 rows6n beside7 levels8n (fop .add .f64 sum14 c4) (fop .add .f64 trace15 c6) (IntKind.i64.wrap (k16 + 1)) rw0 l0 rw1 l1 l2 l3) K)))) | none => none) | false => none)))) | none => none) | none => none) | false => none) | none => none) | none => none) | false => none) | false => none) | none => none) | false => none) | false => none) | none => none) | false => none) | false => none) | false => K (.exit 0) (en_lawA14_1 n5 rows6n beside7 levels8n sum14 trace15 rw0 l0 rw1 l1 l2 l3)) := by
  kernel_rfl
theorem step_lawA33 {R : Type} (N M : Nat) (K : X → St → Option R) (n5 : Int) (rows6n : Nat) (beside7 : Nat) (levels8n : Nat) (state23n : Nat) (i27 : Int) (rw0 : Bool) (l0 : List Int) (rw1 : Bool) (l1 : List Int) (l2 : List Nat) (l3 : List Nat) (l4 : List Nat) : lp_lawA33 N (M + 1) (st_lawA33 n5 rows6n beside7 levels8n state23n i27 rw0 l0 rw1 l1 l2 l3 l4) K
    = (match decide ((i27 : Int) < n5) with | true => (match decide (0 ≤ (i27 : Int) ∧ (i27 : Int) < ((rows6n : Nat) : Int)) with | true => (match l2[0 + (i27).toNat * 1]? with | some e1 => (match decide (0 ≤ (0 : Int) ∧ (0 : Int) < ((levels8n : Nat) : Int)) with | true => (match l3[0]? with | some e2 => (match decide (0 ≤ (i27 : Int) ∧ (i27 : Int) < ((state23n : Nat) : Int)) with | true => (match l4[0 + (i27).toNat * 1]? with | some e3 => (match decide ((i27 : Int) > 0) with | true => (match decide (0 ≤ (IntKind.i64.wrap (i27 - 1) : Int) ∧ (IntKind.i64.wrap (i27 - 1) : Int) < ((state23n : Nat) : Int)) with | true => (match l4[0 + (IntKind.i64.wrap (i27 - 1)).toNat * 1]? with | some e4 => (match decide ((IntKind.i64.wrap (i27 + 1) : Int) < n5) with | true => (match decide (0 ≤ (IntKind.i64.wrap (i27 + 1) : Int) ∧ (IntKind.i64.wrap (i27 + 1) : Int) < ((state23n : Nat) : Int)) with | true => (match l4[0 + (IntKind.i64.wrap (i27 + 1)).toNat * 1]? with | some e5 => (match gtD (r8G (fop .add .f32 (fop .add .f32 (fop .mul .f32 (fop .sub .f32 e1 e2) e3) (fop .mul .f32 beside7 e4)) (fop .mul .f32 beside7 e5)) 0) 4576918229304087675 with | true => K .ret (en_lawA33_0 rw0 l0 rw1 l1) | false => lp_lawA33 N M (st_lawA33 n5 rows6n beside7 levels8n state23n (IntKind.i64.wrap (i27 + 1)) rw0 l0 rw1 l1 l2 l3 l4) K) | none => none) | false => none) | false => (match gtD (r8G (fop .add .f32 (fop .mul .f32 (fop .sub .f32 e1 e2) e3) (fop .mul .f32 beside7 e4)) 0) 4576918229304087675 with | true => K .ret (en_lawA33_0 rw0 l0 rw1 l1) | false => lp_lawA33 N M (st_lawA33 n5 rows6n beside7 levels8n state23n (IntKind.i64.wrap (i27 + 1)) rw0 l0 rw1 l1 l2 l3 l4) K)) | none => none) | false => none) | false => (match decide ((IntKind.i64.wrap (i27 + 1) : Int) < n5) with | true => (match decide (0 ≤ (IntKind.i64.wrap (i27 + 1) : Int) ∧ (IntKind.i64.wrap (i27 + 1) : Int) < ((state23n : Nat) : Int)) with | true => (match l4[0 + (IntKind.i64.wrap (i27 + 1)).toNat * 1]? with | some e6 => (match gtD (r8G (fop .add .f32 (fop .mul .f32 (fop .sub .f32 e1 e2) e3) (fop .mul .f32 beside7 e6)) 0) 4576918229304087675 with | true => K .ret (en_lawA33_0 rw0 l0 rw1 l1) | false => lp_lawA33 N M (st_lawA33 n5 rows6n beside7 levels8n state23n (IntKind.i64.wrap (i27 + 1)) rw0 l0 rw1 l1 l2 l3 l4) K) | none => none) | false => none) | false => (match gtD (r8G (fop .mul .f32 (fop .sub .f32 e1 e2) e3) 0) 4576918229304087675 with | true => K .ret (en_lawA33_0 rw0 l0 rw1 l1) | false => lp_lawA33 N M (st_lawA33 n5 rows6n beside7 levels8n state23n (IntKind.i64.wrap (i27 + 1)) rw0 l0 rw1 l1 l2 l3 l4) K))) | none => none) | false => none) | none => none) | false => none) | none => none) | false => none) | false => K (.exit 2) (en_lawA33_1 rw0 l0 rw1 l1)) := by
  kernel_rfl
theorem end_lawA14_0 (N : Nat) (n5 : Int) (rows6n : Nat) (beside7 : Nat) (levels8n : Nat) (sum14 : Nat) (trace15 : Nat) (rw0 : Bool) (l0 : List Int) (rw1 : Bool) (l1 : List Int) (l2 : List Nat) (l3 : List Nat) : kt_lawA14 N (kEnd Try.f3 2) .ret (en_lawA14_0 n5 rows6n beside7 levels8n sum14 trace15 rw0 l0 rw1 l1 l2 l3)
    = some (.bool false, [.at rw0 (.int .u8 l0), .at rw1 (.int .u8 l1)]) := by
  kernel_rfl
theorem end_lawA14_1 (N : Nat) (n5 : Int) (rows6n : Nat) (beside7 : Nat) (levels8n : Nat) (sum14 : Nat) (trace15 : Nat) (rw0 : Bool) (l0 : List Int) (rw1 : Bool) (l1 : List Int) (l2 : List Nat) (l3 : List Nat) : kt_lawA14 N (kEnd Try.f3 2) (.exit 0) (en_lawA14_1 n5 rows6n beside7 levels8n sum14 trace15 rw0 l0 rw1 l1 l2 l3)
    = (match fconv .f64 sum14 .f32 with | some c1 => (match fconv .f64 trace15 .f32 with | some c2 => (match gtD (r8G c1 c2) 4576918229304087675 with | true => some (.bool false, [.at rw0 (.int .u8 l0), .at rw1 (.int .u8 l1)]) | false => (match decide (0 ≤ (0 : Int) ∧ (0 : Int) < ((levels8n : Nat) : Int)) with | true => (match l3[0]? with | some e3 => (match (d_so rows6n beside7 e3 4 l2).isSome with | true => (match (((v_so rows6n beside7 e3 4 l2).1 : Nat) : Int) != n5 with | true => some (.bool false, [.at rw0 (.int .u8 l0), .at rw1 (.int .u8 l1)]) | false => (match (d_ov ((v_so rows6n beside7 e3 4 l2).1) ((v_so rows6n beside7 e3 4 l2).1) true ((v_so rows6n beside7 e3 4 l2).2)).isSome with | true => (match !((v_ov ((v_so rows6n beside7 e3 4 l2).1) ((v_so rows6n beside7 e3 4 l2).1) true ((v_so rows6n beside7 e3 4 l2).2)).2) with | true => some (.bool false, [.at rw0 (.int .u8 l0), .at rw1 (.int .u8 l1)]) | false => (match gtD (r8G ((v_ov ((v_so rows6n beside7 e3 4 l2).1) ((v_so rows6n beside7 e3 4 l2).1) true ((v_so rows6n beside7 e3 4 l2).2)).1) 1065353216) 4562254508917369340 with | true => some (.bool false, [.at rw0 (.int .u8 l0), .at rw1 (.int .u8 l1)]) | false => (match decide ((n5 : Int) > 1) with | true => (match decide (0 ≤ (1 : Int) ∧ (1 : Int) < ((levels8n : Nat) : Int)) with | true => (match l3[1]? with | some e4 => (match decide (0 ≤ (0 : Int) ∧ (0 : Int) < ((levels8n : Nat) : Int)) with | true => (match l3[0]? with | some e5 => (match gtB (fop .sub .f32 e4 e5) 1048576000 with | true => lp_lawA33 N N (st_lawA33 n5 rows6n beside7 levels8n ((v_so rows6n beside7 e3 4 l2).1) 0 rw0 l0 rw1 l1 l2 l3 ((v_so rows6n beside7 e3 4 l2).2)) (kt_lawA33 N (kEnd Try.f3 2)) | false => some (.bool true, [.at rw0 (.int .u8 l0), .at rw1 (.int .u8 l1)])) | none => none) | false => none) | none => none) | false => none) | false => some (.bool true, [.at rw0 (.int .u8 l0), .at rw1 (.int .u8 l1)])))) | false => none)) | false => none) | none => none) | false => none)) | none => none) | none => none) := by
  kernel_rfl
theorem end_lawA33_0 (N : Nat) (rw0 : Bool) (l0 : List Int) (rw1 : Bool) (l1 : List Int) : kt_lawA33 N (kEnd Try.f3 2) .ret (en_lawA33_0 rw0 l0 rw1 l1)
    = some (.bool false, [.at rw0 (.int .u8 l0), .at rw1 (.int .u8 l1)]) := by
  kernel_rfl
theorem end_lawA33_1 (N : Nat) (rw0 : Bool) (l0 : List Int) (rw1 : Bool) (l1 : List Int) : kt_lawA33 N (kEnd Try.f3 2) (.exit 2) (en_lawA33_1 rw0 l0 rw1 l1)
    = some (.bool true, [.at rw0 (.int .u8 l0), .at rw1 (.int .u8 l1)]) := by
  kernel_rfl
noncomputable def ce_lawA33_0 (N : Nat) (rw0 : Bool) (l0 : List Int) (rw1 : Bool) (l1 : List Int) : Option (V × H) := some (.bool false, [.at rw0 (.int .u8 l0), .at rw1 (.int .u8 l1)])
noncomputable def ce_lawA33_1 (N : Nat) (rw0 : Bool) (l0 : List Int) (rw1 : Bool) (l1 : List Int) : Option (V × H) := some (.bool true, [.at rw0 (.int .u8 l0), .at rw1 (.int .u8 l1)])
noncomputable def mb_lawA33 (N : Nat) (k0 : Bool → List Int → Bool → List Int → Option (V × H)) (k1 : Bool → List Int → Bool → List Int → Option (V × H)) (rq : Int → Nat → Nat → Nat → Nat → Int → Bool → List Int → Bool → List Int → List Nat → List Nat → List Nat → Option (V × H)) : Int → Nat → Nat → Nat → Nat → Int → Bool → List Int → Bool → List Int → List Nat → List Nat → List Nat → Option (V × H) := fun (n5 : Int) (rows6n : Nat) (beside7 : Nat) (levels8n : Nat) (state23n : Nat) (i27 : Int) (rw0 : Bool) (l0 : List Int) (rw1 : Bool) (l1 : List Int) (l2 : List Nat) (l3 : List Nat) (l4 : List Nat) => (match decide ((i27 : Int) < n5) with | true => (match decide (0 ≤ (i27 : Int) ∧ (i27 : Int) < ((rows6n : Nat) : Int)) with | true => (match l2[0 + (i27).toNat * 1]? with | some e1 => (match decide (0 ≤ (0 : Int) ∧ (0 : Int) < ((levels8n : Nat) : Int)) with | true => (match l3[0]? with | some e2 => (match decide (0 ≤ (i27 : Int) ∧ (i27 : Int) < ((state23n : Nat) : Int)) with | true => (match l4[0 + (i27).toNat * 1]? with | some e3 => (match decide ((i27 : Int) > 0) with | true => (match decide (0 ≤ (IntKind.i64.wrap (i27 - 1) : Int) ∧ (IntKind.i64.wrap (i27 - 1) : Int) < ((state23n : Nat) : Int)) with | true => (match l4[0 + (IntKind.i64.wrap (i27 - 1)).toNat * 1]? with | some e4 => (match decide ((IntKind.i64.wrap (i27 + 1) : Int) < n5) with | true => (match decide (0 ≤ (IntKind.i64.wrap (i27 + 1) : Int) ∧ (IntKind.i64.wrap (i27 + 1) : Int) < ((state23n : Nat) : Int)) with | true => (match l4[0 + (IntKind.i64.wrap (i27 + 1)).toNat * 1]? with | some e5 => (match gtD (r8G (fop .add .f32 (fop .add .f32 (fop .mul .f32 (fop .sub .f32 e1 e2) e3) (fop .mul .f32 beside7 e4)) (fop .mul .f32 beside7 e5)) 0) 4576918229304087675 with | true => (k0 rw0 l0 rw1 l1) | false => (rq n5 rows6n beside7 levels8n state23n (IntKind.i64.wrap (i27 + 1)) rw0 l0 rw1 l1 l2 l3 l4)) | none => none) | false => none) | false => (match gtD (r8G (fop .add .f32 (fop .mul .f32 (fop .sub .f32 e1 e2) e3) (fop .mul .f32 beside7 e4)) 0) 4576918229304087675 with | true => (k0 rw0 l0 rw1 l1) | false => (rq n5 rows6n beside7 levels8n state23n (IntKind.i64.wrap (i27 + 1)) rw0 l0 rw1 l1 l2 l3 l4))) | none => none) | false => none) | false => (match decide ((IntKind.i64.wrap (i27 + 1) : Int) < n5) with | true => (match decide (0 ≤ (IntKind.i64.wrap (i27 + 1) : Int) ∧ (IntKind.i64.wrap (i27 + 1) : Int) < ((state23n : Nat) : Int)) with | true => (match l4[0 + (IntKind.i64.wrap (i27 + 1)).toNat * 1]? with | some e6 => (match gtD (r8G (fop .add .f32 (fop .mul .f32 (fop .sub .f32 e1 e2) e3) (fop .mul .f32 beside7 e6)) 0) 4576918229304087675 with | true => (k0 rw0 l0 rw1 l1) | false => (rq n5 rows6n beside7 levels8n state23n (IntKind.i64.wrap (i27 + 1)) rw0 l0 rw1 l1 l2 l3 l4)) | none => none) | false => none) | false => (match gtD (r8G (fop .mul .f32 (fop .sub .f32 e1 e2) e3) 0) 4576918229304087675 with | true => (k0 rw0 l0 rw1 l1) | false => (rq n5 rows6n beside7 levels8n state23n (IntKind.i64.wrap (i27 + 1)) rw0 l0 rw1 l1 l2 l3 l4)))) | none => none) | false => none) | none => none) | false => none) | none => none) | false => none) | false => (k1 rw0 l0 rw1 l1))
noncomputable def mr_lawA33 (N : Nat) (k0 : Bool → List Int → Bool → List Int → Option (V × H)) (k1 : Bool → List Int → Bool → List Int → Option (V × H)) (M : Nat) : Int → Nat → Nat → Nat → Nat → Int → Bool → List Int → Bool → List Int → List Nat → List Nat → List Nat → Option (V × H) := Nat.rec (motive := fun _ => Int → Nat → Nat → Nat → Nat → Int → Bool → List Int → Bool → List Int → List Nat → List Nat → List Nat → Option (V × H)) (fun (_ : Int) (_ : Nat) (_ : Nat) (_ : Nat) (_ : Nat) (_ : Int) (_ : Bool) (_ : List Int) (_ : Bool) (_ : List Int) (_ : List Nat) (_ : List Nat) (_ : List Nat) => none) (fun _ rq => mb_lawA33 N k0 k1 rq) M
theorem mrs_lawA33 (N : Nat) (k0 : Bool → List Int → Bool → List Int → Option (V × H)) (k1 : Bool → List Int → Bool → List Int → Option (V × H)) (M : Nat) (n5 : Int) (rows6n : Nat) (beside7 : Nat) (levels8n : Nat) (state23n : Nat) (i27 : Int) (rw0 : Bool) (l0 : List Int) (rw1 : Bool) (l1 : List Int) (l2 : List Nat) (l3 : List Nat) (l4 : List Nat) : mr_lawA33 N k0 k1 (M + 1) n5 rows6n beside7 levels8n state23n i27 rw0 l0 rw1 l1 l2 l3 l4 = mb_lawA33 N k0 k1 (mr_lawA33 N k0 k1 M) n5 rows6n beside7 levels8n state23n i27 rw0 l0 rw1 l1 l2 l3 l4 := rfl
theorem H_lawA33 (N : Nat) : ∀ (M : Nat) (n5 : Int) (rows6n : Nat) (beside7 : Nat) (levels8n : Nat) (state23n : Nat) (i27 : Int) (rw0 : Bool) (l0 : List Int) (rw1 : Bool) (l1 : List Int) (l2 : List Nat) (l3 : List Nat) (l4 : List Nat), lp_lawA33 N M (st_lawA33 n5 rows6n beside7 levels8n state23n i27 rw0 l0 rw1 l1 l2 l3 l4) (kt_lawA33 N (kEnd Try.f3 2)) = mr_lawA33 N (ce_lawA33_0 N) (ce_lawA33_1 N) M n5 rows6n beside7 levels8n state23n i27 rw0 l0 rw1 l1 l2 l3 l4 := by
  have he0 : ∀ (rw0 : Bool) (l0 : List Int) (rw1 : Bool) (l1 : List Int), kt_lawA33 N (kEnd Try.f3 2) .ret (en_lawA33_0 rw0 l0 rw1 l1) = ce_lawA33_0 N rw0 l0 rw1 l1 := by
    intro rw0 l0 rw1 l1
    rw [end_lawA33_0]
    unfold ce_lawA33_0
    first | (simp only []; done) | (simp only []; kernel_rfl) | rfl
  have he1 : ∀ (rw0 : Bool) (l0 : List Int) (rw1 : Bool) (l1 : List Int), kt_lawA33 N (kEnd Try.f3 2) (.exit 2) (en_lawA33_1 rw0 l0 rw1 l1) = ce_lawA33_1 N rw0 l0 rw1 l1 := by
    intro rw0 l0 rw1 l1
    rw [end_lawA33_1]
    unfold ce_lawA33_1
    first | (simp only []; done) | (simp only []; kernel_rfl) | rfl
  intro M
  induction M with
  | zero => intros; rfl
  | succ M ih =>
    intro n5 rows6n beside7 levels8n state23n i27 rw0 l0 rw1 l1 l2 l3 l4
    rw [step_lawA33]
    rw [mrs_lawA33]
    unfold mb_lawA33
    first | (simp only [ih, he0, he1]; done) | (simp only [ih, he0, he1]; kernel_rfl) | rfl
noncomputable def ce_lawA14_0 (N : Nat) (n5 : Int) (rows6n : Nat) (beside7 : Nat) (levels8n : Nat) (sum14 : Nat) (trace15 : Nat) (rw0 : Bool) (l0 : List Int) (rw1 : Bool) (l1 : List Int) (l2 : List Nat) (l3 : List Nat) : Option (V × H) := some (.bool false, [.at rw0 (.int .u8 l0), .at rw1 (.int .u8 l1)])
noncomputable def ce_lawA14_1 (N : Nat) (n5 : Int) (rows6n : Nat) (beside7 : Nat) (levels8n : Nat) (sum14 : Nat) (trace15 : Nat) (rw0 : Bool) (l0 : List Int) (rw1 : Bool) (l1 : List Int) (l2 : List Nat) (l3 : List Nat) : Option (V × H) := (match fconv .f64 sum14 .f32 with | some c1 => (match fconv .f64 trace15 .f32 with | some c2 => (match gtD (r8G c1 c2) 4576918229304087675 with | true => some (.bool false, [.at rw0 (.int .u8 l0), .at rw1 (.int .u8 l1)]) | false => (match decide (0 ≤ (0 : Int) ∧ (0 : Int) < ((levels8n : Nat) : Int)) with | true => (match l3[0]? with | some e3 => (match (d_so rows6n beside7 e3 4 l2).isSome with | true => (match (((v_so rows6n beside7 e3 4 l2).1 : Nat) : Int) != n5 with | true => some (.bool false, [.at rw0 (.int .u8 l0), .at rw1 (.int .u8 l1)]) | false => (match (d_ov ((v_so rows6n beside7 e3 4 l2).1) ((v_so rows6n beside7 e3 4 l2).1) true ((v_so rows6n beside7 e3 4 l2).2)).isSome with | true => (match !((v_ov ((v_so rows6n beside7 e3 4 l2).1) ((v_so rows6n beside7 e3 4 l2).1) true ((v_so rows6n beside7 e3 4 l2).2)).2) with | true => some (.bool false, [.at rw0 (.int .u8 l0), .at rw1 (.int .u8 l1)]) | false => (match gtD (r8G ((v_ov ((v_so rows6n beside7 e3 4 l2).1) ((v_so rows6n beside7 e3 4 l2).1) true ((v_so rows6n beside7 e3 4 l2).2)).1) 1065353216) 4562254508917369340 with | true => some (.bool false, [.at rw0 (.int .u8 l0), .at rw1 (.int .u8 l1)]) | false => (match decide ((n5 : Int) > 1) with | true => (match decide (0 ≤ (1 : Int) ∧ (1 : Int) < ((levels8n : Nat) : Int)) with | true => (match l3[1]? with | some e4 => (match decide (0 ≤ (0 : Int) ∧ (0 : Int) < ((levels8n : Nat) : Int)) with | true => (match l3[0]? with | some e5 => (match gtB (fop .sub .f32 e4 e5) 1048576000 with | true => (mr_lawA33 N (ce_lawA33_0 N) (ce_lawA33_1 N) N n5 rows6n beside7 levels8n ((v_so rows6n beside7 e3 4 l2).1) 0 rw0 l0 rw1 l1 l2 l3 ((v_so rows6n beside7 e3 4 l2).2)) | false => some (.bool true, [.at rw0 (.int .u8 l0), .at rw1 (.int .u8 l1)])) | none => none) | false => none) | none => none) | false => none) | false => some (.bool true, [.at rw0 (.int .u8 l0), .at rw1 (.int .u8 l1)])))) | false => none)) | false => none) | none => none) | false => none)) | none => none) | none => none)
noncomputable def mb_lawA14 (N : Nat) (k0 : Int → Nat → Nat → Nat → Nat → Nat → Bool → List Int → Bool → List Int → List Nat → List Nat → Option (V × H)) (k1 : Int → Nat → Nat → Nat → Nat → Nat → Bool → List Int → Bool → List Int → List Nat → List Nat → Option (V × H)) (rq : Int → Nat → Nat → Nat → Nat → Nat → Int → Bool → List Int → Bool → List Int → List Nat → List Nat → Option (V × H)) : Int → Nat → Nat → Nat → Nat → Nat → Int → Bool → List Int → Bool → List Int → List Nat → List Nat → Option (V × H) := fun (n5 : Int) (rows6n : Nat) (beside7 : Nat) (levels8n : Nat) (sum14 : Nat) (trace15 : Nat) (k16 : Int) (rw0 : Bool) (l0 : List Int) (rw1 : Bool) (l1 : List Int) (l2 : List Nat) (l3 : List Nat) => (match decide ((k16 : Int) < n5) with | true => (match (d_lo rows6n beside7 k16 36 true l2).isSome with | true => (match decide (0 ≤ (k16 : Int) ∧ (k16 : Int) < ((levels8n : Nat) : Int)) with | true => (match l3[0 + (k16).toNat * 1]? with | some e1 => (match (d_CB rows6n beside7 (fop .sub .f32 e1 1008981770) true l2).isSome with | true => (match decide (0 ≤ (k16 : Int) ∧ (k16 : Int) < ((levels8n : Nat) : Int)) with | true => (match l3[0 + (k16).toNat * 1]? with | some e2 => (match (d_CB rows6n beside7 (fop .add .f32 e2 1008981770) true l2).isSome with | true => (match decide (0 ≤ (k16 : Int) ∧ (k16 : Int) < ((levels8n : Nat) : Int)) with | true => (match l3[0 + (k16).toNat * 1]? with | some e3 => (match fconv .f32 e3 .f64 with | some c4 => (match decide (0 ≤ (k16 : Int) ∧ (k16 : Int) < ((rows6n : Nat) : Int)) with | true => (match l2[0 + (k16).toNat * 1]? with | some e5 => (match fconv .f32 e5 .f64 with | some c6 => (match !((v_lo rows6n beside7 k16 36 true l2).2) with | true => (k0 n5 rows6n beside7 levels8n (fop .add .f64 sum14 c4) (fop .add .f64 trace15 c6) rw0 l0 rw1 l1 l2 l3) | false => (match !((v_CB rows6n beside7 (fop .sub .f32 e1 1008981770) true l2).2) with | true => (k0 n5 rows6n beside7 levels8n (fop .add .f64 sum14 c4) (fop .add .f64 trace15 c6) rw0 l0 rw1 l1 l2 l3) | false => (match !((v_CB rows6n beside7 (fop .add .f32 e2 1008981770) true l2).2) with | true => (k0 n5 rows6n beside7 levels8n (fop .add .f64 sum14 c4) (fop .add .f64 trace15 c6) rw0 l0 rw1 l1 l2 l3) | false => (match decide (0 ≤ (k16 : Int) ∧ (k16 : Int) < ((levels8n : Nat) : Int)) with | true => (match l3[0 + (k16).toNat * 1]? with | some e7 => (match FloatKind.f32.format.order ((v_lo rows6n beside7 k16 36 true l2).1) e7 != some .eq with | true => (k0 n5 rows6n beside7 levels8n (fop .add .f64 sum14 c4) (fop .add .f64 trace15 c6) rw0 l0 rw1 l1 l2 l3) | false => (match decide ((k16 : Int) > 0) with | true => (match decide (0 ≤ (k16 : Int) ∧ (k16 : Int) < ((levels8n : Nat) : Int)) with | true => (match l3[0 + (k16).toNat * 1]? with | some e8 => (match decide (0 ≤ (IntKind.i64.wrap (k16 - 1) : Int) ∧ (IntKind.i64.wrap (k16 - 1) : Int) < ((levels8n : Nat) : Int)) with | true => (match l3[0 + (IntKind.i64.wrap (k16 - 1)).toNat * 1]? with | some e9 => (match ltB e8 e9 with | true => (k0 n5 rows6n beside7 levels8n (fop .add .f64 sum14 c4) (fop .add .f64 trace15 c6) rw0 l0 rw1 l1 l2 l3) | false => (match decide (((v_CB rows6n beside7 (fop .sub .f32 e1 1008981770) true l2).1 : Int) > k16) with | true => (k0 n5 rows6n beside7 levels8n (fop .add .f64 sum14 c4) (fop .add .f64 trace15 c6) rw0 l0 rw1 l1 l2 l3) | false => (match decide (((v_CB rows6n beside7 (fop .add .f32 e2 1008981770) true l2).1 : Int) < (IntKind.i64.wrap (k16 + 1))) with | true => (k0 n5 rows6n beside7 levels8n (fop .add .f64 sum14 c4) (fop .add .f64 trace15 c6) rw0 l0 rw1 l1 l2 l3) | false => (rq n5 rows6n beside7 levels8n (fop .add .f64 sum14 c4) (fop .add .f64 trace15 c6) (IntKind.i64.wrap (k16 + 1)) rw0 l0 rw1 l1 l2 l3)))) | none => none) | false => none) | none => none) | false => none) | false => (match decide (((v_CB rows6n beside7 (fop .sub .f32 e1 1008981770) true l2).1 : Int) > k16) with | true => (k0 n5 rows6n beside7 levels8n (fop .add .f64 sum14 c4) (fop .add .f64 trace15 c6) rw0 l0 rw1 l1 l2 l3) | false => (match decide (((v_CB rows6n beside7 (fop .add .f32 e2 1008981770) true l2).1 : Int) < (IntKind.i64.wrap (k16 + 1))) with | true => (k0 n5 rows6n beside7 levels8n (fop .add .f64 sum14 c4) (fop .add .f64 trace15 c6) rw0 l0 rw1 l1 l2 l3) | false => (rq n5 rows6n beside7 levels8n (fop .add .f64 sum14 c4) (fop .add .f64 trace15 c6) (IntKind.i64.wrap (k16 + 1)) rw0 l0 rw1 l1 l2 l3))))) | none => none) | false => none)))) | none => none) | none => none) | false => none) | none => none) | none => none) | false => none) | false => none) | none => none) | false => none) | false => none) | none => none) | false => none) | false => none) | false => (k1 n5 rows6n beside7 levels8n sum14 trace15 rw0 l0 rw1 l1 l2 l3))
noncomputable def mr_lawA14 (N : Nat) (k0 : Int → Nat → Nat → Nat → Nat → Nat → Bool → List Int → Bool → List Int → List Nat → List Nat → Option (V × H)) (k1 : Int → Nat → Nat → Nat → Nat → Nat → Bool → List Int → Bool → List Int → List Nat → List Nat → Option (V × H)) (M : Nat) : Int → Nat → Nat → Nat → Nat → Nat → Int → Bool → List Int → Bool → List Int → List Nat → List Nat → Option (V × H) := Nat.rec (motive := fun _ => Int → Nat → Nat → Nat → Nat → Nat → Int → Bool → List Int → Bool → List Int → List Nat → List Nat → Option (V × H)) (fun (_ : Int) (_ : Nat) (_ : Nat) (_ : Nat) (_ : Nat) (_ : Nat) (_ : Int) (_ : Bool) (_ : List Int) (_ : Bool) (_ : List Int) (_ : List Nat) (_ : List Nat) => none) (fun _ rq => mb_lawA14 N k0 k1 rq) M
theorem mrs_lawA14 (N : Nat) (k0 : Int → Nat → Nat → Nat → Nat → Nat → Bool → List Int → Bool → List Int → List Nat → List Nat → Option (V × H)) (k1 : Int → Nat → Nat → Nat → Nat → Nat → Bool → List Int → Bool → List Int → List Nat → List Nat → Option (V × H)) (M : Nat) (n5 : Int) (rows6n : Nat) (beside7 : Nat) (levels8n : Nat) (sum14 : Nat) (trace15 : Nat) (k16 : Int) (rw0 : Bool) (l0 : List Int) (rw1 : Bool) (l1 : List Int) (l2 : List Nat) (l3 : List Nat) : mr_lawA14 N k0 k1 (M + 1) n5 rows6n beside7 levels8n sum14 trace15 k16 rw0 l0 rw1 l1 l2 l3 = mb_lawA14 N k0 k1 (mr_lawA14 N k0 k1 M) n5 rows6n beside7 levels8n sum14 trace15 k16 rw0 l0 rw1 l1 l2 l3 := rfl
theorem H_lawA14 (N : Nat) : ∀ (M : Nat) (n5 : Int) (rows6n : Nat) (beside7 : Nat) (levels8n : Nat) (sum14 : Nat) (trace15 : Nat) (k16 : Int) (rw0 : Bool) (l0 : List Int) (rw1 : Bool) (l1 : List Int) (l2 : List Nat) (l3 : List Nat), lp_lawA14 N M (st_lawA14 n5 rows6n beside7 levels8n sum14 trace15 k16 rw0 l0 rw1 l1 l2 l3) (kt_lawA14 N (kEnd Try.f3 2)) = mr_lawA14 N (ce_lawA14_0 N) (ce_lawA14_1 N) M n5 rows6n beside7 levels8n sum14 trace15 k16 rw0 l0 rw1 l1 l2 l3 := by
  have he0 : ∀ (n5 : Int) (rows6n : Nat) (beside7 : Nat) (levels8n : Nat) (sum14 : Nat) (trace15 : Nat) (rw0 : Bool) (l0 : List Int) (rw1 : Bool) (l1 : List Int) (l2 : List Nat) (l3 : List Nat), kt_lawA14 N (kEnd Try.f3 2) .ret (en_lawA14_0 n5 rows6n beside7 levels8n sum14 trace15 rw0 l0 rw1 l1 l2 l3) = ce_lawA14_0 N n5 rows6n beside7 levels8n sum14 trace15 rw0 l0 rw1 l1 l2 l3 := by
    intro n5 rows6n beside7 levels8n sum14 trace15 rw0 l0 rw1 l1 l2 l3
    rw [end_lawA14_0]
    unfold ce_lawA14_0
    first | (simp only []; done) | (simp only []; kernel_rfl) | rfl
  have he1 : ∀ (n5 : Int) (rows6n : Nat) (beside7 : Nat) (levels8n : Nat) (sum14 : Nat) (trace15 : Nat) (rw0 : Bool) (l0 : List Int) (rw1 : Bool) (l1 : List Int) (l2 : List Nat) (l3 : List Nat), kt_lawA14 N (kEnd Try.f3 2) (.exit 0) (en_lawA14_1 n5 rows6n beside7 levels8n sum14 trace15 rw0 l0 rw1 l1 l2 l3) = ce_lawA14_1 N n5 rows6n beside7 levels8n sum14 trace15 rw0 l0 rw1 l1 l2 l3 := by
    intro n5 rows6n beside7 levels8n sum14 trace15 rw0 l0 rw1 l1 l2 l3
    rw [end_lawA14_1]
    unfold ce_lawA14_1
    first | (simp only [H_lawA33 N N]; done) | (simp only [H_lawA33 N N]; kernel_rfl) | rfl
  intro M
  induction M with
  | zero => intros; rfl
  | succ M ih =>
    intro n5 rows6n beside7 levels8n sum14 trace15 k16 rw0 l0 rw1 l1 l2 l3
    rw [step_lawA14]
    rw [mrs_lawA14]
    unfold mb_lawA14
    first | (simp only [ih, he0, he1]; done) | (simp only [ih, he0, he1]; kernel_rfl) | rfl
noncomputable def md_lawA (N : Nat) (n : Nat) (m : Nat) (r : Bool) (l : List Int) (q : Bool) (l' : List Int) : Option (V × H) := (match longB n m with | true => some (.bool true, [.at r (.int .u8 l), .at q (.int .u8 l')]) | false => (match atOk m l' 40 with | true => (match (d_rr n (IntKind.i64.wrap (1 + (atF l' 40 8))) r l).isSome with | true => (match atOk m l' 41 with | true => (match (d_gl ((v_rr n (IntKind.i64.wrap (1 + (atF l' 40 8))) r l).1) (fop .quo .f32 (fneg .f32 (floatOfInt .f32 (IntKind.i64.wrap (1 + (atF l' 41 8))))) 1082130432) (IntKind.i64.wrap (1 + (atF l' 40 8))) 36 true ((v_rr n (IntKind.i64.wrap (1 + (atF l' 40 8))) r l).2)).isSome with | true => (match (d_CB ((v_rr n (IntKind.i64.wrap (1 + (atF l' 40 8))) r l).1) (fop .quo .f32 (fneg .f32 (floatOfInt .f32 (IntKind.i64.wrap (1 + (atF l' 41 8))))) 1082130432) 3267887104 true ((v_rr n (IntKind.i64.wrap (1 + (atF l' 40 8))) r l).2)).isSome with | true => (match (d_CB ((v_rr n (IntKind.i64.wrap (1 + (atF l' 40 8))) r l).1) (fop .quo .f32 (fneg .f32 (floatOfInt .f32 (IntKind.i64.wrap (1 + (atF l' 41 8))))) 1082130432) 1120403456 true ((v_rr n (IntKind.i64.wrap (1 + (atF l' 40 8))) r l).2)).isSome with | true => (match !((v_CB ((v_rr n (IntKind.i64.wrap (1 + (atF l' 40 8))) r l).1) (fop .quo .f32 (fneg .f32 (floatOfInt .f32 (IntKind.i64.wrap (1 + (atF l' 41 8))))) 1082130432) 3267887104 true ((v_rr n (IntKind.i64.wrap (1 + (atF l' 40 8))) r l).2)).2) with | true => some (.bool false, [.at r (.int .u8 l), .at q (.int .u8 l')]) | false => (match !((v_CB ((v_rr n (IntKind.i64.wrap (1 + (atF l' 40 8))) r l).1) (fop .quo .f32 (fneg .f32 (floatOfInt .f32 (IntKind.i64.wrap (1 + (atF l' 41 8))))) 1082130432) 1120403456 true ((v_rr n (IntKind.i64.wrap (1 + (atF l' 40 8))) r l).2)).2) with | true => some (.bool false, [.at r (.int .u8 l), .at q (.int .u8 l')]) | false => (match (((v_gl ((v_rr n (IntKind.i64.wrap (1 + (atF l' 40 8))) r l).1) (fop .quo .f32 (fneg .f32 (floatOfInt .f32 (IntKind.i64.wrap (1 + (atF l' 41 8))))) 1082130432) (IntKind.i64.wrap (1 + (atF l' 40 8))) 36 true ((v_rr n (IntKind.i64.wrap (1 + (atF l' 40 8))) r l).2)).1 : Nat) : Int) != (IntKind.i64.wrap (1 + (atF l' 40 8))) with | true => some (.bool false, [.at r (.int .u8 l), .at q (.int .u8 l')]) | false => (match ((v_CB ((v_rr n (IntKind.i64.wrap (1 + (atF l' 40 8))) r l).1) (fop .quo .f32 (fneg .f32 (floatOfInt .f32 (IntKind.i64.wrap (1 + (atF l' 41 8))))) 1082130432) 3267887104 true ((v_rr n (IntKind.i64.wrap (1 + (atF l' 40 8))) r l).2)).1) != 0 with | true => some (.bool false, [.at r (.int .u8 l), .at q (.int .u8 l')]) | false => (match ((v_CB ((v_rr n (IntKind.i64.wrap (1 + (atF l' 40 8))) r l).1) (fop .quo .f32 (fneg .f32 (floatOfInt .f32 (IntKind.i64.wrap (1 + (atF l' 41 8))))) 1082130432) 1120403456 true ((v_rr n (IntKind.i64.wrap (1 + (atF l' 40 8))) r l).2)).1) != (IntKind.i64.wrap (1 + (atF l' 40 8))) with | true => some (.bool false, [.at r (.int .u8 l), .at q (.int .u8 l')]) | false => (mr_lawA14 N (ce_lawA14_0 N) (ce_lawA14_1 N) N (IntKind.i64.wrap (1 + (atF l' 40 8))) ((v_rr n (IntKind.i64.wrap (1 + (atF l' 40 8))) r l).1) (fop .quo .f32 (fneg .f32 (floatOfInt .f32 (IntKind.i64.wrap (1 + (atF l' 41 8))))) 1082130432) ((v_gl ((v_rr n (IntKind.i64.wrap (1 + (atF l' 40 8))) r l).1) (fop .quo .f32 (fneg .f32 (floatOfInt .f32 (IntKind.i64.wrap (1 + (atF l' 41 8))))) 1082130432) (IntKind.i64.wrap (1 + (atF l' 40 8))) 36 true ((v_rr n (IntKind.i64.wrap (1 + (atF l' 40 8))) r l).2)).1) 0 0 0 r l q l' ((v_rr n (IntKind.i64.wrap (1 + (atF l' 40 8))) r l).2) ((v_gl ((v_rr n (IntKind.i64.wrap (1 + (atF l' 40 8))) r l).1) (fop .quo .f32 (fneg .f32 (floatOfInt .f32 (IntKind.i64.wrap (1 + (atF l' 41 8))))) 1082130432) (IntKind.i64.wrap (1 + (atF l' 40 8))) 36 true ((v_rr n (IntKind.i64.wrap (1 + (atF l' 40 8))) r l).2)).2))))))) | false => none) | false => none) | false => none) | false => none) | false => none) | false => none))
theorem mdl_lawA (N : Nat) (n : Nat) (m : Nat) (r : Bool) (l : List Int) (q : Bool) (l' : List Int) : run ty tab_lawA an_lawA N Try.f3 [.sl 0 0 n, .sl 1 0 m] [.at r (.int .u8 l), .at q (.int .u8 l')] = md_lawA N n m r l q l' := by
  rw [run_lawA]
  unfold md_lawA
  first | (simp only [H_lawA14 N N]; done) | (simp only [H_lawA14 N N]; kernel_rfl) | rfl
end Go.Proofs.Ytpeplbbphpamhaa.Ab

namespace Go.Proofs.Ytpeplbbphpamhaa.Ab
set_option linter.unusedVariables false
set_option linter.unusedSimpArgs false
open Go
theorem w33_A {N : Nat} {k0 k1 : Bool → List Int → Bool → List Int → Option (V × H)} (rw0 : Bool) (l0 : List Int) (rw1 : Bool) (l1 : List Int) {b n : Nat} {l l4 : List Nat} (hl : l.length = n) (h0 : 0 < n) (hn : n < 40) (H4 : HoldsL l4 n (stW b l)) (hr : ∀ i, i < n → gtD (r8G (restW b (levW b l 0) (fun i => l.getD i 0) (stW b l) n i) 0) 4576918229304087675 = false) :
    ∀ (t i M : Nat), i + t = n → t < M → mr_lawA33 N k0 k1 M ((n : Nat) : Int) n b n n ((i : Nat) : Int) rw0 l0 rw1 l1 l (levs b l n) l4 = k1 rw0 l0 rw1 l1
  | 0, i, M + 1, hi, hM => by
    rw [mrs_lawA33]
    unfold mb_lawA33
    try dsimp only
    rw [dn (show ¬ i < n by omega)]
  | t + 1, i, M + 1, hi, hM => by
    have hin : i < n := by omega
    have hrest := hr i hin
    have ih := w33_A (N := N) (k0 := k0) (k1 := k1) rw0 l0 rw1 l1 hl h0 hn H4 hr t (i + 1) M (by omega) (by omega)
    have hv0 : (levs b l n)[0]? = some (levW b l 0) := by rw [at0 (levs_len b l n) h0, levs_get h0]
    have hU := H4.2 i hin
    have hwi := wi (show i < 1000 by omega)
    unfold restW at hrest
    rw [mrs_lawA33]
    unfold mb_lawA33
    by_cases hi0 : 0 < i
    · obtain ⟨j, rfl⟩ : ∃ j, i = j + 1 := ⟨i - 1, by omega⟩
      have hw1 : IntKind.i64.wrap (((j + 1 : Nat) : Int) - 1) = ((j : Nat) : Int) := by rw [wrap_z (by omega) (by omega)]; omega
      have hUj := H4.2 j (by omega)
      rw [if_pos hi0] at hrest
      simp only [dl hin, d01 hin, ixg hl hin, d00 h0, hv0, ixg H4.1 hin, decide_eq_true (show ((j + 1 : Nat) : Int) > 0 by omega), hw1, d01 (show j < n by omega), ixg H4.1 (show j < n by omega), hwi, hU, hUj]
      by_cases hi1 : j + 1 + 1 < n
      · rw [if_pos hi1] at hrest
        have hUk := H4.2 (j + 1 + 1) hi1
        simp only [dl hi1, d01 hi1, ixg H4.1 hi1, hUk]
        have hrest : gtD (r8G (fop .add .f32 (fop .add .f32 (fop .mul .f32 (fop .sub .f32 (l.getD (j + 1) 0) (levW b l 0)) (stW b l (j + 1))) (fop .mul .f32 b (stW b l j))) (fop .mul .f32 b (stW b l (j + 1 + 1)))) 0) 4576918229304087675 = false := hrest
        rw [hrest]
        exact ih
      · rw [if_neg hi1] at hrest
        simp only [dn hi1]
        have hrest : gtD (r8G (fop .add .f32 (fop .mul .f32 (fop .sub .f32 (l.getD (j + 1) 0) (levW b l 0)) (stW b l (j + 1))) (fop .mul .f32 b (stW b l j))) 0) 4576918229304087675 = false := hrest
        rw [hrest]
        exact ih
    · have e : i = 0 := by omega
      subst e
      rw [if_neg hi0] at hrest
      simp only [dl hin, d01 hin, ixg hl hin, d00 h0, hv0, ixg H4.1 hin, decide_eq_false (show ¬ ((0 : Nat) : Int) > 0 by omega), hwi, hU]
      by_cases hi1 : 0 + 1 < n
      · rw [if_pos hi1] at hrest
        have hUk := H4.2 (0 + 1) hi1
        simp only [dl hi1, d01 hi1, ixg H4.1 hi1, hUk]
        have hrest : gtD (r8G (fop .add .f32 (fop .mul .f32 (fop .sub .f32 (l.getD 0 0) (levW b l 0)) (stW b l 0)) (fop .mul .f32 b (stW b l (0 + 1)))) 0) 4576918229304087675 = false := hrest
        rw [hrest]
        exact ih
      · rw [if_neg hi1] at hrest
        simp only [dn hi1]
        have hrest : gtD (r8G (fop .mul .f32 (fop .sub .f32 (l.getD 0 0) (levW b l 0)) (stW b l 0)) 0) 4576918229304087675 = false := hrest
        rw [hrest]
        exact ih
theorem w14_A {N : Nat} {k0 k1 : Int → Nat → Nat → Nat → Nat → Nat → Bool → List Int → Bool → List Int → List Nat → List Nat → Option (V × H)} (rw0 : Bool) (l0 : List Int) (rw1 : Bool) (l1 : List Int) {b n : Nat} {l : List Nat} (hl : l.length = n) (hn : n < 40) (hk : ∀ k, k < n → AtK b l n k) :
    ∀ (t k M : Nat), k + t = n → t < M → mr_lawA14 N k0 k1 M ((n : Nat) : Int) n b n (sum64 (fun i => levW b l i) k) (sum64 (fun i => l.getD i 0) k) ((k : Nat) : Int) rw0 l0 rw1 l1 l (levs b l n) = k1 ((n : Nat) : Int) n b n (sum64 (fun i => levW b l i) n) (sum64 (fun i => l.getD i 0) n) rw0 l0 rw1 l1 l (levs b l n)
  | 0, k, M + 1, hi, hM => by
    rw [mrs_lawA14]
    unfold mb_lawA14
    try dsimp only
    rw [dn (show ¬ k < n by omega), show k = n by omega]
  | t + 1, k, M + 1, hi, hM => by
    have hin : k < n := by omega
    have q := hk k hin
    have ih := w14_A (N := N) (k0 := k0) (k1 := k1) rw0 l0 rw1 l1 hl hn hk t (k + 1) M (by omega) (by omega)
    have hv := levs_get (b := b) (l := l) hin
    have hlo := q.lo
    have hdn := q.dn
    have hup := q.up
    have hsame := q.same
    have hdk := q.dnk
    have huk := q.upk
    have hwi := wi (show k < 1000 by omega)
    rw [mrs_lawA14]
    unfold mb_lawA14 v_lo v_CB
    simp only [dl hin, hlo, d01 hin, ixg (levs_len b l n) hin, hv, hdn, hup, ixg hl hin, fconv_eq, Option.isSome_some, Option.getD_some, Bool.not_true, hsame, hwi, decide_eq_false (show ¬ ((cbF b (fop .sub .f32 (levW b l k) 1008981770) none l : Nat) : Int) > ((k : Nat) : Int) by omega), decide_eq_false (show ¬ ((cbF b (fop .add .f32 (levW b l k) 1008981770) none l : Nat) : Int) < ((k + 1 : Nat) : Int) by omega)]
    by_cases h0 : 0 < k
    · obtain ⟨j, rfl⟩ : ∃ j, k = j + 1 := ⟨k - 1, by omega⟩
      have hw1 : IntKind.i64.wrap (((j + 1 : Nat) : Int) - 1) = ((j : Nat) : Int) := by rw [wrap_z (by omega) (by omega)]; omega
      have hvj := levs_get (b := b) (l := l) (show j < n by omega)
      simp only [decide_eq_true (show ((j + 1 : Nat) : Int) > 0 by omega), hw1, d01 (show j < n by omega), ixg (levs_len b l n) (show j < n by omega), hvj, q.rise j rfl]
      exact ih
    · simp only [decide_eq_false (show ¬ ((k : Nat) : Int) > 0 by omega)]
      exact ih
theorem wfin_A (rw0 : Bool) (l0 : List Int) (rw1 : Bool) (l1 : List Int) {b n : Nat} {l : List Nat} (hl : l.length = n) (h0 : 0 < n) (hn : n < 40) (w : Whole b l n) : ce_lawA14_1 50 ((n : Nat) : Int) n b n (sum64 (fun i => levW b l i) n) (sum64 (fun i => l.getD i 0) n) rw0 l0 rw1 l1 l (levs b l n) = some (.bool true, [.at rw0 (.int .u8 l0), .at rw1 (.int .u8 l1)]) := by
  obtain ⟨c1, c2, s1, s2, s3⟩ := w.sums
  obtain ⟨l4, q1, q2, o, q3, q4⟩ := w.state
  have hv0 : (levs b l n)[0]? = some (levW b l 0) := by rw [at0 (levs_len b l n) h0, levs_get h0]
  unfold ce_lawA14_1 v_so v_ov
  simp only [s1, s2, s3, d00 h0, hv0, q2, Option.isSome_some, Option.getD_some, bne_self_eq_false, q3, q4, Bool.not_true]
  by_cases h1 : 1 < n
  · have hv1 : (levs b l n)[1]? = some (levW b l 1) := by
      have := ixg (levs_len b l n) h1
      rw [levs_get h1] at this
      exact this
    simp only [decide_eq_true (show ((n : Nat) : Int) > 1 by omega), decide_eq_true (show 0 ≤ (1 : Int) ∧ (1 : Int) < ((n : Nat) : Int) by omega), hv1]
    cases gtB (fop .sub .f32 (levW b l 1) (levW b l 0)) 1048576000 with
    | false => rfl
    | true => exact w33_A (N := 50) (k0 := ce_lawA33_0 50) (k1 := ce_lawA33_1 50) rw0 l0 rw1 l1 hl h0 hn q1 w.rest n 0 50 (by omega) (by omega)
  · simp only [decide_eq_false (show ¬ ((n : Nat) : Int) > 1 by omega)]
theorem H_lawA (n : Nat) (m : Nat) (r : Bool) (l : List Int) (q : Bool) (l' : List Int) (hn : l.length = n ∧ n < 2147483648) (hb : bytesB l = true) (hm : l'.length = m ∧ m < 2147483648) (hb' : bytesB l' = true) : run ty tab_lawA an_lawA 50 Try.f3 [.sl 0 0 n, .sl 1 0 m] [.at r (.int .u8 l), .at q (.int .u8 l')] = some (.bool true, [.at r (.int .u8 l), .at q (.int .u8 l')]) := by
  rw [mdl_lawA]
  unfold md_lawA
  cases longB n m
  case true => rfl
  have a40 : atOk m l' 40 = true := decide_eq_true ⟨hm.1, hm.2, by decide, by decide⟩
  have a41 : atOk m l' 41 = true := decide_eq_true ⟨hm.1, hm.2, by decide, by decide⟩
  obtain ⟨k, k1, k8, hk⟩ := drawn_n hb'
  obtain ⟨j, j8, hj⟩ := drawn_b hb'
  obtain ⟨rows, ar, d1, d2, d3⟩ := rr_ok (r := r) hn hb k8
  have pre := pre_of j8 d1 d2 k1 k8
  have w := whole pre d2
  have hat := fun i hi => at_k pre d2 (k := i) hi
  have hgl := w.gl
  have hno := w.no
  have hall := w.all
  unfold v_rr v_gl v_CB
  simp only [hk, hj, a40, a41, d3, Option.isSome_some, Option.getD_some, hgl, hno, hall, Bool.not_true, bne_self_eq_false]
  have h14 := w14_A (N := 50) (k0 := ce_lawA14_0 50) (k1 := ce_lawA14_1 50) r l q l' d2 (by omega) hat k 0 50 (by omega) (by omega)
  exact Eq.trans h14 (wfin_A r l q l' d2 (by omega) (by omega) w)
end Go.Proofs.Ytpeplbbphpamhaa.Ab

namespace Go.Proofs.Ytpeplbbphpamhaa.Ab
set_option linter.unusedVariables false
set_option linter.unusedSimpArgs false
open Go
def an_lawB : Ann := ⟨fun r => if r = 14 then some ([5, 6, 7, 8, 14, 15, 16], [4, 5, 6, 7, 8, 14, 15]) else if r = 33 then some ([5, 6, 7, 8, 23, 27], [4]) else none, fun _ _ => .quiet⟩
noncomputable def tab_lawB : Fns := tabT [(4, gLong), (5, gAt), (6, g_R8), (7, g_gl), (8, g_CB), (9, g_lo), (10, gT gG8), (11, g_so), (12, g_ov)]
theorem tabok_lawB : ∀ f, FnT Try.prog f (tab_lawB f) := (tabT_cons (k := 4) ok_Long (tabT_cons (k := 5) ok_At (tabT_cons (k := 6) ok_R8 (tabT_cons (k := 7) ok_gl (tabT_cons (k := 8) ok_CB (tabT_cons (k := 9) ok_lo (tabT_cons (k := 10) ok_r8g (tabT_cons (k := 11) ok_so (tabT_cons (k := 12) ok_ov tabT_nil)))))))))
def st_lawB14 (n5 : Int) (rows6n : Nat) (beside7 : Nat) (levels8n : Nat) (sum14 : Nat) (trace15 : Nat) (k16 : Int) (rw0 : Bool) (l0 : List Int) (l1 : List Nat) (l2 : List Nat) : St := ⟨(.any :: .any :: .any :: .any :: .any :: .int .i64 n5 :: .sl 1 0 rows6n :: .fl .f32 beside7 :: .sl 2 0 levels8n :: .any :: .any :: .any :: .any :: .any :: .fl .f64 sum14 :: .fl .f64 trace15 :: .int .i64 k16 :: (anys 257 [])), [.at rw0 (.int .u8 l0), .at true (.fl .f32 l1), .at true (.fl .f32 l2)]⟩
abbrev kp_lawB14 : Option (List Nat × List Nat) := some ([5, 6, 7, 8, 14, 15, 16], [4, 5, 6, 7, 8, 14, 15])
noncomputable def lp_lawB14 {R : Type} (N M : Nat) (s : St) (K : X → St → Option R) : Option R := loopH 1 kp_lawB14 (fun st K => exec ty tab_lawB an_lawB N 1 (atOf [true, true, true, true, true, true, true, true, true, true, true, false, true, false, false] Try.f3) st K) M s K
noncomputable def kt_lawB14 {R : Type} (N : Nat) (K : X → St → Option R) : X → St → Option R := kBlkR 0 (kSeqR tab_lawB an_lawB N 1 (atOf [true, true, true, true, true, true, true, true, true, true, true, true] Try.f3) (K))
def st_lawB33 (n5 : Int) (rows6n : Nat) (beside7 : Nat) (levels8n : Nat) (state23n : Nat) (i27 : Int) (rw0 : Bool) (l0 : List Int) (l1 : List Nat) (l2 : List Nat) (l3 : List Nat) : St := ⟨(.any :: .any :: .any :: .any :: .any :: .int .i64 n5 :: .sl 1 0 rows6n :: .fl .f32 beside7 :: .sl 2 0 levels8n :: (anys 14 (.sl 3 0 state23n :: .any :: .any :: .any :: .int .i64 i27 :: (anys 246 [])))), [.at rw0 (.int .u8 l0), .at true (.fl .f32 l1), .at true (.fl .f32 l2), .at true (.fl .f32 l3)]⟩
abbrev kp_lawB33 : Option (List Nat × List Nat) := some ([5, 6, 7, 8, 23, 27], [4])
noncomputable def lp_lawB33 {R : Type} (N M : Nat) (s : St) (K : X → St → Option R) : Option R := loopH 1 kp_lawB33 (fun st K => exec ty tab_lawB an_lawB N 1 (atOf [true, true, true, true, true, true, true, true, true, true, true, true, true, true, true, true, true, false, true, false, true, false, false] Try.f3) st K) M s K
noncomputable def kt_lawB33 {R : Type} (N : Nat) (K : X → St → Option R) : X → St → Option R := kBlkR 2 (kSeqR tab_lawB an_lawB N 1 (atOf [true, true, true, true, true, true, true, true, true, true, true, true, true, true, true, true, true, true] Try.f3) (K))
def en_lawB14_0 (n5 : Int) (rows6n : Nat) (beside7 : Nat) (levels8n : Nat) (sum14 : Nat) (trace15 : Nat) (rw0 : Bool) (l0 : List Int) (l1 : List Nat) (l2 : List Nat) : St := ⟨(.any :: .any :: .any :: .any :: .bool false :: .int .i64 n5 :: .sl 1 0 rows6n :: .fl .f32 beside7 :: .sl 2 0 levels8n :: .any :: .any :: .any :: .any :: .any :: .fl .f64 sum14 :: .fl .f64 trace15 :: (anys 258 [])), [.at rw0 (.int .u8 l0), .at true (.fl .f32 l1), .at true (.fl .f32 l2)]⟩
def en_lawB14_1 (n5 : Int) (rows6n : Nat) (beside7 : Nat) (levels8n : Nat) (sum14 : Nat) (trace15 : Nat) (rw0 : Bool) (l0 : List Int) (l1 : List Nat) (l2 : List Nat) : St := ⟨(.any :: .any :: .any :: .any :: .any :: .int .i64 n5 :: .sl 1 0 rows6n :: .fl .f32 beside7 :: .sl 2 0 levels8n :: .any :: .any :: .any :: .any :: .any :: .fl .f64 sum14 :: .fl .f64 trace15 :: (anys 258 [])), [.at rw0 (.int .u8 l0), .at true (.fl .f32 l1), .at true (.fl .f32 l2)]⟩
def en_lawB33_0 (rw0 : Bool) (l0 : List Int) : St := ⟨(.any :: .any :: .any :: .any :: .bool false :: (anys 269 [])), [.at rw0 (.int .u8 l0)]⟩
def en_lawB33_1 (rw0 : Bool) (l0 : List Int) : St := ⟨(anys 274 []), [.at rw0 (.int .u8 l0)]⟩
theorem run_lawB (N : Nat) (n : Nat) (r : Bool) (l : List Int) : run ty tab_lawB an_lawB N Try.f3 [.sl 0 0 n, .nil] [.at r (.int .u8 l)]
    = (match longB n 0 with | true => some (.bool true, [.at r (.int .u8 l)]) | false => (match atOk 0 [] 40 with | true => (match (d_rr n (IntKind.i64.wrap (1 + (atF [] 40 8))) r l).isSome with | true => (match atOk 0 [] 41 with | true => (match (d_gl ((v_rr n (IntKind.i64.wrap (1 + (atF [] 40 8))) r l).1) (fop .quo .f32 (fneg .f32 (floatOfInt .f32 (IntKind.i64.wrap (1 + (atF [] 41 8))))) 1082130432) (IntKind.i64.wrap (1 + (atF [] 40 8))) 36 true ((v_rr n (IntKind.i64.wrap (1 + (atF [] 40 8))) r l).2)).isSome with | true => (match (d_CB ((v_rr n (IntKind.i64.wrap (1 + (atF [] 40 8))) r l).1) (fop .quo .f32 (fneg .f32 (floatOfInt .f32 (IntKind.i64.wrap (1 + (atF [] 41 8))))) 1082130432) 3267887104 true ((v_rr n (IntKind.i64.wrap (1 + (atF [] 40 8))) r l).2)).isSome with | true => (match (d_CB ((v_rr n (IntKind.i64.wrap (1 + (atF [] 40 8))) r l).1) (fop .quo .f32 (fneg .f32 (floatOfInt .f32 (IntKind.i64.wrap (1 + (atF [] 41 8))))) 1082130432) 1120403456 true ((v_rr n (IntKind.i64.wrap (1 + (atF [] 40 8))) r l).2)).isSome with | true => (match !((v_CB ((v_rr n (IntKind.i64.wrap (1 + (atF [] 40 8))) r l).1) (fop .quo .f32 (fneg .f32 (floatOfInt .f32 (IntKind.i64.wrap (1 + (atF [] 41 8))))) 1082130432) 3267887104 true ((v_rr n (IntKind.i64.wrap (1 + (atF [] 40 8))) r l).2)).2) with | true => some (.bool false, [.at r (.int .u8 l)]) | false => (match !((v_CB ((v_rr n (IntKind.i64.wrap (1 + (atF [] 40 8))) r l).1) (fop .quo .f32 (fneg .f32 (floatOfInt .f32 (IntKind.i64.wrap (1 + (atF [] 41 8))))) 1082130432) 1120403456 true ((v_rr n (IntKind.i64.wrap (1 + (atF [] 40 8))) r l).2)).2) with | true => some (.bool false, [.at r (.int .u8 l)]) | false => (match (((v_gl ((v_rr n (IntKind.i64.wrap (1 + (atF [] 40 8))) r l).1) (fop .quo .f32 (fneg .f32 (floatOfInt .f32 (IntKind.i64.wrap (1 + (atF [] 41 8))))) 1082130432) (IntKind.i64.wrap (1 + (atF [] 40 8))) 36 true ((v_rr n (IntKind.i64.wrap (1 + (atF [] 40 8))) r l).2)).1 : Nat) : Int) != (IntKind.i64.wrap (1 + (atF [] 40 8))) with | true => some (.bool false, [.at r (.int .u8 l)]) | false => (match ((v_CB ((v_rr n (IntKind.i64.wrap (1 + (atF [] 40 8))) r l).1) (fop .quo .f32 (fneg .f32 (floatOfInt .f32 (IntKind.i64.wrap (1 + (atF [] 41 8))))) 1082130432) 3267887104 true ((v_rr n (IntKind.i64.wrap (1 + (atF [] 40 8))) r l).2)).1) != 0 with | true => some (.bool false, [.at r (.int .u8 l)]) | false => (match ((v_CB ((v_rr n (IntKind.i64.wrap (1 + (atF [] 40 8))) r l).1) (fop .quo .f32 (fneg .f32 (floatOfInt .f32 (IntKind.i64.wrap (1 + (atF [] 41 8))))) 1082130432) 1120403456 true ((v_rr n (IntKind.i64.wrap (1 + (atF [] 40 8))) r l).2)).1) != (IntKind.i64.wrap (1 + (atF [] 40 8))) with | true => some (.bool false, [.at r (.int .u8 l)]) | false => lp_lawB14 N N (st_lawB14 (IntKind.i64.wrap (1 + (atF [] 40 8))) ((v_rr n (IntKind.i64.wrap (1 + (atF [] 40 8))) r l).1) (fop .quo .f32 (fneg .f32 (floatOfInt .f32 (IntKind.i64.wrap (1 + (atF [] 41 8))))) 1082130432) ((v_gl ((v_rr n (IntKind.i64.wrap (1 + (atF [] 40 8))) r l).1) (fop .quo .f32 (fneg .f32 (floatOfInt .f32 (IntKind.i64.wrap (1 + (atF [] 41 8))))) 1082130432) (IntKind.i64.wrap (1 + (atF [] 40 8))) 36 true ((v_rr n (IntKind.i64.wrap (1 + (atF [] 40 8))) r l).2)).1) 0 0 0 r l ((v_rr n (IntKind.i64.wrap (1 + (atF [] 40 8))) r l).2) ((v_gl ((v_rr n (IntKind.i64.wrap (1 + (atF [] 40 8))) r l).1) (fop .quo .f32 (fneg .f32 (floatOfInt .f32 (IntKind.i64.wrap (1 + (atF [] 41 8))))) 1082130432) (IntKind.i64.wrap (1 + (atF [] 40 8))) 36 true ((v_rr n (IntKind.i64.wrap (1 + (atF [] 40 8))) r l).2)).2)) (kt_lawB14 N (kEnd Try.f3 1))))))) | false => none) | false => none) | false => none) | false => none) | false => none) | false => none)) := by
  kernel_rfl
theorem step_lawB14 {R : Type} (N M : Nat) (K : X → St → Option R) (n5 : Int) (rows6n : Nat) (beside7 : Nat) (levels8n : Nat) (sum14 : Nat) (trace15 : Nat) (k16 : Int) (rw0 : Bool) (l0 : List Int) (l1 : List Nat) (l2 : List Nat) : lp_lawB14 N (M + 1) (st_lawB14 n5 rows6n beside7 levels8n sum14 trace15 k16 rw0 l0 l1 l2) K
    = (match decide ((k16 : Int) < n5) with | true => (match (d_lo rows6n beside7 k16 36 true l1).isSome with | true => (match decide (0 ≤ (k16 : Int) ∧ (k16 : Int) < ((levels8n : Nat) : Int)) with | true => (match l2[0 + (k16).toNat * 1]? with | some e1 => (match (d_CB rows6n beside7 (fop .sub .f32 e1 1008981770) true l1).isSome with | true => (match decide (0 ≤ (k16 : Int) ∧ (k16 : Int) < ((levels8n : Nat) : Int)) with | true => (match l2[0 + (k16).toNat * 1]? with | some e2 => (match (d_CB rows6n beside7 (fop .add .f32 e2 1008981770) true l1).isSome with | true => (match decide (0 ≤ (k16 : Int) ∧ (k16 : Int) < ((levels8n : Nat) : Int)) with | true => (match l2[0 + (k16).toNat * 1]? with | some e3 => (match fconv .f32 e3 .f64 with | some c4 => (match decide (0 ≤ (k16 : Int) ∧ (k16 : Int) < ((rows6n : Nat) : Int)) with | true => (match l1[0 + (k16).toNat * 1]? with | some e5 => (match fconv .f32 e5 .f64 with | some c6 => (match !((v_lo rows6n beside7 k16 36 true l1).2) with | true => K .ret (en_lawB14_0 n5 rows6n beside7 levels8n (fop .add .f64 sum14 c4) (fop .add .f64 trace15 c6) rw0 l0 l1 l2) | false => (match !((v_CB rows6n beside7 (fop .sub .f32 e1 1008981770) true l1).2) with | true => K .ret (en_lawB14_0 n5 rows6n beside7 levels8n (fop .add .f64 sum14 c4) (fop .add .f64 trace15 c6) rw0 l0 l1 l2) | false => (match !((v_CB rows6n beside7 (fop .add .f32 e2 1008981770) true l1).2) with | true => K .ret (en_lawB14_0 n5 rows6n beside7 levels8n (fop .add .f64 sum14 c4) (fop .add .f64 trace15 c6) rw0 l0 l1 l2) | false => (match decide (0 ≤ (k16 : Int) ∧ (k16 : Int) < ((levels8n : Nat) : Int)) with | true => (match l2[0 + (k16).toNat * 1]? with | some e7 => (match FloatKind.f32.format.order ((v_lo rows6n beside7 k16 36 true l1).1) e7 != some .eq with | true => K .ret (en_lawB14_0 n5 rows6n beside7 levels8n (fop .add .f64 sum14 c4) (fop .add .f64 trace15 c6) rw0 l0 l1 l2) | false => (match decide ((k16 : Int) > 0) with | true => (match decide (0 ≤ (k16 : Int) ∧ (k16 : Int) < ((levels8n : Nat) : Int)) with | true => (match l2[0 + (k16).toNat * 1]? with | some e8 => (match decide (0 ≤ (IntKind.i64.wrap (k16 - 1) : Int) ∧ (IntKind.i64.wrap (k16 - 1) : Int) < ((levels8n : Nat) : Int)) with | true => (match l2[0 + (IntKind.i64.wrap (k16 - 1)).toNat * 1]? with | some e9 => (match ltB e8 e9 with | true => K .ret (en_lawB14_0 n5 rows6n beside7 levels8n (fop .add .f64 sum14 c4) (fop .add .f64 trace15 c6) rw0 l0 l1 l2) | false => (match decide (((v_CB rows6n beside7 (fop .sub .f32 e1 1008981770) true l1).1 : Int) > k16) with | true => K .ret (en_lawB14_0 n5 rows6n beside7 levels8n (fop .add .f64 sum14 c4) (fop .add .f64 trace15 c6) rw0 l0 l1 l2) | false => (match decide (((v_CB rows6n beside7 (fop .add .f32 e2 1008981770) true l1).1 : Int) < (IntKind.i64.wrap (k16 + 1))) with | true => K .ret (en_lawB14_0 n5 rows6n beside7 levels8n (fop .add .f64 sum14 c4) (fop .add .f64 trace15 c6) rw0 l0 l1 l2) | false => lp_lawB14 N M (st_lawB14 n5 rows6n beside7 levels8n (fop .add .f64 sum14 c4) (fop .add .f64 trace15 c6) (IntKind.i64.wrap (k16 + 1)) rw0 l0 l1 l2) K))) | none => none) | false => none) | none => none) | false => none) | false => (match decide (((v_CB rows6n beside7 (fop .sub .f32 e1 1008981770) true l1).1 : Int) > k16) with | true => K .ret (en_lawB14_0 n5 rows6n beside7 levels8n (fop .add .f64 sum14 c4) (fop .add .f64 trace15 c6) rw0 l0 l1 l2) | false => (match decide (((v_CB rows6n beside7 (fop .add .f32 e2 1008981770) true l1).1 : Int) < (IntKind.i64.wrap (k16 + 1))) with | true => K .ret (en_lawB14_0 n5 rows6n beside7 levels8n (fop .add .f64 sum14 c4) (fop .add .f64 trace15 c6) rw0 l0 l1 l2) | false => lp_lawB14 N M (st_lawB14 n5 rows6n beside7 levels8n (fop .add .f64 sum14 c4) (fop .add .f64 trace15 c6) (IntKind.i64.wrap (k16 + 1)) rw0 l0 l1 l2) K)))) | none => none) | false => none)))) | none => none) | none => none) | false => none) | none => none) | none => none) | false => none) | false => none) | none => none) | false => none) | false => none) | none => none) | false => none) | false => none) | false => K (.exit 0) (en_lawB14_1 n5 rows6n beside7 levels8n sum14 trace15 rw0 l0 l1 l2)) := by
  kernel_rfl
theorem step_lawB33 {R : Type} (N M : Nat) (K : X → St → Option R) (n5 : Int) (rows6n : Nat) (beside7 : Nat) (levels8n : Nat) (state23n : Nat) (i27 : Int) (rw0 : Bool) (l0 : List Int) (l1 : List Nat) (l2 : List Nat) (l3 : List Nat) : lp_lawB33 N (M + 1) (st_lawB33 n5 rows6n beside7 levels8n state23n i27 rw0 l0 l1 l2 l3) K
    = (match decide ((i27 : Int) < n5) with | true => (match decide (0 ≤ (i27 : Int) ∧ (i27 : Int) < ((rows6n : Nat) : Int)) with | true => (match l1[0 + (i27).toNat * 1]? with | some e1 => (match decide (0 ≤ (0 : Int) ∧ (0 : Int) < ((levels8n : Nat) : Int)) with | true => (match l2[0]? with | some e2 => (match decide (0 ≤ (i27 : Int) ∧ (i27 : Int) < ((state23n : Nat) : Int)) with | true => (match l3[0 + (i27).toNat * 1]? with | some e3 => (match decide ((i27 : Int) > 0) with | true => (match decide (0 ≤ (IntKind.i64.wrap (i27 - 1) : Int) ∧ (IntKind.i64.wrap (i27 - 1) : Int) < ((state23n : Nat) : Int)) with | true => (match l3[0 + (IntKind.i64.wrap (i27 - 1)).toNat * 1]? with | some e4 => (match decide ((IntKind.i64.wrap (i27 + 1) : Int) < n5) with | true => (match decide (0 ≤ (IntKind.i64.wrap (i27 + 1) : Int) ∧ (IntKind.i64.wrap (i27 + 1) : Int) < ((state23n : Nat) : Int)) with | true => (match l3[0 + (IntKind.i64.wrap (i27 + 1)).toNat * 1]? with | some e5 => (match gtD (r8G (fop .add .f32 (fop .add .f32 (fop .mul .f32 (fop .sub .f32 e1 e2) e3) (fop .mul .f32 beside7 e4)) (fop .mul .f32 beside7 e5)) 0) 4576918229304087675 with | true => K .ret (en_lawB33_0 rw0 l0) | false => lp_lawB33 N M (st_lawB33 n5 rows6n beside7 levels8n state23n (IntKind.i64.wrap (i27 + 1)) rw0 l0 l1 l2 l3) K) | none => none) | false => none) | false => (match gtD (r8G (fop .add .f32 (fop .mul .f32 (fop .sub .f32 e1 e2) e3) (fop .mul .f32 beside7 e4)) 0) 4576918229304087675 with | true => K .ret (en_lawB33_0 rw0 l0) | false => lp_lawB33 N M (st_lawB33 n5 rows6n beside7 levels8n state23n (IntKind.i64.wrap (i27 + 1)) rw0 l0 l1 l2 l3) K)) | none => none) | false => none) | false => (match decide ((IntKind.i64.wrap (i27 + 1) : Int) < n5) with | true => (match decide (0 ≤ (IntKind.i64.wrap (i27 + 1) : Int) ∧ (IntKind.i64.wrap (i27 + 1) : Int) < ((state23n : Nat) : Int)) with | true => (match l3[0 + (IntKind.i64.wrap (i27 + 1)).toNat * 1]? with | some e6 => (match gtD (r8G (fop .add .f32 (fop .mul .f32 (fop .sub .f32 e1 e2) e3) (fop .mul .f32 beside7 e6)) 0) 4576918229304087675 with | true => K .ret (en_lawB33_0 rw0 l0) | false => lp_lawB33 N M (st_lawB33 n5 rows6n beside7 levels8n state23n (IntKind.i64.wrap (i27 + 1)) rw0 l0 l1 l2 l3) K) | none => none) | false => none) | false => (match gtD (r8G (fop .mul .f32 (fop .sub .f32 e1 e2) e3) 0) 4576918229304087675 with | true => K .ret (en_lawB33_0 rw0 l0) | false => lp_lawB33 N M (st_lawB33 n5 rows6n beside7 levels8n state23n (IntKind.i64.wrap (i27 + 1)) rw0 l0 l1 l2 l3) K))) | none => none) | false => none) | none => none) | false => none) | none => none) | false => none) | false => K (.exit 2) (en_lawB33_1 rw0 l0)) := by
  kernel_rfl
theorem end_lawB14_0 (N : Nat) (n5 : Int) (rows6n : Nat) (beside7 : Nat) (levels8n : Nat) (sum14 : Nat) (trace15 : Nat) (rw0 : Bool) (l0 : List Int) (l1 : List Nat) (l2 : List Nat) : kt_lawB14 N (kEnd Try.f3 1) .ret (en_lawB14_0 n5 rows6n beside7 levels8n sum14 trace15 rw0 l0 l1 l2)
    = some (.bool false, [.at rw0 (.int .u8 l0)]) := by
  kernel_rfl
theorem end_lawB14_1 (N : Nat) (n5 : Int) (rows6n : Nat) (beside7 : Nat) (levels8n : Nat) (sum14 : Nat) (trace15 : Nat) (rw0 : Bool) (l0 : List Int) (l1 : List Nat) (l2 : List Nat) : kt_lawB14 N (kEnd Try.f3 1) (.exit 0) (en_lawB14_1 n5 rows6n beside7 levels8n sum14 trace15 rw0 l0 l1 l2)
    = (match fconv .f64 sum14 .f32 with | some c1 => (match fconv .f64 trace15 .f32 with | some c2 => (match gtD (r8G c1 c2) 4576918229304087675 with | true => some (.bool false, [.at rw0 (.int .u8 l0)]) | false => (match decide (0 ≤ (0 : Int) ∧ (0 : Int) < ((levels8n : Nat) : Int)) with | true => (match l2[0]? with | some e3 => (match (d_so rows6n beside7 e3 4 l1).isSome with | true => (match (((v_so rows6n beside7 e3 4 l1).1 : Nat) : Int) != n5 with | true => some (.bool false, [.at rw0 (.int .u8 l0)]) | false => (match (d_ov ((v_so rows6n beside7 e3 4 l1).1) ((v_so rows6n beside7 e3 4 l1).1) true ((v_so rows6n beside7 e3 4 l1).2)).isSome with | true => (match !((v_ov ((v_so rows6n beside7 e3 4 l1).1) ((v_so rows6n beside7 e3 4 l1).1) true ((v_so rows6n beside7 e3 4 l1).2)).2) with | true => some (.bool false, [.at rw0 (.int .u8 l0)]) | false => (match gtD (r8G ((v_ov ((v_so rows6n beside7 e3 4 l1).1) ((v_so rows6n beside7 e3 4 l1).1) true ((v_so rows6n beside7 e3 4 l1).2)).1) 1065353216) 4562254508917369340 with | true => some (.bool false, [.at rw0 (.int .u8 l0)]) | false => (match decide ((n5 : Int) > 1) with | true => (match decide (0 ≤ (1 : Int) ∧ (1 : Int) < ((levels8n : Nat) : Int)) with | true => (match l2[1]? with | some e4 => (match decide (0 ≤ (0 : Int) ∧ (0 : Int) < ((levels8n : Nat) : Int)) with | true => (match l2[0]? with | some e5 => (match gtB (fop .sub .f32 e4 e5) 1048576000 with | true => lp_lawB33 N N (st_lawB33 n5 rows6n beside7 levels8n ((v_so rows6n beside7 e3 4 l1).1) 0 rw0 l0 l1 l2 ((v_so rows6n beside7 e3 4 l1).2)) (kt_lawB33 N (kEnd Try.f3 1)) | false => some (.bool true, [.at rw0 (.int .u8 l0)])) | none => none) | false => none) | none => none) | false => none) | false => some (.bool true, [.at rw0 (.int .u8 l0)])))) | false => none)) | false => none) | none => none) | false => none)) | none => none) | none => none) := by
  kernel_rfl
theorem end_lawB33_0 (N : Nat) (rw0 : Bool) (l0 : List Int) : kt_lawB33 N (kEnd Try.f3 1) .ret (en_lawB33_0 rw0 l0)
    = some (.bool false, [.at rw0 (.int .u8 l0)]) := by
  kernel_rfl
theorem end_lawB33_1 (N : Nat) (rw0 : Bool) (l0 : List Int) : kt_lawB33 N (kEnd Try.f3 1) (.exit 2) (en_lawB33_1 rw0 l0)
    = some (.bool true, [.at rw0 (.int .u8 l0)]) := by
  kernel_rfl
noncomputable def ce_lawB33_0 (N : Nat) (rw0 : Bool) (l0 : List Int) : Option (V × H) := some (.bool false, [.at rw0 (.int .u8 l0)])
noncomputable def ce_lawB33_1 (N : Nat) (rw0 : Bool) (l0 : List Int) : Option (V × H) := some (.bool true, [.at rw0 (.int .u8 l0)])
noncomputable def mb_lawB33 (N : Nat) (k0 : Bool → List Int → Option (V × H)) (k1 : Bool → List Int → Option (V × H)) (rq : Int → Nat → Nat → Nat → Nat → Int → Bool → List Int → List Nat → List Nat → List Nat → Option (V × H)) : Int → Nat → Nat → Nat → Nat → Int → Bool → List Int → List Nat → List Nat → List Nat → Option (V × H) := fun (n5 : Int) (rows6n : Nat) (beside7 : Nat) (levels8n : Nat) (state23n : Nat) (i27 : Int) (rw0 : Bool) (l0 : List Int) (l1 : List Nat) (l2 : List Nat) (l3 : List Nat) => (match decide ((i27 : Int) < n5) with | true => (match decide (0 ≤ (i27 : Int) ∧ (i27 : Int) < ((rows6n : Nat) : Int)) with | true => (match l1[0 + (i27).toNat * 1]? with | some e1 => (match decide (0 ≤ (0 : Int) ∧ (0 : Int) < ((levels8n : Nat) : Int)) with | true => (match l2[0]? with | some e2 => (match decide (0 ≤ (i27 : Int) ∧ (i27 : Int) < ((state23n : Nat) : Int)) with | true => (match l3[0 + (i27).toNat * 1]? with | some e3 => (match decide ((i27 : Int) > 0) with | true => (match decide (0 ≤ (IntKind.i64.wrap (i27 - 1) : Int) ∧ (IntKind.i64.wrap (i27 - 1) : Int) < ((state23n : Nat) : Int)) with | true => (match l3[0 + (IntKind.i64.wrap (i27 - 1)).toNat * 1]? with | some e4 => (match decide ((IntKind.i64.wrap (i27 + 1) : Int) < n5) with | true => (match decide (0 ≤ (IntKind.i64.wrap (i27 + 1) : Int) ∧ (IntKind.i64.wrap (i27 + 1) : Int) < ((state23n : Nat) : Int)) with | true => (match l3[0 + (IntKind.i64.wrap (i27 + 1)).toNat * 1]? with | some e5 => (match gtD (r8G (fop .add .f32 (fop .add .f32 (fop .mul .f32 (fop .sub .f32 e1 e2) e3) (fop .mul .f32 beside7 e4)) (fop .mul .f32 beside7 e5)) 0) 4576918229304087675 with | true => (k0 rw0 l0) | false => (rq n5 rows6n beside7 levels8n state23n (IntKind.i64.wrap (i27 + 1)) rw0 l0 l1 l2 l3)) | none => none) | false => none) | false => (match gtD (r8G (fop .add .f32 (fop .mul .f32 (fop .sub .f32 e1 e2) e3) (fop .mul .f32 beside7 e4)) 0) 4576918229304087675 with | true => (k0 rw0 l0) | false => (rq n5 rows6n beside7 levels8n state23n (IntKind.i64.wrap (i27 + 1)) rw0 l0 l1 l2 l3))) | none => none) | false => none) | false => (match decide ((IntKind.i64.wrap (i27 + 1) : Int) < n5) with | true => (match decide (0 ≤ (IntKind.i64.wrap (i27 + 1) : Int) ∧ (IntKind.i64.wrap (i27 + 1) : Int) < ((state23n : Nat) : Int)) with | true => (match l3[0 + (IntKind.i64.wrap (i27 + 1)).toNat * 1]? with | some e6 => (match gtD (r8G (fop .add .f32 (fop .mul .f32 (fop .sub .f32 e1 e2) e3) (fop .mul .f32 beside7 e6)) 0) 4576918229304087675 with | true => (k0 rw0 l0) | false => (rq n5 rows6n beside7 levels8n state23n (IntKind.i64.wrap (i27 + 1)) rw0 l0 l1 l2 l3)) | none => none) | false => none) | false => (match gtD (r8G (fop .mul .f32 (fop .sub .f32 e1 e2) e3) 0) 4576918229304087675 with | true => (k0 rw0 l0) | false => (rq n5 rows6n beside7 levels8n state23n (IntKind.i64.wrap (i27 + 1)) rw0 l0 l1 l2 l3)))) | none => none) | false => none) | none => none) | false => none) | none => none) | false => none) | false => (k1 rw0 l0))
noncomputable def mr_lawB33 (N : Nat) (k0 : Bool → List Int → Option (V × H)) (k1 : Bool → List Int → Option (V × H)) (M : Nat) : Int → Nat → Nat → Nat → Nat → Int → Bool → List Int → List Nat → List Nat → List Nat → Option (V × H) := Nat.rec (motive := fun _ => Int → Nat → Nat → Nat → Nat → Int → Bool → List Int → List Nat → List Nat → List Nat → Option (V × H)) (fun (_ : Int) (_ : Nat) (_ : Nat) (_ : Nat) (_ : Nat) (_ : Int) (_ : Bool) (_ : List Int) (_ : List Nat) (_ : List Nat) (_ : List Nat) => none) (fun _ rq => mb_lawB33 N k0 k1 rq) M
theorem mrs_lawB33 (N : Nat) (k0 : Bool → List Int → Option (V × H)) (k1 : Bool → List Int → Option (V × H)) (M : Nat) (n5 : Int) (rows6n : Nat) (beside7 : Nat) (levels8n : Nat) (state23n : Nat) (i27 : Int) (rw0 : Bool) (l0 : List Int) (l1 : List Nat) (l2 : List Nat) (l3 : List Nat) : mr_lawB33 N k0 k1 (M + 1) n5 rows6n beside7 levels8n state23n i27 rw0 l0 l1 l2 l3 = mb_lawB33 N k0 k1 (mr_lawB33 N k0 k1 M) n5 rows6n beside7 levels8n state23n i27 rw0 l0 l1 l2 l3 := rfl
theorem H_lawB33 (N : Nat) : ∀ (M : Nat) (n5 : Int) (rows6n : Nat) (beside7 : Nat) (levels8n : Nat) (state23n : Nat) (i27 : Int) (rw0 : Bool) (l0 : List Int) (l1 : List Nat) (l2 : List Nat) (l3 : List Nat), lp_lawB33 N M (st_lawB33 n5 rows6n beside7 levels8n state23n i27 rw0 l0 l1 l2 l3) (kt_lawB33 N (kEnd Try.f3 1)) = mr_lawB33 N (ce_lawB33_0 N) (ce_lawB33_1 N) M n5 rows6n beside7 levels8n state23n i27 rw0 l0 l1 l2 l3 := by
  have he0 : ∀ (rw0 : Bool) (l0 : List Int), kt_lawB33 N (kEnd Try.f3 1) .ret (en_lawB33_0 rw0 l0) = ce_lawB33_0 N rw0 l0 := by
    intro rw0 l0
    rw [end_lawB33_0]
    unfold ce_lawB33_0
    first | (simp only []; done) | (simp only []; kernel_rfl) | rfl
  have he1 : ∀ (rw0 : Bool) (l0 : List Int), kt_lawB33 N (kEnd Try.f3 1) (.exit 2) (en_lawB33_1 rw0 l0) = ce_lawB33_1 N rw0 l0 := by
    intro rw0 l0
    rw [end_lawB33_1]
    unfold ce_lawB33_1
    first | (simp only []; done) | (simp only []; kernel_rfl) | rfl
  intro M
  induction M with
  | zero => intros; rfl
  | succ M ih =>
    intro n5 rows6n beside7 levels8n state23n i27 rw0 l0 l1 l2 l3
    rw [step_lawB33]
    rw [mrs_lawB33]
    unfold mb_lawB33
    first | (simp only [ih, he0, he1]; done) | (simp only [ih, he0, he1]; kernel_rfl) | rfl
noncomputable def ce_lawB14_0 (N : Nat) (n5 : Int) (rows6n : Nat) (beside7 : Nat) (levels8n : Nat) (sum14 : Nat) (trace15 : Nat) (rw0 : Bool) (l0 : List Int) (l1 : List Nat) (l2 : List Nat) : Option (V × H) := some (.bool false, [.at rw0 (.int .u8 l0)])
noncomputable def ce_lawB14_1 (N : Nat) (n5 : Int) (rows6n : Nat) (beside7 : Nat) (levels8n : Nat) (sum14 : Nat) (trace15 : Nat) (rw0 : Bool) (l0 : List Int) (l1 : List Nat) (l2 : List Nat) : Option (V × H) := (match fconv .f64 sum14 .f32 with | some c1 => (match fconv .f64 trace15 .f32 with | some c2 => (match gtD (r8G c1 c2) 4576918229304087675 with | true => some (.bool false, [.at rw0 (.int .u8 l0)]) | false => (match decide (0 ≤ (0 : Int) ∧ (0 : Int) < ((levels8n : Nat) : Int)) with | true => (match l2[0]? with | some e3 => (match (d_so rows6n beside7 e3 4 l1).isSome with | true => (match (((v_so rows6n beside7 e3 4 l1).1 : Nat) : Int) != n5 with | true => some (.bool false, [.at rw0 (.int .u8 l0)]) | false => (match (d_ov ((v_so rows6n beside7 e3 4 l1).1) ((v_so rows6n beside7 e3 4 l1).1) true ((v_so rows6n beside7 e3 4 l1).2)).isSome with | true => (match !((v_ov ((v_so rows6n beside7 e3 4 l1).1) ((v_so rows6n beside7 e3 4 l1).1) true ((v_so rows6n beside7 e3 4 l1).2)).2) with | true => some (.bool false, [.at rw0 (.int .u8 l0)]) | false => (match gtD (r8G ((v_ov ((v_so rows6n beside7 e3 4 l1).1) ((v_so rows6n beside7 e3 4 l1).1) true ((v_so rows6n beside7 e3 4 l1).2)).1) 1065353216) 4562254508917369340 with | true => some (.bool false, [.at rw0 (.int .u8 l0)]) | false => (match decide ((n5 : Int) > 1) with | true => (match decide (0 ≤ (1 : Int) ∧ (1 : Int) < ((levels8n : Nat) : Int)) with | true => (match l2[1]? with | some e4 => (match decide (0 ≤ (0 : Int) ∧ (0 : Int) < ((levels8n : Nat) : Int)) with | true => (match l2[0]? with | some e5 => (match gtB (fop .sub .f32 e4 e5) 1048576000 with | true => (mr_lawB33 N (ce_lawB33_0 N) (ce_lawB33_1 N) N n5 rows6n beside7 levels8n ((v_so rows6n beside7 e3 4 l1).1) 0 rw0 l0 l1 l2 ((v_so rows6n beside7 e3 4 l1).2)) | false => some (.bool true, [.at rw0 (.int .u8 l0)])) | none => none) | false => none) | none => none) | false => none) | false => some (.bool true, [.at rw0 (.int .u8 l0)])))) | false => none)) | false => none) | none => none) | false => none)) | none => none) | none => none)
noncomputable def mb_lawB14 (N : Nat) (k0 : Int → Nat → Nat → Nat → Nat → Nat → Bool → List Int → List Nat → List Nat → Option (V × H)) (k1 : Int → Nat → Nat → Nat → Nat → Nat → Bool → List Int → List Nat → List Nat → Option (V × H)) (rq : Int → Nat → Nat → Nat → Nat → Nat → Int → Bool → List Int → List Nat → List Nat → Option (V × H)) : Int → Nat → Nat → Nat → Nat → Nat → Int → Bool → List Int → List Nat → List Nat → Option (V × H) := fun (n5 : Int) (rows6n : Nat) (beside7 : Nat) (levels8n : Nat) (sum14 : Nat) (trace15 : Nat) (k16 : Int) (rw0 : Bool) (l0 : List Int) (l1 : List Nat) (l2 : List Nat) => (match decide ((k16 : Int) < n5) with | true => (match (d_lo rows6n beside7 k16 36 true l1).isSome with | true => (match decide (0 ≤ (k16 : Int) ∧ (k16 : Int) < ((levels8n : Nat) : Int)) with | true => (match l2[0 + (k16).toNat * 1]? with | some e1 => (match (d_CB rows6n beside7 (fop .sub .f32 e1 1008981770) true l1).isSome with | true => (match decide (0 ≤ (k16 : Int) ∧ (k16 : Int) < ((levels8n : Nat) : Int)) with | true => (match l2[0 + (k16).toNat * 1]? with | some e2 => (match (d_CB rows6n beside7 (fop .add .f32 e2 1008981770) true l1).isSome with | true => (match decide (0 ≤ (k16 : Int) ∧ (k16 : Int) < ((levels8n : Nat) : Int)) with | true => (match l2[0 + (k16).toNat * 1]? with | some e3 => (match fconv .f32 e3 .f64 with | some c4 => (match decide (0 ≤ (k16 : Int) ∧ (k16 : Int) < ((rows6n : Nat) : Int)) with | true => (match l1[0 + (k16).toNat * 1]? with | some e5 => (match fconv .f32 e5 .f64 with | some c6 => (match !((v_lo rows6n beside7 k16 36 true l1).2) with | true => (k0 n5 rows6n beside7 levels8n (fop .add .f64 sum14 c4) (fop .add .f64 trace15 c6) rw0 l0 l1 l2) | false => (match !((v_CB rows6n beside7 (fop .sub .f32 e1 1008981770) true l1).2) with | true => (k0 n5 rows6n beside7 levels8n (fop .add .f64 sum14 c4) (fop .add .f64 trace15 c6) rw0 l0 l1 l2) | false => (match !((v_CB rows6n beside7 (fop .add .f32 e2 1008981770) true l1).2) with | true => (k0 n5 rows6n beside7 levels8n (fop .add .f64 sum14 c4) (fop .add .f64 trace15 c6) rw0 l0 l1 l2) | false => (match decide (0 ≤ (k16 : Int) ∧ (k16 : Int) < ((levels8n : Nat) : Int)) with | true => (match l2[0 + (k16).toNat * 1]? with | some e7 => (match FloatKind.f32.format.order ((v_lo rows6n beside7 k16 36 true l1).1) e7 != some .eq with | true => (k0 n5 rows6n beside7 levels8n (fop .add .f64 sum14 c4) (fop .add .f64 trace15 c6) rw0 l0 l1 l2) | false => (match decide ((k16 : Int) > 0) with | true => (match decide (0 ≤ (k16 : Int) ∧ (k16 : Int) < ((levels8n : Nat) : Int)) with | true => (match l2[0 + (k16).toNat * 1]? with | some e8 => (match decide (0 ≤ (IntKind.i64.wrap (k16 - 1) : Int) ∧ (IntKind.i64.wrap (k16 - 1) : Int) < ((levels8n : Nat) : Int)) with | true => (match l2[0 + (IntKind.i64.wrap (k16 - 1)).toNat * 1]? with | some e9 => (match ltB e8 e9 with | true => (k0 n5 rows6n beside7 levels8n (fop .add .f64 sum14 c4) (fop .add .f64 trace15 c6) rw0 l0 l1 l2) | false => (match decide (((v_CB rows6n beside7 (fop .sub .f32 e1 1008981770) true l1).1 : Int) > k16) with | true => (k0 n5 rows6n beside7 levels8n (fop .add .f64 sum14 c4) (fop .add .f64 trace15 c6) rw0 l0 l1 l2) | false => (match decide (((v_CB rows6n beside7 (fop .add .f32 e2 1008981770) true l1).1 : Int) < (IntKind.i64.wrap (k16 + 1))) with | true => (k0 n5 rows6n beside7 levels8n (fop .add .f64 sum14 c4) (fop .add .f64 trace15 c6) rw0 l0 l1 l2) | false => (rq n5 rows6n beside7 levels8n (fop .add .f64 sum14 c4) (fop .add .f64 trace15 c6) (IntKind.i64.wrap (k16 + 1)) rw0 l0 l1 l2)))) | none => none) | false => none) | none => none) | false => none) | false => (match decide (((v_CB rows6n beside7 (fop .sub .f32 e1 1008981770) true l1).1 : Int) > k16) with | true => (k0 n5 rows6n beside7 levels8n (fop .add .f64 sum14 c4) (fop .add .f64 trace15 c6) rw0 l0 l1 l2) | false => (match decide (((v_CB rows6n beside7 (fop .add .f32 e2 1008981770) true l1).1 : Int) < (IntKind.i64.wrap (k16 + 1))) with | true => (k0 n5 rows6n beside7 levels8n (fop .add .f64 sum14 c4) (fop .add .f64 trace15 c6) rw0 l0 l1 l2) | false => (rq n5 rows6n beside7 levels8n (fop .add .f64 sum14 c4) (fop .add .f64 trace15 c6) (IntKind.i64.wrap (k16 + 1)) rw0 l0 l1 l2))))) | none => none) | false => none)))) | none => none) | none => none) | false => none) | none => none) | none => none) | false => none) | false => none) | none => none) | false => none) | false => none) | none => none) | false => none) | false => none) | false => (k1 n5 rows6n beside7 levels8n sum14 trace15 rw0 l0 l1 l2))
noncomputable def mr_lawB14 (N : Nat) (k0 : Int → Nat → Nat → Nat → Nat → Nat → Bool → List Int → List Nat → List Nat → Option (V × H)) (k1 : Int → Nat → Nat → Nat → Nat → Nat → Bool → List Int → List Nat → List Nat → Option (V × H)) (M : Nat) : Int → Nat → Nat → Nat → Nat → Nat → Int → Bool → List Int → List Nat → List Nat → Option (V × H) := Nat.rec (motive := fun _ => Int → Nat → Nat → Nat → Nat → Nat → Int → Bool → List Int → List Nat → List Nat → Option (V × H)) (fun (_ : Int) (_ : Nat) (_ : Nat) (_ : Nat) (_ : Nat) (_ : Nat) (_ : Int) (_ : Bool) (_ : List Int) (_ : List Nat) (_ : List Nat) => none) (fun _ rq => mb_lawB14 N k0 k1 rq) M
theorem mrs_lawB14 (N : Nat) (k0 : Int → Nat → Nat → Nat → Nat → Nat → Bool → List Int → List Nat → List Nat → Option (V × H)) (k1 : Int → Nat → Nat → Nat → Nat → Nat → Bool → List Int → List Nat → List Nat → Option (V × H)) (M : Nat) (n5 : Int) (rows6n : Nat) (beside7 : Nat) (levels8n : Nat) (sum14 : Nat) (trace15 : Nat) (k16 : Int) (rw0 : Bool) (l0 : List Int) (l1 : List Nat) (l2 : List Nat) : mr_lawB14 N k0 k1 (M + 1) n5 rows6n beside7 levels8n sum14 trace15 k16 rw0 l0 l1 l2 = mb_lawB14 N k0 k1 (mr_lawB14 N k0 k1 M) n5 rows6n beside7 levels8n sum14 trace15 k16 rw0 l0 l1 l2 := rfl
theorem H_lawB14 (N : Nat) : ∀ (M : Nat) (n5 : Int) (rows6n : Nat) (beside7 : Nat) (levels8n : Nat) (sum14 : Nat) (trace15 : Nat) (k16 : Int) (rw0 : Bool) (l0 : List Int) (l1 : List Nat) (l2 : List Nat), lp_lawB14 N M (st_lawB14 n5 rows6n beside7 levels8n sum14 trace15 k16 rw0 l0 l1 l2) (kt_lawB14 N (kEnd Try.f3 1)) = mr_lawB14 N (ce_lawB14_0 N) (ce_lawB14_1 N) M n5 rows6n beside7 levels8n sum14 trace15 k16 rw0 l0 l1 l2 := by
  have he0 : ∀ (n5 : Int) (rows6n : Nat) (beside7 : Nat) (levels8n : Nat) (sum14 : Nat) (trace15 : Nat) (rw0 : Bool) (l0 : List Int) (l1 : List Nat) (l2 : List Nat), kt_lawB14 N (kEnd Try.f3 1) .ret (en_lawB14_0 n5 rows6n beside7 levels8n sum14 trace15 rw0 l0 l1 l2) = ce_lawB14_0 N n5 rows6n beside7 levels8n sum14 trace15 rw0 l0 l1 l2 := by
    intro n5 rows6n beside7 levels8n sum14 trace15 rw0 l0 l1 l2
    rw [end_lawB14_0]
    unfold ce_lawB14_0
    first | (simp only []; done) | (simp only []; kernel_rfl) | rfl
  have he1 : ∀ (n5 : Int) (rows6n : Nat) (beside7 : Nat) (levels8n : Nat) (sum14 : Nat) (trace15 : Nat) (rw0 : Bool) (l0 : List Int) (l1 : List Nat) (l2 : List Nat), kt_lawB14 N (kEnd Try.f3 1) (.exit 0) (en_lawB14_1 n5 rows6n beside7 levels8n sum14 trace15 rw0 l0 l1 l2) = ce_lawB14_1 N n5 rows6n beside7 levels8n sum14 trace15 rw0 l0 l1 l2 := by
    intro n5 rows6n beside7 levels8n sum14 trace15 rw0 l0 l1 l2
    rw [end_lawB14_1]
    unfold ce_lawB14_1
    first | (simp only [H_lawB33 N N]; done) | (simp only [H_lawB33 N N]; kernel_rfl) | rfl
  intro M
  induction M with
  | zero => intros; rfl
  | succ M ih =>
    intro n5 rows6n beside7 levels8n sum14 trace15 k16 rw0 l0 l1 l2
    rw [step_lawB14]
    rw [mrs_lawB14]
    unfold mb_lawB14
    first | (simp only [ih, he0, he1]; done) | (simp only [ih, he0, he1]; kernel_rfl) | rfl
noncomputable def md_lawB (N : Nat) (n : Nat) (r : Bool) (l : List Int) : Option (V × H) := (match longB n 0 with | true => some (.bool true, [.at r (.int .u8 l)]) | false => (match atOk 0 [] 40 with | true => (match (d_rr n (IntKind.i64.wrap (1 + (atF [] 40 8))) r l).isSome with | true => (match atOk 0 [] 41 with | true => (match (d_gl ((v_rr n (IntKind.i64.wrap (1 + (atF [] 40 8))) r l).1) (fop .quo .f32 (fneg .f32 (floatOfInt .f32 (IntKind.i64.wrap (1 + (atF [] 41 8))))) 1082130432) (IntKind.i64.wrap (1 + (atF [] 40 8))) 36 true ((v_rr n (IntKind.i64.wrap (1 + (atF [] 40 8))) r l).2)).isSome with | true => (match (d_CB ((v_rr n (IntKind.i64.wrap (1 + (atF [] 40 8))) r l).1) (fop .quo .f32 (fneg .f32 (floatOfInt .f32 (IntKind.i64.wrap (1 + (atF [] 41 8))))) 1082130432) 3267887104 true ((v_rr n (IntKind.i64.wrap (1 + (atF [] 40 8))) r l).2)).isSome with | true => (match (d_CB ((v_rr n (IntKind.i64.wrap (1 + (atF [] 40 8))) r l).1) (fop .quo .f32 (fneg .f32 (floatOfInt .f32 (IntKind.i64.wrap (1 + (atF [] 41 8))))) 1082130432) 1120403456 true ((v_rr n (IntKind.i64.wrap (1 + (atF [] 40 8))) r l).2)).isSome with | true => (match !((v_CB ((v_rr n (IntKind.i64.wrap (1 + (atF [] 40 8))) r l).1) (fop .quo .f32 (fneg .f32 (floatOfInt .f32 (IntKind.i64.wrap (1 + (atF [] 41 8))))) 1082130432) 3267887104 true ((v_rr n (IntKind.i64.wrap (1 + (atF [] 40 8))) r l).2)).2) with | true => some (.bool false, [.at r (.int .u8 l)]) | false => (match !((v_CB ((v_rr n (IntKind.i64.wrap (1 + (atF [] 40 8))) r l).1) (fop .quo .f32 (fneg .f32 (floatOfInt .f32 (IntKind.i64.wrap (1 + (atF [] 41 8))))) 1082130432) 1120403456 true ((v_rr n (IntKind.i64.wrap (1 + (atF [] 40 8))) r l).2)).2) with | true => some (.bool false, [.at r (.int .u8 l)]) | false => (match (((v_gl ((v_rr n (IntKind.i64.wrap (1 + (atF [] 40 8))) r l).1) (fop .quo .f32 (fneg .f32 (floatOfInt .f32 (IntKind.i64.wrap (1 + (atF [] 41 8))))) 1082130432) (IntKind.i64.wrap (1 + (atF [] 40 8))) 36 true ((v_rr n (IntKind.i64.wrap (1 + (atF [] 40 8))) r l).2)).1 : Nat) : Int) != (IntKind.i64.wrap (1 + (atF [] 40 8))) with | true => some (.bool false, [.at r (.int .u8 l)]) | false => (match ((v_CB ((v_rr n (IntKind.i64.wrap (1 + (atF [] 40 8))) r l).1) (fop .quo .f32 (fneg .f32 (floatOfInt .f32 (IntKind.i64.wrap (1 + (atF [] 41 8))))) 1082130432) 3267887104 true ((v_rr n (IntKind.i64.wrap (1 + (atF [] 40 8))) r l).2)).1) != 0 with | true => some (.bool false, [.at r (.int .u8 l)]) | false => (match ((v_CB ((v_rr n (IntKind.i64.wrap (1 + (atF [] 40 8))) r l).1) (fop .quo .f32 (fneg .f32 (floatOfInt .f32 (IntKind.i64.wrap (1 + (atF [] 41 8))))) 1082130432) 1120403456 true ((v_rr n (IntKind.i64.wrap (1 + (atF [] 40 8))) r l).2)).1) != (IntKind.i64.wrap (1 + (atF [] 40 8))) with | true => some (.bool false, [.at r (.int .u8 l)]) | false => (mr_lawB14 N (ce_lawB14_0 N) (ce_lawB14_1 N) N (IntKind.i64.wrap (1 + (atF [] 40 8))) ((v_rr n (IntKind.i64.wrap (1 + (atF [] 40 8))) r l).1) (fop .quo .f32 (fneg .f32 (floatOfInt .f32 (IntKind.i64.wrap (1 + (atF [] 41 8))))) 1082130432) ((v_gl ((v_rr n (IntKind.i64.wrap (1 + (atF [] 40 8))) r l).1) (fop .quo .f32 (fneg .f32 (floatOfInt .f32 (IntKind.i64.wrap (1 + (atF [] 41 8))))) 1082130432) (IntKind.i64.wrap (1 + (atF [] 40 8))) 36 true ((v_rr n (IntKind.i64.wrap (1 + (atF [] 40 8))) r l).2)).1) 0 0 0 r l ((v_rr n (IntKind.i64.wrap (1 + (atF [] 40 8))) r l).2) ((v_gl ((v_rr n (IntKind.i64.wrap (1 + (atF [] 40 8))) r l).1) (fop .quo .f32 (fneg .f32 (floatOfInt .f32 (IntKind.i64.wrap (1 + (atF [] 41 8))))) 1082130432) (IntKind.i64.wrap (1 + (atF [] 40 8))) 36 true ((v_rr n (IntKind.i64.wrap (1 + (atF [] 40 8))) r l).2)).2))))))) | false => none) | false => none) | false => none) | false => none) | false => none) | false => none))
theorem mdl_lawB (N : Nat) (n : Nat) (r : Bool) (l : List Int) : run ty tab_lawB an_lawB N Try.f3 [.sl 0 0 n, .nil] [.at r (.int .u8 l)] = md_lawB N n r l := by
  rw [run_lawB]
  unfold md_lawB
  first | (simp only [H_lawB14 N N]; done) | (simp only [H_lawB14 N N]; kernel_rfl) | rfl
end Go.Proofs.Ytpeplbbphpamhaa.Ab

namespace Go.Proofs.Ytpeplbbphpamhaa.Ab
set_option linter.unusedVariables false
set_option linter.unusedSimpArgs false
open Go
theorem w33_B {N : Nat} {k0 k1 : Bool → List Int → Option (V × H)} (rw0 : Bool) (l0 : List Int) {b n : Nat} {l l4 : List Nat} (hl : l.length = n) (h0 : 0 < n) (hn : n < 40) (H4 : HoldsL l4 n (stW b l)) (hr : ∀ i, i < n → gtD (r8G (restW b (levW b l 0) (fun i => l.getD i 0) (stW b l) n i) 0) 4576918229304087675 = false) :
    ∀ (t i M : Nat), i + t = n → t < M → mr_lawB33 N k0 k1 M ((n : Nat) : Int) n b n n ((i : Nat) : Int) rw0 l0 l (levs b l n) l4 = k1 rw0 l0
  | 0, i, M + 1, hi, hM => by
    rw [mrs_lawB33]
    unfold mb_lawB33
    try dsimp only
    rw [dn (show ¬ i < n by omega)]
  | t + 1, i, M + 1, hi, hM => by
    have hin : i < n := by omega
    have hrest := hr i hin
    have ih := w33_B (N := N) (k0 := k0) (k1 := k1) rw0 l0 hl h0 hn H4 hr t (i + 1) M (by omega) (by omega)
    have hv0 : (levs b l n)[0]? = some (levW b l 0) := by rw [at0 (levs_len b l n) h0, levs_get h0]
    have hU := H4.2 i hin
    have hwi := wi (show i < 1000 by omega)
    unfold restW at hrest
    rw [mrs_lawB33]
    unfold mb_lawB33
    by_cases hi0 : 0 < i
    · obtain ⟨j, rfl⟩ : ∃ j, i = j + 1 := ⟨i - 1, by omega⟩
      have hw1 : IntKind.i64.wrap (((j + 1 : Nat) : Int) - 1) = ((j : Nat) : Int) := by rw [wrap_z (by omega) (by omega)]; omega
      have hUj := H4.2 j (by omega)
      rw [if_pos hi0] at hrest
      simp only [dl hin, d01 hin, ixg hl hin, d00 h0, hv0, ixg H4.1 hin, decide_eq_true (show ((j + 1 : Nat) : Int) > 0 by omega), hw1, d01 (show j < n by omega), ixg H4.1 (show j < n by omega), hwi, hU, hUj]
      by_cases hi1 : j + 1 + 1 < n
      · rw [if_pos hi1] at hrest
        have hUk := H4.2 (j + 1 + 1) hi1
        simp only [dl hi1, d01 hi1, ixg H4.1 hi1, hUk]
        have hrest : gtD (r8G (fop .add .f32 (fop .add .f32 (fop .mul .f32 (fop .sub .f32 (l.getD (j + 1) 0) (levW b l 0)) (stW b l (j + 1))) (fop .mul .f32 b (stW b l j))) (fop .mul .f32 b (stW b l (j + 1 + 1)))) 0) 4576918229304087675 = false := hrest
        rw [hrest]
        exact ih
      · rw [if_neg hi1] at hrest
        simp only [dn hi1]
        have hrest : gtD (r8G (fop .add .f32 (fop .mul .f32 (fop .sub .f32 (l.getD (j + 1) 0) (levW b l 0)) (stW b l (j + 1))) (fop .mul .f32 b (stW b l j))) 0) 4576918229304087675 = false := hrest
        rw [hrest]
        exact ih
    · have e : i = 0 := by omega
      subst e
      rw [if_neg hi0] at hrest
      simp only [dl hin, d01 hin, ixg hl hin, d00 h0, hv0, ixg H4.1 hin, decide_eq_false (show ¬ ((0 : Nat) : Int) > 0 by omega), hwi, hU]
      by_cases hi1 : 0 + 1 < n
      · rw [if_pos hi1] at hrest
        have hUk := H4.2 (0 + 1) hi1
        simp only [dl hi1, d01 hi1, ixg H4.1 hi1, hUk]
        have hrest : gtD (r8G (fop .add .f32 (fop .mul .f32 (fop .sub .f32 (l.getD 0 0) (levW b l 0)) (stW b l 0)) (fop .mul .f32 b (stW b l (0 + 1)))) 0) 4576918229304087675 = false := hrest
        rw [hrest]
        exact ih
      · rw [if_neg hi1] at hrest
        simp only [dn hi1]
        have hrest : gtD (r8G (fop .mul .f32 (fop .sub .f32 (l.getD 0 0) (levW b l 0)) (stW b l 0)) 0) 4576918229304087675 = false := hrest
        rw [hrest]
        exact ih
theorem w14_B {N : Nat} {k0 k1 : Int → Nat → Nat → Nat → Nat → Nat → Bool → List Int → List Nat → List Nat → Option (V × H)} (rw0 : Bool) (l0 : List Int) {b n : Nat} {l : List Nat} (hl : l.length = n) (hn : n < 40) (hk : ∀ k, k < n → AtK b l n k) :
    ∀ (t k M : Nat), k + t = n → t < M → mr_lawB14 N k0 k1 M ((n : Nat) : Int) n b n (sum64 (fun i => levW b l i) k) (sum64 (fun i => l.getD i 0) k) ((k : Nat) : Int) rw0 l0 l (levs b l n) = k1 ((n : Nat) : Int) n b n (sum64 (fun i => levW b l i) n) (sum64 (fun i => l.getD i 0) n) rw0 l0 l (levs b l n)
  | 0, k, M + 1, hi, hM => by
    rw [mrs_lawB14]
    unfold mb_lawB14
    try dsimp only
    rw [dn (show ¬ k < n by omega), show k = n by omega]
  | t + 1, k, M + 1, hi, hM => by
    have hin : k < n := by omega
    have q := hk k hin
    have ih := w14_B (N := N) (k0 := k0) (k1 := k1) rw0 l0 hl hn hk t (k + 1) M (by omega) (by omega)
    have hv := levs_get (b := b) (l := l) hin
    have hlo := q.lo
    have hdn := q.dn
    have hup := q.up
    have hsame := q.same
    have hdk := q.dnk
    have huk := q.upk
    have hwi := wi (show k < 1000 by omega)
    rw [mrs_lawB14]
    unfold mb_lawB14 v_lo v_CB
    simp only [dl hin, hlo, d01 hin, ixg (levs_len b l n) hin, hv, hdn, hup, ixg hl hin, fconv_eq, Option.isSome_some, Option.getD_some, Bool.not_true, hsame, hwi, decide_eq_false (show ¬ ((cbF b (fop .sub .f32 (levW b l k) 1008981770) none l : Nat) : Int) > ((k : Nat) : Int) by omega), decide_eq_false (show ¬ ((cbF b (fop .add .f32 (levW b l k) 1008981770) none l : Nat) : Int) < ((k + 1 : Nat) : Int) by omega)]
    by_cases h0 : 0 < k
    · obtain ⟨j, rfl⟩ : ∃ j, k = j + 1 := ⟨k - 1, by omega⟩
      have hw1 : IntKind.i64.wrap (((j + 1 : Nat) : Int) - 1) = ((j : Nat) : Int) := by rw [wrap_z (by omega) (by omega)]; omega
      have hvj := levs_get (b := b) (l := l) (show j < n by omega)
      simp only [decide_eq_true (show ((j + 1 : Nat) : Int) > 0 by omega), hw1, d01 (show j < n by omega), ixg (levs_len b l n) (show j < n by omega), hvj, q.rise j rfl]
      exact ih
    · simp only [decide_eq_false (show ¬ ((k : Nat) : Int) > 0 by omega)]
      exact ih
theorem wfin_B (rw0 : Bool) (l0 : List Int) {b n : Nat} {l : List Nat} (hl : l.length = n) (h0 : 0 < n) (hn : n < 40) (w : Whole b l n) : ce_lawB14_1 50 ((n : Nat) : Int) n b n (sum64 (fun i => levW b l i) n) (sum64 (fun i => l.getD i 0) n) rw0 l0 l (levs b l n) = some (.bool true, [.at rw0 (.int .u8 l0)]) := by
  obtain ⟨c1, c2, s1, s2, s3⟩ := w.sums
  obtain ⟨l4, q1, q2, o, q3, q4⟩ := w.state
  have hv0 : (levs b l n)[0]? = some (levW b l 0) := by rw [at0 (levs_len b l n) h0, levs_get h0]
  unfold ce_lawB14_1 v_so v_ov
  simp only [s1, s2, s3, d00 h0, hv0, q2, Option.isSome_some, Option.getD_some, bne_self_eq_false, q3, q4, Bool.not_true]
  by_cases h1 : 1 < n
  · have hv1 : (levs b l n)[1]? = some (levW b l 1) := by
      have := ixg (levs_len b l n) h1
      rw [levs_get h1] at this
      exact this
    simp only [decide_eq_true (show ((n : Nat) : Int) > 1 by omega), decide_eq_true (show 0 ≤ (1 : Int) ∧ (1 : Int) < ((n : Nat) : Int) by omega), hv1]
    cases gtB (fop .sub .f32 (levW b l 1) (levW b l 0)) 1048576000 with
    | false => rfl
    | true => exact w33_B (N := 50) (k0 := ce_lawB33_0 50) (k1 := ce_lawB33_1 50) rw0 l0 hl h0 hn q1 w.rest n 0 50 (by omega) (by omega)
  · simp only [decide_eq_false (show ¬ ((n : Nat) : Int) > 1 by omega)]
theorem H_lawB (n : Nat) (r : Bool) (l : List Int) (hn : l.length = n ∧ n < 2147483648) (hb : bytesB l = true) : run ty tab_lawB an_lawB 50 Try.f3 [.sl 0 0 n, .nil] [.at r (.int .u8 l)] = some (.bool true, [.at r (.int .u8 l)]) := by
  rw [mdl_lawB]
  unfold md_lawB
  cases longB n 0
  case true => rfl
  have a40 : atOk 0 ([] : List Int) 40 = true := decide_eq_true ⟨rfl, by decide, by decide, by decide⟩
  have a41 : atOk 0 ([] : List Int) 41 = true := decide_eq_true ⟨rfl, by decide, by decide, by decide⟩
  obtain ⟨k, k1, k8, hk⟩ := drawn_n (l := []) rfl
  obtain ⟨j, j8, hj⟩ := drawn_b (l := []) rfl
  obtain ⟨rows, ar, d1, d2, d3⟩ := rr_ok (r := r) hn hb k8
  have pre := pre_of j8 d1 d2 k1 k8
  have w := whole pre d2
  have hat := fun i hi => at_k pre d2 (k := i) hi
  have hgl := w.gl
  have hno := w.no
  have hall := w.all
  unfold v_rr v_gl v_CB
  simp only [hk, hj, a40, a41, d3, Option.isSome_some, Option.getD_some, hgl, hno, hall, Bool.not_true, bne_self_eq_false]
  have h14 := w14_B (N := 50) (k0 := ce_lawB14_0 50) (k1 := ce_lawB14_1 50) r l d2 (by omega) hat k 0 50 (by omega) (by omega)
  exact Eq.trans h14 (wfin_B r l d2 (by omega) (by omega) w)
end Go.Proofs.Ytpeplbbphpamhaa.Ab

namespace Go.Proofs.Ytpeplbbphpamhaa.Ab
set_option linter.unusedVariables false
set_option linter.unusedSimpArgs false
open Go
def an_lawC : Ann := ⟨fun r => if r = 14 then some ([5, 6, 7, 8, 14, 15, 16], [4, 5, 6, 7, 8, 14, 15]) else if r = 33 then some ([5, 6, 7, 8, 23, 27], [4]) else none, fun _ _ => .quiet⟩
noncomputable def tab_lawC : Fns := tabT [(4, gLong), (5, gAt), (6, g_R8), (7, g_gl), (8, g_CB), (9, g_lo), (10, gT gG8), (11, g_so), (12, g_ov)]
theorem tabok_lawC : ∀ f, FnT Try.prog f (tab_lawC f) := (tabT_cons (k := 4) ok_Long (tabT_cons (k := 5) ok_At (tabT_cons (k := 6) ok_R8 (tabT_cons (k := 7) ok_gl (tabT_cons (k := 8) ok_CB (tabT_cons (k := 9) ok_lo (tabT_cons (k := 10) ok_r8g (tabT_cons (k := 11) ok_so (tabT_cons (k := 12) ok_ov tabT_nil)))))))))
def st_lawC14 (n5 : Int) (rows6n : Nat) (beside7 : Nat) (levels8n : Nat) (sum14 : Nat) (trace15 : Nat) (k16 : Int) (rw0 : Bool) (l0 : List Int) (l1 : List Nat) (l2 : List Nat) : St := ⟨(.any :: .any :: .any :: .any :: .any :: .int .i64 n5 :: .sl 1 0 rows6n :: .fl .f32 beside7 :: .sl 2 0 levels8n :: .any :: .any :: .any :: .any :: .any :: .fl .f64 sum14 :: .fl .f64 trace15 :: .int .i64 k16 :: (anys 257 [])), [.at rw0 (.int .u8 l0), .at true (.fl .f32 l1), .at true (.fl .f32 l2)]⟩
abbrev kp_lawC14 : Option (List Nat × List Nat) := some ([5, 6, 7, 8, 14, 15, 16], [4, 5, 6, 7, 8, 14, 15])
noncomputable def lp_lawC14 {R : Type} (N M : Nat) (s : St) (K : X → St → Option R) : Option R := loopH 1 kp_lawC14 (fun st K => exec ty tab_lawC an_lawC N 1 (atOf [true, true, true, true, true, true, true, true, true, true, true, false, true, false, false] Try.f3) st K) M s K
noncomputable def kt_lawC14 {R : Type} (N : Nat) (K : X → St → Option R) : X → St → Option R := kBlkR 0 (kSeqR tab_lawC an_lawC N 1 (atOf [true, true, true, true, true, true, true, true, true, true, true, true] Try.f3) (K))
def st_lawC33 (n5 : Int) (rows6n : Nat) (beside7 : Nat) (levels8n : Nat) (state23n : Nat) (i27 : Int) (rw0 : Bool) (l0 : List Int) (l1 : List Nat) (l2 : List Nat) (l3 : List Nat) : St := ⟨(.any :: .any :: .any :: .any :: .any :: .int .i64 n5 :: .sl 1 0 rows6n :: .fl .f32 beside7 :: .sl 2 0 levels8n :: (anys 14 (.sl 3 0 state23n :: .any :: .any :: .any :: .int .i64 i27 :: (anys 246 [])))), [.at rw0 (.int .u8 l0), .at true (.fl .f32 l1), .at true (.fl .f32 l2), .at true (.fl .f32 l3)]⟩
abbrev kp_lawC33 : Option (List Nat × List Nat) := some ([5, 6, 7, 8, 23, 27], [4])
noncomputable def lp_lawC33 {R : Type} (N M : Nat) (s : St) (K : X → St → Option R) : Option R := loopH 1 kp_lawC33 (fun st K => exec ty tab_lawC an_lawC N 1 (atOf [true, true, true, true, true, true, true, true, true, true, true, true, true, true, true, true, true, false, true, false, true, false, false] Try.f3) st K) M s K
noncomputable def kt_lawC33 {R : Type} (N : Nat) (K : X → St → Option R) : X → St → Option R := kBlkR 2 (kSeqR tab_lawC an_lawC N 1 (atOf [true, true, true, true, true, true, true, true, true, true, true, true, true, true, true, true, true, true] Try.f3) (K))
def en_lawC14_0 (n5 : Int) (rows6n : Nat) (beside7 : Nat) (levels8n : Nat) (sum14 : Nat) (trace15 : Nat) (rw0 : Bool) (l0 : List Int) (l1 : List Nat) (l2 : List Nat) : St := ⟨(.any :: .any :: .any :: .any :: .bool false :: .int .i64 n5 :: .sl 1 0 rows6n :: .fl .f32 beside7 :: .sl 2 0 levels8n :: .any :: .any :: .any :: .any :: .any :: .fl .f64 sum14 :: .fl .f64 trace15 :: (anys 258 [])), [.at rw0 (.int .u8 l0), .at true (.fl .f32 l1), .at true (.fl .f32 l2)]⟩
def en_lawC14_1 (n5 : Int) (rows6n : Nat) (beside7 : Nat) (levels8n : Nat) (sum14 : Nat) (trace15 : Nat) (rw0 : Bool) (l0 : List Int) (l1 : List Nat) (l2 : List Nat) : St := ⟨(.any :: .any :: .any :: .any :: .any :: .int .i64 n5 :: .sl 1 0 rows6n :: .fl .f32 beside7 :: .sl 2 0 levels8n :: .any :: .any :: .any :: .any :: .any :: .fl .f64 sum14 :: .fl .f64 trace15 :: (anys 258 [])), [.at rw0 (.int .u8 l0), .at true (.fl .f32 l1), .at true (.fl .f32 l2)]⟩
def en_lawC33_0 (rw0 : Bool) (l0 : List Int) : St := ⟨(.any :: .any :: .any :: .any :: .bool false :: (anys 269 [])), [.at rw0 (.int .u8 l0)]⟩
def en_lawC33_1 (rw0 : Bool) (l0 : List Int) : St := ⟨(anys 274 []), [.at rw0 (.int .u8 l0)]⟩
theorem run_lawC (N : Nat) (m : Nat) (r : Bool) (l : List Int) : run ty tab_lawC an_lawC N Try.f3 [.nil, .sl 0 0 m] [.at r (.int .u8 l)]
    = (match longB 0 m with | true => some (.bool true, [.at r (.int .u8 l)]) | false => (match atOk m l 40 with | true => (match (d_rn (IntKind.i64.wrap (1 + (atF l 40 8)))).isSome with | true => (match atOk m l 41 with | true => (match (d_gl ((v_rn (IntKind.i64.wrap (1 + (atF l 40 8)))).1) (fop .quo .f32 (fneg .f32 (floatOfInt .f32 (IntKind.i64.wrap (1 + (atF l 41 8))))) 1082130432) (IntKind.i64.wrap (1 + (atF l 40 8))) 36 true ((v_rn (IntKind.i64.wrap (1 + (atF l 40 8)))).2)).isSome with | true => (match (d_CB ((v_rn (IntKind.i64.wrap (1 + (atF l 40 8)))).1) (fop .quo .f32 (fneg .f32 (floatOfInt .f32 (IntKind.i64.wrap (1 + (atF l 41 8))))) 1082130432) 3267887104 true ((v_rn (IntKind.i64.wrap (1 + (atF l 40 8)))).2)).isSome with | true => (match (d_CB ((v_rn (IntKind.i64.wrap (1 + (atF l 40 8)))).1) (fop .quo .f32 (fneg .f32 (floatOfInt .f32 (IntKind.i64.wrap (1 + (atF l 41 8))))) 1082130432) 1120403456 true ((v_rn (IntKind.i64.wrap (1 + (atF l 40 8)))).2)).isSome with | true => (match !((v_CB ((v_rn (IntKind.i64.wrap (1 + (atF l 40 8)))).1) (fop .quo .f32 (fneg .f32 (floatOfInt .f32 (IntKind.i64.wrap (1 + (atF l 41 8))))) 1082130432) 3267887104 true ((v_rn (IntKind.i64.wrap (1 + (atF l 40 8)))).2)).2) with | true => some (.bool false, [.at r (.int .u8 l)]) | false => (match !((v_CB ((v_rn (IntKind.i64.wrap (1 + (atF l 40 8)))).1) (fop .quo .f32 (fneg .f32 (floatOfInt .f32 (IntKind.i64.wrap (1 + (atF l 41 8))))) 1082130432) 1120403456 true ((v_rn (IntKind.i64.wrap (1 + (atF l 40 8)))).2)).2) with | true => some (.bool false, [.at r (.int .u8 l)]) | false => (match (((v_gl ((v_rn (IntKind.i64.wrap (1 + (atF l 40 8)))).1) (fop .quo .f32 (fneg .f32 (floatOfInt .f32 (IntKind.i64.wrap (1 + (atF l 41 8))))) 1082130432) (IntKind.i64.wrap (1 + (atF l 40 8))) 36 true ((v_rn (IntKind.i64.wrap (1 + (atF l 40 8)))).2)).1 : Nat) : Int) != (IntKind.i64.wrap (1 + (atF l 40 8))) with | true => some (.bool false, [.at r (.int .u8 l)]) | false => (match ((v_CB ((v_rn (IntKind.i64.wrap (1 + (atF l 40 8)))).1) (fop .quo .f32 (fneg .f32 (floatOfInt .f32 (IntKind.i64.wrap (1 + (atF l 41 8))))) 1082130432) 3267887104 true ((v_rn (IntKind.i64.wrap (1 + (atF l 40 8)))).2)).1) != 0 with | true => some (.bool false, [.at r (.int .u8 l)]) | false => (match ((v_CB ((v_rn (IntKind.i64.wrap (1 + (atF l 40 8)))).1) (fop .quo .f32 (fneg .f32 (floatOfInt .f32 (IntKind.i64.wrap (1 + (atF l 41 8))))) 1082130432) 1120403456 true ((v_rn (IntKind.i64.wrap (1 + (atF l 40 8)))).2)).1) != (IntKind.i64.wrap (1 + (atF l 40 8))) with | true => some (.bool false, [.at r (.int .u8 l)]) | false => lp_lawC14 N N (st_lawC14 (IntKind.i64.wrap (1 + (atF l 40 8))) ((v_rn (IntKind.i64.wrap (1 + (atF l 40 8)))).1) (fop .quo .f32 (fneg .f32 (floatOfInt .f32 (IntKind.i64.wrap (1 + (atF l 41 8))))) 1082130432) ((v_gl ((v_rn (IntKind.i64.wrap (1 + (atF l 40 8)))).1) (fop .quo .f32 (fneg .f32 (floatOfInt .f32 (IntKind.i64.wrap (1 + (atF l 41 8))))) 1082130432) (IntKind.i64.wrap (1 + (atF l 40 8))) 36 true ((v_rn (IntKind.i64.wrap (1 + (atF l 40 8)))).2)).1) 0 0 0 r l ((v_rn (IntKind.i64.wrap (1 + (atF l 40 8)))).2) ((v_gl ((v_rn (IntKind.i64.wrap (1 + (atF l 40 8)))).1) (fop .quo .f32 (fneg .f32 (floatOfInt .f32 (IntKind.i64.wrap (1 + (atF l 41 8))))) 1082130432) (IntKind.i64.wrap (1 + (atF l 40 8))) 36 true ((v_rn (IntKind.i64.wrap (1 + (atF l 40 8)))).2)).2)) (kt_lawC14 N (kEnd Try.f3 1))))))) | false => none) | false => none) | false => none) | false => none) | false => none) | false => none)) := by
  kernel_rfl
theorem step_lawC14 {R : Type} (N M : Nat) (K : X → St → Option R) (n5 : Int) (rows6n : Nat) (beside7 : Nat) (levels8n : Nat) (sum14 : Nat) (trace15 : Nat) (k16 : Int) (rw0 : Bool) (l0 : List Int) (l1 : List Nat) (l2 : List Nat) : lp_lawC14 N (M + 1) (st_lawC14 n5 rows6n beside7 levels8n sum14 trace15 k16 rw0 l0 l1 l2) K
    = (match decide ((k16 : Int) < n5) with | true => (match (d_lo rows6n beside7 k16 36 true l1).isSome with | true => (match decide (0 ≤ (k16 : Int) ∧ (k16 : Int) < ((levels8n : Nat) : Int)) with | true => (match l2[0 + (k16).toNat * 1]? with | some e1 => (match (d_CB rows6n beside7 (fop .sub .f32 e1 1008981770) true l1).isSome with | true => (match decide (0 ≤ (k16 : Int) ∧ (k16 : Int) < ((levels8n : Nat) : Int)) with | true => (match l2[0 + (k16).toNat * 1]? with | some e2 => (match (d_CB rows6n beside7 (fop .add .f32 e2 1008981770) true l1).isSome with | true => (match decide (0 ≤ (k16 : Int) ∧ (k16 : Int) < ((levels8n : Nat) : Int)) with | true => (match l2[0 + (k16).toNat * 1]? with | some e3 => (match fconv .f32 e3 .f64 with | some c4 => (match decide (0 ≤ (k16 : Int) ∧ (k16 : Int) < ((rows6n : Nat) : Int)) with | true => (match l1[0 + (k16).toNat * 1]? with | some e5 => (match fconv .f32 e5 .f64 with | some c6 => (match !((v_lo rows6n beside7 k16 36 true l1).2) with | true => K .ret (en_lawC14_0 n5 rows6n beside7 levels8n (fop .add .f64 sum14 c4) (fop .add .f64 trace15 c6) rw0 l0 l1 l2) | false => (match !((v_CB rows6n beside7 (fop .sub .f32 e1 1008981770) true l1).2) with | true => K .ret (en_lawC14_0 n5 rows6n beside7 levels8n (fop .add .f64 sum14 c4) (fop .add .f64 trace15 c6) rw0 l0 l1 l2) | false => (match !((v_CB rows6n beside7 (fop .add .f32 e2 1008981770) true l1).2) with | true => K .ret (en_lawC14_0 n5 rows6n beside7 levels8n (fop .add .f64 sum14 c4) (fop .add .f64 trace15 c6) rw0 l0 l1 l2) | false => (match decide (0 ≤ (k16 : Int) ∧ (k16 : Int) < ((levels8n : Nat) : Int)) with | true => (match l2[0 + (k16).toNat * 1]? with | some e7 => (match FloatKind.f32.format.order ((v_lo rows6n beside7 k16 36 true l1).1) e7 != some .eq with | true => K .ret (en_lawC14_0 n5 rows6n beside7 levels8n (fop .add .f64 sum14 c4) (fop .add .f64 trace15 c6) rw0 l0 l1 l2) | false => (match decide ((k16 : Int) > 0) with | true => (match decide (0 ≤ (k16 : Int) ∧ (k16 : Int) < ((levels8n : Nat) : Int)) with | true => (match l2[0 + (k16).toNat * 1]? with | some e8 => (match decide (0 ≤ (IntKind.i64.wrap (k16 - 1) : Int) ∧ (IntKind.i64.wrap (k16 - 1) : Int) < ((levels8n : Nat) : Int)) with | true => (match l2[0 + (IntKind.i64.wrap (k16 - 1)).toNat * 1]? with | some e9 => (match ltB e8 e9 with | true => K .ret (en_lawC14_0 n5 rows6n beside7 levels8n (fop .add .f64 sum14 c4) (fop .add .f64 trace15 c6) rw0 l0 l1 l2) | false => (match decide (((v_CB rows6n beside7 (fop .sub .f32 e1 1008981770) true l1).1 : Int) > k16) with | true => K .ret (en_lawC14_0 n5 rows6n beside7 levels8n (fop .add .f64 sum14 c4) (fop .add .f64 trace15 c6) rw0 l0 l1 l2) | false => (match decide (((v_CB rows6n beside7 (fop .add .f32 e2 1008981770) true l1).1 : Int) < (IntKind.i64.wrap (k16 + 1))) with | true => K .ret (en_lawC14_0 n5 rows6n beside7 levels8n (fop .add .f64 sum14 c4) (fop .add .f64 trace15 c6) rw0 l0 l1 l2) | false => lp_lawC14 N M (st_lawC14 n5 rows6n beside7 levels8n (fop .add .f64 sum14 c4) (fop .add .f64 trace15 c6) (IntKind.i64.wrap (k16 + 1)) rw0 l0 l1 l2) K))) | none => none) | false => none) | none => none) | false => none) | false => (match decide (((v_CB rows6n beside7 (fop .sub .f32 e1 1008981770) true l1).1 : Int) > k16) with | true => K .ret (en_lawC14_0 n5 rows6n beside7 levels8n (fop .add .f64 sum14 c4) (fop .add .f64 trace15 c6) rw0 l0 l1 l2) | false => (match decide (((v_CB rows6n beside7 (fop .add .f32 e2 1008981770) true l1).1 : Int) < (IntKind.i64.wrap (k16 + 1))) with | true => K .ret (en_lawC14_0 n5 rows6n beside7 levels8n (fop .add .f64 sum14 c4) (fop .add .f64 trace15 c6) rw0 l0 l1 l2) | false => lp_lawC14 N M (st_lawC14 n5 rows6n beside7 levels8n (fop .add .f64 sum14 c4) (fop .add .f64 trace15 c6) (IntKind.i64.wrap (k16 + 1)) rw0 l0 l1 l2) K)))) | none => none) | false => none)))) | none => none) | none => none) | false => none) | none => none) | none => none) | false => none) | false => none) | none => none) | false => none) | false => none) | none => none) | false => none) | false => none) | false => K (.exit 0) (en_lawC14_1 n5 rows6n beside7 levels8n sum14 trace15 rw0 l0 l1 l2)) := by
  kernel_rfl
theorem step_lawC33 {R : Type} (N M : Nat) (K : X → St → Option R) (n5 : Int) (rows6n : Nat) (beside7 : Nat) (levels8n : Nat) (state23n : Nat) (i27 : Int) (rw0 : Bool) (l0 : List Int) (l1 : List Nat) (l2 : List Nat) (l3 : List Nat) : lp_lawC33 N (M + 1) (st_lawC33 n5 rows6n beside7 levels8n state23n i27 rw0 l0 l1 l2 l3) K
    = (match decide ((i27 : Int) < n5) with | true => (match decide (0 ≤ (i27 : Int) ∧ (i27 : Int) < ((rows6n : Nat) : Int)) with | true => (match l1[0 + (i27).toNat * 1]? with | some e1 => (match decide (0 ≤ (0 : Int) ∧ (0 : Int) < ((levels8n : Nat) : Int)) with | true => (match l2[0]? with | some e2 => (match decide (0 ≤ (i27 : Int) ∧ (i27 : Int) < ((state23n : Nat) : Int)) with | true => (match l3[0 + (i27).toNat * 1]? with | some e3 => (match decide ((i27 : Int) > 0) with | true => (match decide (0 ≤ (IntKind.i64.wrap (i27 - 1) : Int) ∧ (IntKind.i64.wrap (i27 - 1) : Int) < ((state23n : Nat) : Int)) with | true => (match l3[0 + (IntKind.i64.wrap (i27 - 1)).toNat * 1]? with | some e4 => (match decide ((IntKind.i64.wrap (i27 + 1) : Int) < n5) with | true => (match decide (0 ≤ (IntKind.i64.wrap (i27 + 1) : Int) ∧ (IntKind.i64.wrap (i27 + 1) : Int) < ((state23n : Nat) : Int)) with | true => (match l3[0 + (IntKind.i64.wrap (i27 + 1)).toNat * 1]? with | some e5 => (match gtD (r8G (fop .add .f32 (fop .add .f32 (fop .mul .f32 (fop .sub .f32 e1 e2) e3) (fop .mul .f32 beside7 e4)) (fop .mul .f32 beside7 e5)) 0) 4576918229304087675 with | true => K .ret (en_lawC33_0 rw0 l0) | false => lp_lawC33 N M (st_lawC33 n5 rows6n beside7 levels8n state23n (IntKind.i64.wrap (i27 + 1)) rw0 l0 l1 l2 l3) K) | none => none) | false => none) | false => (match gtD (r8G (fop .add .f32 (fop .mul .f32 (fop .sub .f32 e1 e2) e3) (fop .mul .f32 beside7 e4)) 0) 4576918229304087675 with | true => K .ret (en_lawC33_0 rw0 l0) | false => lp_lawC33 N M (st_lawC33 n5 rows6n beside7 levels8n state23n (IntKind.i64.wrap (i27 + 1)) rw0 l0 l1 l2 l3) K)) | none => none) | false => none) | false => (match decide ((IntKind.i64.wrap (i27 + 1) : Int) < n5) with | true => (match decide (0 ≤ (IntKind.i64.wrap (i27 + 1) : Int) ∧ (IntKind.i64.wrap (i27 + 1) : Int) < ((state23n : Nat) : Int)) with | true => (match l3[0 + (IntKind.i64.wrap (i27 + 1)).toNat * 1]? with | some e6 => (match gtD (r8G (fop .add .f32 (fop .mul .f32 (fop .sub .f32 e1 e2) e3) (fop .mul .f32 beside7 e6)) 0) 4576918229304087675 with | true => K .ret (en_lawC33_0 rw0 l0) | false => lp_lawC33 N M (st_lawC33 n5 rows6n beside7 levels8n state23n (IntKind.i64.wrap (i27 + 1)) rw0 l0 l1 l2 l3) K) | none => none) | false => none) | false => (match gtD (r8G (fop .mul .f32 (fop .sub .f32 e1 e2) e3) 0) 4576918229304087675 with | true => K .ret (en_lawC33_0 rw0 l0) | false => lp_lawC33 N M (st_lawC33 n5 rows6n beside7 levels8n state23n (IntKind.i64.wrap (i27 + 1)) rw0 l0 l1 l2 l3) K))) | none => none) | false => none) | none => none) | false => none) | none => none) | false => none) | false => K (.exit 2) (en_lawC33_1 rw0 l0)) := by
  kernel_rfl
theorem end_lawC14_0 (N : Nat) (n5 : Int) (rows6n : Nat) (beside7 : Nat) (levels8n : Nat) (sum14 : Nat) (trace15 : Nat) (rw0 : Bool) (l0 : List Int) (l1 : List Nat) (l2 : List Nat) : kt_lawC14 N (kEnd Try.f3 1) .ret (en_lawC14_0 n5 rows6n beside7 levels8n sum14 trace15 rw0 l0 l1 l2)
    = some (.bool false, [.at rw0 (.int .u8 l0)]) := by
  kernel_rfl
theorem end_lawC14_1 (N : Nat) (n5 : Int) (rows6n : Nat) (beside7 : Nat) (levels8n : Nat) (sum14 : Nat) (trace15 : Nat) (rw0 : Bool) (l0 : List Int) (l1 : List Nat) (l2 : List Nat) : kt_lawC14 N (kEnd Try.f3 1) (.exit 0) (en_lawC14_1 n5 rows6n beside7 levels8n sum14 trace15 rw0 l0 l1 l2)
    = (match fconv .f64 sum14 .f32 with | some c1 => (match fconv .f64 trace15 .f32 with | some c2 => (match gtD (r8G c1 c2) 4576918229304087675 with | true => some (.bool false, [.at rw0 (.int .u8 l0)]) | false => (match decide (0 ≤ (0 : Int) ∧ (0 : Int) < ((levels8n : Nat) : Int)) with | true => (match l2[0]? with | some e3 => (match (d_so rows6n beside7 e3 4 l1).isSome with | true => (match (((v_so rows6n beside7 e3 4 l1).1 : Nat) : Int) != n5 with | true => some (.bool false, [.at rw0 (.int .u8 l0)]) | false => (match (d_ov ((v_so rows6n beside7 e3 4 l1).1) ((v_so rows6n beside7 e3 4 l1).1) true ((v_so rows6n beside7 e3 4 l1).2)).isSome with | true => (match !((v_ov ((v_so rows6n beside7 e3 4 l1).1) ((v_so rows6n beside7 e3 4 l1).1) true ((v_so rows6n beside7 e3 4 l1).2)).2) with | true => some (.bool false, [.at rw0 (.int .u8 l0)]) | false => (match gtD (r8G ((v_ov ((v_so rows6n beside7 e3 4 l1).1) ((v_so rows6n beside7 e3 4 l1).1) true ((v_so rows6n beside7 e3 4 l1).2)).1) 1065353216) 4562254508917369340 with | true => some (.bool false, [.at rw0 (.int .u8 l0)]) | false => (match decide ((n5 : Int) > 1) with | true => (match decide (0 ≤ (1 : Int) ∧ (1 : Int) < ((levels8n : Nat) : Int)) with | true => (match l2[1]? with | some e4 => (match decide (0 ≤ (0 : Int) ∧ (0 : Int) < ((levels8n : Nat) : Int)) with | true => (match l2[0]? with | some e5 => (match gtB (fop .sub .f32 e4 e5) 1048576000 with | true => lp_lawC33 N N (st_lawC33 n5 rows6n beside7 levels8n ((v_so rows6n beside7 e3 4 l1).1) 0 rw0 l0 l1 l2 ((v_so rows6n beside7 e3 4 l1).2)) (kt_lawC33 N (kEnd Try.f3 1)) | false => some (.bool true, [.at rw0 (.int .u8 l0)])) | none => none) | false => none) | none => none) | false => none) | false => some (.bool true, [.at rw0 (.int .u8 l0)])))) | false => none)) | false => none) | none => none) | false => none)) | none => none) | none => none) := by
  kernel_rfl
theorem end_lawC33_0 (N : Nat) (rw0 : Bool) (l0 : List Int) : kt_lawC33 N (kEnd Try.f3 1) .ret (en_lawC33_0 rw0 l0)
    = some (.bool false, [.at rw0 (.int .u8 l0)]) := by
  kernel_rfl
theorem end_lawC33_1 (N : Nat) (rw0 : Bool) (l0 : List Int) : kt_lawC33 N (kEnd Try.f3 1) (.exit 2) (en_lawC33_1 rw0 l0)
    = some (.bool true, [.at rw0 (.int .u8 l0)]) := by
  kernel_rfl
noncomputable def ce_lawC33_0 (N : Nat) (rw0 : Bool) (l0 : List Int) : Option (V × H) := some (.bool false, [.at rw0 (.int .u8 l0)])
noncomputable def ce_lawC33_1 (N : Nat) (rw0 : Bool) (l0 : List Int) : Option (V × H) := some (.bool true, [.at rw0 (.int .u8 l0)])
noncomputable def mb_lawC33 (N : Nat) (k0 : Bool → List Int → Option (V × H)) (k1 : Bool → List Int → Option (V × H)) (rq : Int → Nat → Nat → Nat → Nat → Int → Bool → List Int → List Nat → List Nat → List Nat → Option (V × H)) : Int → Nat → Nat → Nat → Nat → Int → Bool → List Int → List Nat → List Nat → List Nat → Option (V × H) := fun (n5 : Int) (rows6n : Nat) (beside7 : Nat) (levels8n : Nat) (state23n : Nat) (i27 : Int) (rw0 : Bool) (l0 : List Int) (l1 : List Nat) (l2 : List Nat) (l3 : List Nat) => (match decide ((i27 : Int) < n5) with | true => (match decide (0 ≤ (i27 : Int) ∧ (i27 : Int) < ((rows6n : Nat) : Int)) with | true => (match l1[0 + (i27).toNat * 1]? with | some e1 => (match decide (0 ≤ (0 : Int) ∧ (0 : Int) < ((levels8n : Nat) : Int)) with | true => (match l2[0]? with | some e2 => (match decide (0 ≤ (i27 : Int) ∧ (i27 : Int) < ((state23n : Nat) : Int)) with | true => (match l3[0 + (i27).toNat * 1]? with | some e3 => (match decide ((i27 : Int) > 0) with | true => (match decide (0 ≤ (IntKind.i64.wrap (i27 - 1) : Int) ∧ (IntKind.i64.wrap (i27 - 1) : Int) < ((state23n : Nat) : Int)) with | true => (match l3[0 + (IntKind.i64.wrap (i27 - 1)).toNat * 1]? with | some e4 => (match decide ((IntKind.i64.wrap (i27 + 1) : Int) < n5) with | true => (match decide (0 ≤ (IntKind.i64.wrap (i27 + 1) : Int) ∧ (IntKind.i64.wrap (i27 + 1) : Int) < ((state23n : Nat) : Int)) with | true => (match l3[0 + (IntKind.i64.wrap (i27 + 1)).toNat * 1]? with | some e5 => (match gtD (r8G (fop .add .f32 (fop .add .f32 (fop .mul .f32 (fop .sub .f32 e1 e2) e3) (fop .mul .f32 beside7 e4)) (fop .mul .f32 beside7 e5)) 0) 4576918229304087675 with | true => (k0 rw0 l0) | false => (rq n5 rows6n beside7 levels8n state23n (IntKind.i64.wrap (i27 + 1)) rw0 l0 l1 l2 l3)) | none => none) | false => none) | false => (match gtD (r8G (fop .add .f32 (fop .mul .f32 (fop .sub .f32 e1 e2) e3) (fop .mul .f32 beside7 e4)) 0) 4576918229304087675 with | true => (k0 rw0 l0) | false => (rq n5 rows6n beside7 levels8n state23n (IntKind.i64.wrap (i27 + 1)) rw0 l0 l1 l2 l3))) | none => none) | false => none) | false => (match decide ((IntKind.i64.wrap (i27 + 1) : Int) < n5) with | true => (match decide (0 ≤ (IntKind.i64.wrap (i27 + 1) : Int) ∧ (IntKind.i64.wrap (i27 + 1) : Int) < ((state23n : Nat) : Int)) with | true => (match l3[0 + (IntKind.i64.wrap (i27 + 1)).toNat * 1]? with | some e6 => (match gtD (r8G (fop .add .f32 (fop .mul .f32 (fop .sub .f32 e1 e2) e3) (fop .mul .f32 beside7 e6)) 0) 4576918229304087675 with | true => (k0 rw0 l0) | false => (rq n5 rows6n beside7 levels8n state23n (IntKind.i64.wrap (i27 + 1)) rw0 l0 l1 l2 l3)) | none => none) | false => none) | false => (match gtD (r8G (fop .mul .f32 (fop .sub .f32 e1 e2) e3) 0) 4576918229304087675 with | true => (k0 rw0 l0) | false => (rq n5 rows6n beside7 levels8n state23n (IntKind.i64.wrap (i27 + 1)) rw0 l0 l1 l2 l3)))) | none => none) | false => none) | none => none) | false => none) | none => none) | false => none) | false => (k1 rw0 l0))
noncomputable def mr_lawC33 (N : Nat) (k0 : Bool → List Int → Option (V × H)) (k1 : Bool → List Int → Option (V × H)) (M : Nat) : Int → Nat → Nat → Nat → Nat → Int → Bool → List Int → List Nat → List Nat → List Nat → Option (V × H) := Nat.rec (motive := fun _ => Int → Nat → Nat → Nat → Nat → Int → Bool → List Int → List Nat → List Nat → List Nat → Option (V × H)) (fun (_ : Int) (_ : Nat) (_ : Nat) (_ : Nat) (_ : Nat) (_ : Int) (_ : Bool) (_ : List Int) (_ : List Nat) (_ : List Nat) (_ : List Nat) => none) (fun _ rq => mb_lawC33 N k0 k1 rq) M
theorem mrs_lawC33 (N : Nat) (k0 : Bool → List Int → Option (V × H)) (k1 : Bool → List Int → Option (V × H)) (M : Nat) (n5 : Int) (rows6n : Nat) (beside7 : Nat) (levels8n : Nat) (state23n : Nat) (i27 : Int) (rw0 : Bool) (l0 : List Int) (l1 : List Nat) (l2 : List Nat) (l3 : List Nat) : mr_lawC33 N k0 k1 (M + 1) n5 rows6n beside7 levels8n state23n i27 rw0 l0 l1 l2 l3 = mb_lawC33 N k0 k1 (mr_lawC33 N k0 k1 M) n5 rows6n beside7 levels8n state23n i27 rw0 l0 l1 l2 l3 := rfl
theorem H_lawC33 (N : Nat) : ∀ (M : Nat) (n5 : Int) (rows6n : Nat) (beside7 : Nat) (levels8n : Nat) (state23n : Nat) (i27 : Int) (rw0 : Bool) (l0 : List Int) (l1 : List Nat) (l2 : List Nat) (l3 : List Nat), lp_lawC33 N M (st_lawC33 n5 rows6n beside7 levels8n state23n i27 rw0 l0 l1 l2 l3) (kt_lawC33 N (kEnd Try.f3 1)) = mr_lawC33 N (ce_lawC33_0 N) (ce_lawC33_1 N) M n5 rows6n beside7 levels8n state23n i27 rw0 l0 l1 l2 l3 := by
  have he0 : ∀ (rw0 : Bool) (l0 : List Int), kt_lawC33 N (kEnd Try.f3 1) .ret (en_lawC33_0 rw0 l0) = ce_lawC33_0 N rw0 l0 := by
    intro rw0 l0
    rw [end_lawC33_0]
    unfold ce_lawC33_0
    first | (simp only []; done) | (simp only []; kernel_rfl) | rfl
  have he1 : ∀ (rw0 : Bool) (l0 : List Int), kt_lawC33 N (kEnd Try.f3 1) (.exit 2) (en_lawC33_1 rw0 l0) = ce_lawC33_1 N rw0 l0 := by
    intro rw0 l0
    rw [end_lawC33_1]
    unfold ce_lawC33_1
    first | (simp only []; done) | (simp only []; kernel_rfl) | rfl
  intro M
  induction M with
  | zero => intros; rfl
  | succ M ih =>
    intro n5 rows6n beside7 levels8n state23n i27 rw0 l0 l1 l2 l3
    rw [step_lawC33]
    rw [mrs_lawC33]
    unfold mb_lawC33
    first | (simp only [ih, he0, he1]; done) | (simp only [ih, he0, he1]; kernel_rfl) | rfl
noncomputable def ce_lawC14_0 (N : Nat) (n5 : Int) (rows6n : Nat) (beside7 : Nat) (levels8n : Nat) (sum14 : Nat) (trace15 : Nat) (rw0 : Bool) (l0 : List Int) (l1 : List Nat) (l2 : List Nat) : Option (V × H) := some (.bool false, [.at rw0 (.int .u8 l0)])
noncomputable def ce_lawC14_1 (N : Nat) (n5 : Int) (rows6n : Nat) (beside7 : Nat) (levels8n : Nat) (sum14 : Nat) (trace15 : Nat) (rw0 : Bool) (l0 : List Int) (l1 : List Nat) (l2 : List Nat) : Option (V × H) := (match fconv .f64 sum14 .f32 with | some c1 => (match fconv .f64 trace15 .f32 with | some c2 => (match gtD (r8G c1 c2) 4576918229304087675 with | true => some (.bool false, [.at rw0 (.int .u8 l0)]) | false => (match decide (0 ≤ (0 : Int) ∧ (0 : Int) < ((levels8n : Nat) : Int)) with | true => (match l2[0]? with | some e3 => (match (d_so rows6n beside7 e3 4 l1).isSome with | true => (match (((v_so rows6n beside7 e3 4 l1).1 : Nat) : Int) != n5 with | true => some (.bool false, [.at rw0 (.int .u8 l0)]) | false => (match (d_ov ((v_so rows6n beside7 e3 4 l1).1) ((v_so rows6n beside7 e3 4 l1).1) true ((v_so rows6n beside7 e3 4 l1).2)).isSome with | true => (match !((v_ov ((v_so rows6n beside7 e3 4 l1).1) ((v_so rows6n beside7 e3 4 l1).1) true ((v_so rows6n beside7 e3 4 l1).2)).2) with | true => some (.bool false, [.at rw0 (.int .u8 l0)]) | false => (match gtD (r8G ((v_ov ((v_so rows6n beside7 e3 4 l1).1) ((v_so rows6n beside7 e3 4 l1).1) true ((v_so rows6n beside7 e3 4 l1).2)).1) 1065353216) 4562254508917369340 with | true => some (.bool false, [.at rw0 (.int .u8 l0)]) | false => (match decide ((n5 : Int) > 1) with | true => (match decide (0 ≤ (1 : Int) ∧ (1 : Int) < ((levels8n : Nat) : Int)) with | true => (match l2[1]? with | some e4 => (match decide (0 ≤ (0 : Int) ∧ (0 : Int) < ((levels8n : Nat) : Int)) with | true => (match l2[0]? with | some e5 => (match gtB (fop .sub .f32 e4 e5) 1048576000 with | true => (mr_lawC33 N (ce_lawC33_0 N) (ce_lawC33_1 N) N n5 rows6n beside7 levels8n ((v_so rows6n beside7 e3 4 l1).1) 0 rw0 l0 l1 l2 ((v_so rows6n beside7 e3 4 l1).2)) | false => some (.bool true, [.at rw0 (.int .u8 l0)])) | none => none) | false => none) | none => none) | false => none) | false => some (.bool true, [.at rw0 (.int .u8 l0)])))) | false => none)) | false => none) | none => none) | false => none)) | none => none) | none => none)
noncomputable def mb_lawC14 (N : Nat) (k0 : Int → Nat → Nat → Nat → Nat → Nat → Bool → List Int → List Nat → List Nat → Option (V × H)) (k1 : Int → Nat → Nat → Nat → Nat → Nat → Bool → List Int → List Nat → List Nat → Option (V × H)) (rq : Int → Nat → Nat → Nat → Nat → Nat → Int → Bool → List Int → List Nat → List Nat → Option (V × H)) : Int → Nat → Nat → Nat → Nat → Nat → Int → Bool → List Int → List Nat → List Nat → Option (V × H) := fun (n5 : Int) (rows6n : Nat) (beside7 : Nat) (levels8n : Nat) (sum14 : Nat) (trace15 : Nat) (k16 : Int) (rw0 : Bool) (l0 : List Int) (l1 : List Nat) (l2 : List Nat) => (match decide ((k16 : Int) < n5) with | true => (match (d_lo rows6n beside7 k16 36 true l1).isSome with | true => (match decide (0 ≤ (k16 : Int) ∧ (k16 : Int) < ((levels8n : Nat) : Int)) with | true => (match l2[0 + (k16).toNat * 1]? with | some e1 => (match (d_CB rows6n beside7 (fop .sub .f32 e1 1008981770) true l1).isSome with | true => (match decide (0 ≤ (k16 : Int) ∧ (k16 : Int) < ((levels8n : Nat) : Int)) with | true => (match l2[0 + (k16).toNat * 1]? with | some e2 => (match (d_CB rows6n beside7 (fop .add .f32 e2 1008981770) true l1).isSome with | true => (match decide (0 ≤ (k16 : Int) ∧ (k16 : Int) < ((levels8n : Nat) : Int)) with | true => (match l2[0 + (k16).toNat * 1]? with | some e3 => (match fconv .f32 e3 .f64 with | some c4 => (match decide (0 ≤ (k16 : Int) ∧ (k16 : Int) < ((rows6n : Nat) : Int)) with | true => (match l1[0 + (k16).toNat * 1]? with | some e5 => (match fconv .f32 e5 .f64 with | some c6 => (match !((v_lo rows6n beside7 k16 36 true l1).2) with | true => (k0 n5 rows6n beside7 levels8n (fop .add .f64 sum14 c4) (fop .add .f64 trace15 c6) rw0 l0 l1 l2) | false => (match !((v_CB rows6n beside7 (fop .sub .f32 e1 1008981770) true l1).2) with | true => (k0 n5 rows6n beside7 levels8n (fop .add .f64 sum14 c4) (fop .add .f64 trace15 c6) rw0 l0 l1 l2) | false => (match !((v_CB rows6n beside7 (fop .add .f32 e2 1008981770) true l1).2) with | true => (k0 n5 rows6n beside7 levels8n (fop .add .f64 sum14 c4) (fop .add .f64 trace15 c6) rw0 l0 l1 l2) | false => (match decide (0 ≤ (k16 : Int) ∧ (k16 : Int) < ((levels8n : Nat) : Int)) with | true => (match l2[0 + (k16).toNat * 1]? with | some e7 => (match FloatKind.f32.format.order ((v_lo rows6n beside7 k16 36 true l1).1) e7 != some .eq with | true => (k0 n5 rows6n beside7 levels8n (fop .add .f64 sum14 c4) (fop .add .f64 trace15 c6) rw0 l0 l1 l2) | false => (match decide ((k16 : Int) > 0) with | true => (match decide (0 ≤ (k16 : Int) ∧ (k16 : Int) < ((levels8n : Nat) : Int)) with | true => (match l2[0 + (k16).toNat * 1]? with | some e8 => (match decide (0 ≤ (IntKind.i64.wrap (k16 - 1) : Int) ∧ (IntKind.i64.wrap (k16 - 1) : Int) < ((levels8n : Nat) : Int)) with | true => (match l2[0 + (IntKind.i64.wrap (k16 - 1)).toNat * 1]? with | some e9 => (match ltB e8 e9 with | true => (k0 n5 rows6n beside7 levels8n (fop .add .f64 sum14 c4) (fop .add .f64 trace15 c6) rw0 l0 l1 l2) | false => (match decide (((v_CB rows6n beside7 (fop .sub .f32 e1 1008981770) true l1).1 : Int) > k16) with | true => (k0 n5 rows6n beside7 levels8n (fop .add .f64 sum14 c4) (fop .add .f64 trace15 c6) rw0 l0 l1 l2) | false => (match decide (((v_CB rows6n beside7 (fop .add .f32 e2 1008981770) true l1).1 : Int) < (IntKind.i64.wrap (k16 + 1))) with | true => (k0 n5 rows6n beside7 levels8n (fop .add .f64 sum14 c4) (fop .add .f64 trace15 c6) rw0 l0 l1 l2) | false => (rq n5 rows6n beside7 levels8n (fop .add .f64 sum14 c4) (fop .add .f64 trace15 c6) (IntKind.i64.wrap (k16 + 1)) rw0 l0 l1 l2)))) | none => none) | false => none) | none => none) | false => none) | false => (match decide (((v_CB rows6n beside7 (fop .sub .f32 e1 1008981770) true l1).1 : Int) > k16) with | true => (k0 n5 rows6n beside7 levels8n (fop .add .f64 sum14 c4) (fop .add .f64 trace15 c6) rw0 l0 l1 l2) | false => (match decide (((v_CB rows6n beside7 (fop .add .f32 e2 1008981770) true l1).1 : Int) < (IntKind.i64.wrap (k16 + 1))) with | true => (k0 n5 rows6n beside7 levels8n (fop .add .f64 sum14 c4) (fop .add .f64 trace15 c6) rw0 l0 l1 l2) | false => (rq n5 rows6n beside7 levels8n (fop .add .f64 sum14 c4) (fop .add .f64 trace15 c6) (IntKind.i64.wrap (k16 + 1)) rw0 l0 l1 l2))))) | none => none) | false => none)))) | none => none) | none => none) | false => none) | none => none) | none => none) | false => none) | false => none) | none => none) | false => none) | false => none) | none => none) | false => none) | false => none) | false => (k1 n5 rows6n beside7 levels8n sum14 trace15 rw0 l0 l1 l2))
noncomputable def mr_lawC14 (N : Nat) (k0 : Int → Nat → Nat → Nat → Nat → Nat → Bool → List Int → List Nat → List Nat → Option (V × H)) (k1 : Int → Nat → Nat → Nat → Nat → Nat → Bool → List Int → List Nat → List Nat → Option (V × H)) (M : Nat) : Int → Nat → Nat → Nat → Nat → Nat → Int → Bool → List Int → List Nat → List Nat → Option (V × H) := Nat.rec (motive := fun _ => Int → Nat → Nat → Nat → Nat → Nat → Int → Bool → List Int → List Nat → List Nat → Option (V × H)) (fun (_ : Int) (_ : Nat) (_ : Nat) (_ : Nat) (_ : Nat) (_ : Nat) (_ : Int) (_ : Bool) (_ : List Int) (_ : List Nat) (_ : List Nat) => none) (fun _ rq => mb_lawC14 N k0 k1 rq) M
theorem mrs_lawC14 (N : Nat) (k0 : Int → Nat → Nat → Nat → Nat → Nat → Bool → List Int → List Nat → List Nat → Option (V × H)) (k1 : Int → Nat → Nat → Nat → Nat → Nat → Bool → List Int → List Nat → List Nat → Option (V × H)) (M : Nat) (n5 : Int) (rows6n : Nat) (beside7 : Nat) (levels8n : Nat) (sum14 : Nat) (trace15 : Nat) (k16 : Int) (rw0 : Bool) (l0 : List Int) (l1 : List Nat) (l2 : List Nat) : mr_lawC14 N k0 k1 (M + 1) n5 rows6n beside7 levels8n sum14 trace15 k16 rw0 l0 l1 l2 = mb_lawC14 N k0 k1 (mr_lawC14 N k0 k1 M) n5 rows6n beside7 levels8n sum14 trace15 k16 rw0 l0 l1 l2 := rfl
theorem H_lawC14 (N : Nat) : ∀ (M : Nat) (n5 : Int) (rows6n : Nat) (beside7 : Nat) (levels8n : Nat) (sum14 : Nat) (trace15 : Nat) (k16 : Int) (rw0 : Bool) (l0 : List Int) (l1 : List Nat) (l2 : List Nat), lp_lawC14 N M (st_lawC14 n5 rows6n beside7 levels8n sum14 trace15 k16 rw0 l0 l1 l2) (kt_lawC14 N (kEnd Try.f3 1)) = mr_lawC14 N (ce_lawC14_0 N) (ce_lawC14_1 N) M n5 rows6n beside7 levels8n sum14 trace15 k16 rw0 l0 l1 l2 := by
  have he0 : ∀ (n5 : Int) (rows6n : Nat) (beside7 : Nat) (levels8n : Nat) (sum14 : Nat) (trace15 : Nat) (rw0 : Bool) (l0 : List Int) (l1 : List Nat) (l2 : List Nat), kt_lawC14 N (kEnd Try.f3 1) .ret (en_lawC14_0 n5 rows6n beside7 levels8n sum14 trace15 rw0 l0 l1 l2) = ce_lawC14_0 N n5 rows6n beside7 levels8n sum14 trace15 rw0 l0 l1 l2 := by
    intro n5 rows6n beside7 levels8n sum14 trace15 rw0 l0 l1 l2
    rw [end_lawC14_0]
    unfold ce_lawC14_0
    first | (simp only []; done) | (simp only []; kernel_rfl) | rfl
  have he1 : ∀ (n5 : Int) (rows6n : Nat) (beside7 : Nat) (levels8n : Nat) (sum14 : Nat) (trace15 : Nat) (rw0 : Bool) (l0 : List Int) (l1 : List Nat) (l2 : List Nat), kt_lawC14 N (kEnd Try.f3 1) (.exit 0) (en_lawC14_1 n5 rows6n beside7 levels8n sum14 trace15 rw0 l0 l1 l2) = ce_lawC14_1 N n5 rows6n beside7 levels8n sum14 trace15 rw0 l0 l1 l2 := by
    intro n5 rows6n beside7 levels8n sum14 trace15 rw0 l0 l1 l2
    rw [end_lawC14_1]
    unfold ce_lawC14_1
    first | (simp only [H_lawC33 N N]; done) | (simp only [H_lawC33 N N]; kernel_rfl) | rfl
  intro M
  induction M with
  | zero => intros; rfl
  | succ M ih =>
    intro n5 rows6n beside7 levels8n sum14 trace15 k16 rw0 l0 l1 l2
    rw [step_lawC14]
    rw [mrs_lawC14]
    unfold mb_lawC14
    first | (simp only [ih, he0, he1]; done) | (simp only [ih, he0, he1]; kernel_rfl) | rfl
noncomputable def md_lawC (N : Nat) (m : Nat) (r : Bool) (l : List Int) : Option (V × H) := (match longB 0 m with | true => some (.bool true, [.at r (.int .u8 l)]) | false => (match atOk m l 40 with | true => (match (d_rn (IntKind.i64.wrap (1 + (atF l 40 8)))).isSome with | true => (match atOk m l 41 with | true => (match (d_gl ((v_rn (IntKind.i64.wrap (1 + (atF l 40 8)))).1) (fop .quo .f32 (fneg .f32 (floatOfInt .f32 (IntKind.i64.wrap (1 + (atF l 41 8))))) 1082130432) (IntKind.i64.wrap (1 + (atF l 40 8))) 36 true ((v_rn (IntKind.i64.wrap (1 + (atF l 40 8)))).2)).isSome with | true => (match (d_CB ((v_rn (IntKind.i64.wrap (1 + (atF l 40 8)))).1) (fop .quo .f32 (fneg .f32 (floatOfInt .f32 (IntKind.i64.wrap (1 + (atF l 41 8))))) 1082130432) 3267887104 true ((v_rn (IntKind.i64.wrap (1 + (atF l 40 8)))).2)).isSome with | true => (match (d_CB ((v_rn (IntKind.i64.wrap (1 + (atF l 40 8)))).1) (fop .quo .f32 (fneg .f32 (floatOfInt .f32 (IntKind.i64.wrap (1 + (atF l 41 8))))) 1082130432) 1120403456 true ((v_rn (IntKind.i64.wrap (1 + (atF l 40 8)))).2)).isSome with | true => (match !((v_CB ((v_rn (IntKind.i64.wrap (1 + (atF l 40 8)))).1) (fop .quo .f32 (fneg .f32 (floatOfInt .f32 (IntKind.i64.wrap (1 + (atF l 41 8))))) 1082130432) 3267887104 true ((v_rn (IntKind.i64.wrap (1 + (atF l 40 8)))).2)).2) with | true => some (.bool false, [.at r (.int .u8 l)]) | false => (match !((v_CB ((v_rn (IntKind.i64.wrap (1 + (atF l 40 8)))).1) (fop .quo .f32 (fneg .f32 (floatOfInt .f32 (IntKind.i64.wrap (1 + (atF l 41 8))))) 1082130432) 1120403456 true ((v_rn (IntKind.i64.wrap (1 + (atF l 40 8)))).2)).2) with | true => some (.bool false, [.at r (.int .u8 l)]) | false => (match (((v_gl ((v_rn (IntKind.i64.wrap (1 + (atF l 40 8)))).1) (fop .quo .f32 (fneg .f32 (floatOfInt .f32 (IntKind.i64.wrap (1 + (atF l 41 8))))) 1082130432) (IntKind.i64.wrap (1 + (atF l 40 8))) 36 true ((v_rn (IntKind.i64.wrap (1 + (atF l 40 8)))).2)).1 : Nat) : Int) != (IntKind.i64.wrap (1 + (atF l 40 8))) with | true => some (.bool false, [.at r (.int .u8 l)]) | false => (match ((v_CB ((v_rn (IntKind.i64.wrap (1 + (atF l 40 8)))).1) (fop .quo .f32 (fneg .f32 (floatOfInt .f32 (IntKind.i64.wrap (1 + (atF l 41 8))))) 1082130432) 3267887104 true ((v_rn (IntKind.i64.wrap (1 + (atF l 40 8)))).2)).1) != 0 with | true => some (.bool false, [.at r (.int .u8 l)]) | false => (match ((v_CB ((v_rn (IntKind.i64.wrap (1 + (atF l 40 8)))).1) (fop .quo .f32 (fneg .f32 (floatOfInt .f32 (IntKind.i64.wrap (1 + (atF l 41 8))))) 1082130432) 1120403456 true ((v_rn (IntKind.i64.wrap (1 + (atF l 40 8)))).2)).1) != (IntKind.i64.wrap (1 + (atF l 40 8))) with | true => some (.bool false, [.at r (.int .u8 l)]) | false => (mr_lawC14 N (ce_lawC14_0 N) (ce_lawC14_1 N) N (IntKind.i64.wrap (1 + (atF l 40 8))) ((v_rn (IntKind.i64.wrap (1 + (atF l 40 8)))).1) (fop .quo .f32 (fneg .f32 (floatOfInt .f32 (IntKind.i64.wrap (1 + (atF l 41 8))))) 1082130432) ((v_gl ((v_rn (IntKind.i64.wrap (1 + (atF l 40 8)))).1) (fop .quo .f32 (fneg .f32 (floatOfInt .f32 (IntKind.i64.wrap (1 + (atF l 41 8))))) 1082130432) (IntKind.i64.wrap (1 + (atF l 40 8))) 36 true ((v_rn (IntKind.i64.wrap (1 + (atF l 40 8)))).2)).1) 0 0 0 r l ((v_rn (IntKind.i64.wrap (1 + (atF l 40 8)))).2) ((v_gl ((v_rn (IntKind.i64.wrap (1 + (atF l 40 8)))).1) (fop .quo .f32 (fneg .f32 (floatOfInt .f32 (IntKind.i64.wrap (1 + (atF l 41 8))))) 1082130432) (IntKind.i64.wrap (1 + (atF l 40 8))) 36 true ((v_rn (IntKind.i64.wrap (1 + (atF l 40 8)))).2)).2))))))) | false => none) | false => none) | false => none) | false => none) | false => none) | false => none))
theorem mdl_lawC (N : Nat) (m : Nat) (r : Bool) (l : List Int) : run ty tab_lawC an_lawC N Try.f3 [.nil, .sl 0 0 m] [.at r (.int .u8 l)] = md_lawC N m r l := by
  rw [run_lawC]
  unfold md_lawC
  first | (simp only [H_lawC14 N N]; done) | (simp only [H_lawC14 N N]; kernel_rfl) | rfl
end Go.Proofs.Ytpeplbbphpamhaa.Ab

namespace Go.Proofs.Ytpeplbbphpamhaa.Ab
set_option linter.unusedVariables false
set_option linter.unusedSimpArgs false
open Go
theorem w33_C {N : Nat} {k0 k1 : Bool → List Int → Option (V × H)} (rw0 : Bool) (l0 : List Int) {b n : Nat} {l l4 : List Nat} (hl : l.length = n) (h0 : 0 < n) (hn : n < 40) (H4 : HoldsL l4 n (stW b l)) (hr : ∀ i, i < n → gtD (r8G (restW b (levW b l 0) (fun i => l.getD i 0) (stW b l) n i) 0) 4576918229304087675 = false) :
    ∀ (t i M : Nat), i + t = n → t < M → mr_lawC33 N k0 k1 M ((n : Nat) : Int) n b n n ((i : Nat) : Int) rw0 l0 l (levs b l n) l4 = k1 rw0 l0
  | 0, i, M + 1, hi, hM => by
    rw [mrs_lawC33]
    unfold mb_lawC33
    try dsimp only
    rw [dn (show ¬ i < n by omega)]
  | t + 1, i, M + 1, hi, hM => by
    have hin : i < n := by omega
    have hrest := hr i hin
    have ih := w33_C (N := N) (k0 := k0) (k1 := k1) rw0 l0 hl h0 hn H4 hr t (i + 1) M (by omega) (by omega)
    have hv0 : (levs b l n)[0]? = some (levW b l 0) := by rw [at0 (levs_len b l n) h0, levs_get h0]
    have hU := H4.2 i hin
    have hwi := wi (show i < 1000 by omega)
    unfold restW at hrest
    rw [mrs_lawC33]
    unfold mb_lawC33
    by_cases hi0 : 0 < i
    · obtain ⟨j, rfl⟩ : ∃ j, i = j + 1 := ⟨i - 1, by omega⟩
      have hw1 : IntKind.i64.wrap (((j + 1 : Nat) : Int) - 1) = ((j : Nat) : Int) := by rw [wrap_z (by omega) (by omega)]; omega
      have hUj := H4.2 j (by omega)
      rw [if_pos hi0] at hrest
      simp only [dl hin, d01 hin, ixg hl hin, d00 h0, hv0, ixg H4.1 hin, decide_eq_true (show ((j + 1 : Nat) : Int) > 0 by omega), hw1, d01 (show j < n by omega), ixg H4.1 (show j < n by omega), hwi, hU, hUj]
      by_cases hi1 : j + 1 + 1 < n
      · rw [if_pos hi1] at hrest
        have hUk := H4.2 (j + 1 + 1) hi1
        simp only [dl hi1, d01 hi1, ixg H4.1 hi1, hUk]
        have hrest : gtD (r8G (fop .add .f32 (fop .add .f32 (fop .mul .f32 (fop .sub .f32 (l.getD (j + 1) 0) (levW b l 0)) (stW b l (j + 1))) (fop .mul .f32 b (stW b l j))) (fop .mul .f32 b (stW b l (j + 1 + 1)))) 0) 4576918229304087675 = false := hrest
        rw [hrest]
        exact ih
      · rw [if_neg hi1] at hrest
        simp only [dn hi1]
        have hrest : gtD (r8G (fop .add .f32 (fop .mul .f32 (fop .sub .f32 (l.getD (j + 1) 0) (levW b l 0)) (stW b l (j + 1))) (fop .mul .f32 b (stW b l j))) 0) 4576918229304087675 = false := hrest
        rw [hrest]
        exact ih
    · have e : i = 0 := by omega
      subst e
      rw [if_neg hi0] at hrest
      simp only [dl hin, d01 hin, ixg hl hin, d00 h0, hv0, ixg H4.1 hin, decide_eq_false (show ¬ ((0 : Nat) : Int) > 0 by omega), hwi, hU]
      by_cases hi1 : 0 + 1 < n
      · rw [if_pos hi1] at hrest
        have hUk := H4.2 (0 + 1) hi1
        simp only [dl hi1, d01 hi1, ixg H4.1 hi1, hUk]
        have hrest : gtD (r8G (fop .add .f32 (fop .mul .f32 (fop .sub .f32 (l.getD 0 0) (levW b l 0)) (stW b l 0)) (fop .mul .f32 b (stW b l (0 + 1)))) 0) 4576918229304087675 = false := hrest
        rw [hrest]
        exact ih
      · rw [if_neg hi1] at hrest
        simp only [dn hi1]
        have hrest : gtD (r8G (fop .mul .f32 (fop .sub .f32 (l.getD 0 0) (levW b l 0)) (stW b l 0)) 0) 4576918229304087675 = false := hrest
        rw [hrest]
        exact ih
theorem w14_C {N : Nat} {k0 k1 : Int → Nat → Nat → Nat → Nat → Nat → Bool → List Int → List Nat → List Nat → Option (V × H)} (rw0 : Bool) (l0 : List Int) {b n : Nat} {l : List Nat} (hl : l.length = n) (hn : n < 40) (hk : ∀ k, k < n → AtK b l n k) :
    ∀ (t k M : Nat), k + t = n → t < M → mr_lawC14 N k0 k1 M ((n : Nat) : Int) n b n (sum64 (fun i => levW b l i) k) (sum64 (fun i => l.getD i 0) k) ((k : Nat) : Int) rw0 l0 l (levs b l n) = k1 ((n : Nat) : Int) n b n (sum64 (fun i => levW b l i) n) (sum64 (fun i => l.getD i 0) n) rw0 l0 l (levs b l n)
  | 0, k, M + 1, hi, hM => by
    rw [mrs_lawC14]
    unfold mb_lawC14
    try dsimp only
    rw [dn (show ¬ k < n by omega), show k = n by omega]
  | t + 1, k, M + 1, hi, hM => by
    have hin : k < n := by omega
    have q := hk k hin
    have ih := w14_C (N := N) (k0 := k0) (k1 := k1) rw0 l0 hl hn hk t (k + 1) M (by omega) (by omega)
    have hv := levs_get (b := b) (l := l) hin
    have hlo := q.lo
    have hdn := q.dn
    have hup := q.up
    have hsame := q.same
    have hdk := q.dnk
    have huk := q.upk
    have hwi := wi (show k < 1000 by omega)
    rw [mrs_lawC14]
    unfold mb_lawC14 v_lo v_CB
    simp only [dl hin, hlo, d01 hin, ixg (levs_len b l n) hin, hv, hdn, hup, ixg hl hin, fconv_eq, Option.isSome_some, Option.getD_some, Bool.not_true, hsame, hwi, decide_eq_false (show ¬ ((cbF b (fop .sub .f32 (levW b l k) 1008981770) none l : Nat) : Int) > ((k : Nat) : Int) by omega), decide_eq_false (show ¬ ((cbF b (fop .add .f32 (levW b l k) 1008981770) none l : Nat) : Int) < ((k + 1 : Nat) : Int) by omega)]
    by_cases h0 : 0 < k
    · obtain ⟨j, rfl⟩ : ∃ j, k = j + 1 := ⟨k - 1, by omega⟩
      have hw1 : IntKind.i64.wrap (((j + 1 : Nat) : Int) - 1) = ((j : Nat) : Int) := by rw [wrap_z (by omega) (by omega)]; omega
      have hvj := levs_get (b := b) (l := l) (show j < n by omega)
      simp only [decide_eq_true (show ((j + 1 : Nat) : Int) > 0 by omega), hw1, d01 (show j < n by omega), ixg (levs_len b l n) (show j < n by omega), hvj, q.rise j rfl]
      exact ih
    · simp only [decide_eq_false (show ¬ ((k : Nat) : Int) > 0 by omega)]
      exact ih
theorem wfin_C (rw0 : Bool) (l0 : List Int) {b n : Nat} {l : List Nat} (hl : l.length = n) (h0 : 0 < n) (hn : n < 40) (w : Whole b l n) : ce_lawC14_1 50 ((n : Nat) : Int) n b n (sum64 (fun i => levW b l i) n) (sum64 (fun i => l.getD i 0) n) rw0 l0 l (levs b l n) = some (.bool true, [.at rw0 (.int .u8 l0)]) := by
  obtain ⟨c1, c2, s1, s2, s3⟩ := w.sums
  obtain ⟨l4, q1, q2, o, q3, q4⟩ := w.state
  have hv0 : (levs b l n)[0]? = some (levW b l 0) := by rw [at0 (levs_len b l n) h0, levs_get h0]
  unfold ce_lawC14_1 v_so v_ov
  simp only [s1, s2, s3, d00 h0, hv0, q2, Option.isSome_some, Option.getD_some, bne_self_eq_false, q3, q4, Bool.not_true]
  by_cases h1 : 1 < n
  · have hv1 : (levs b l n)[1]? = some (levW b l 1) := by
      have := ixg (levs_len b l n) h1
      rw [levs_get h1] at this
      exact this
    simp only [decide_eq_true (show ((n : Nat) : Int) > 1 by omega), decide_eq_true (show 0 ≤ (1 : Int) ∧ (1 : Int) < ((n : Nat) : Int) by omega), hv1]
    cases gtB (fop .sub .f32 (levW b l 1) (levW b l 0)) 1048576000 with
    | false => rfl
    | true => exact w33_C (N := 50) (k0 := ce_lawC33_0 50) (k1 := ce_lawC33_1 50) rw0 l0 hl h0 hn q1 w.rest n 0 50 (by omega) (by omega)
  · simp only [decide_eq_false (show ¬ ((n : Nat) : Int) > 1 by omega)]
theorem H_lawC (m : Nat) (r : Bool) (l : List Int) (hm : l.length = m ∧ m < 2147483648) (hb : bytesB l = true) : run ty tab_lawC an_lawC 50 Try.f3 [.nil, .sl 0 0 m] [.at r (.int .u8 l)] = some (.bool true, [.at r (.int .u8 l)]) := by
  rw [mdl_lawC]
  unfold md_lawC
  cases longB 0 m
  case true => rfl
  have a40 : atOk m l 40 = true := decide_eq_true ⟨hm.1, hm.2, by decide, by decide⟩
  have a41 : atOk m l 41 = true := decide_eq_true ⟨hm.1, hm.2, by decide, by decide⟩
  obtain ⟨k, k1, k8, hk⟩ := drawn_n hb
  obtain ⟨j, j8, hj⟩ := drawn_b hb
  obtain ⟨rows, ar, d1, d2, d3⟩ := rn_ok k8
  have pre := pre_of j8 d1 d2 k1 k8
  have w := whole pre d2
  have hat := fun i hi => at_k pre d2 (k := i) hi
  have hgl := w.gl
  have hno := w.no
  have hall := w.all
  unfold v_rn v_gl v_CB
  simp only [hk, hj, a40, a41, d3, Option.isSome_some, Option.getD_some, hgl, hno, hall, Bool.not_true, bne_self_eq_false]
  have h14 := w14_C (N := 50) (k0 := ce_lawC14_0 50) (k1 := ce_lawC14_1 50) r l d2 (by omega) hat k 0 50 (by omega) (by omega)
  exact Eq.trans h14 (wfin_C r l d2 (by omega) (by omega) w)
end Go.Proofs.Ytpeplbbphpamhaa.Ab

namespace Go.Proofs.Ytpeplbbphpamhaa.Ab
set_option linter.unusedVariables false
set_option linter.unusedSimpArgs false
open Go
def an_lawD : Ann := ⟨fun r => if r = 14 then some ([5, 6, 7, 8, 14, 15, 16], [4, 5, 6, 7, 8, 14, 15]) else if r = 33 then some ([5, 6, 7, 8, 23, 27], [4]) else none, fun _ _ => .quiet⟩
noncomputable def tab_lawD : Fns := tabT [(4, gLong), (5, gAt), (6, g_R8), (7, g_gl), (8, g_CB), (9, g_lo), (10, gT gG8), (11, g_so), (12, g_ov)]
theorem tabok_lawD : ∀ f, FnT Try.prog f (tab_lawD f) := (tabT_cons (k := 4) ok_Long (tabT_cons (k := 5) ok_At (tabT_cons (k := 6) ok_R8 (tabT_cons (k := 7) ok_gl (tabT_cons (k := 8) ok_CB (tabT_cons (k := 9) ok_lo (tabT_cons (k := 10) ok_r8g (tabT_cons (k := 11) ok_so (tabT_cons (k := 12) ok_ov tabT_nil)))))))))
def st_lawD14 (n5 : Int) (rows6n : Nat) (beside7 : Nat) (levels8n : Nat) (sum14 : Nat) (trace15 : Nat) (k16 : Int) (l0 : List Nat) (l1 : List Nat) : St := ⟨(.any :: .any :: .any :: .any :: .any :: .int .i64 n5 :: .sl 0 0 rows6n :: .fl .f32 beside7 :: .sl 1 0 levels8n :: .any :: .any :: .any :: .any :: .any :: .fl .f64 sum14 :: .fl .f64 trace15 :: .int .i64 k16 :: (anys 257 [])), [.at true (.fl .f32 l0), .at true (.fl .f32 l1)]⟩
abbrev kp_lawD14 : Option (List Nat × List Nat) := some ([5, 6, 7, 8, 14, 15, 16], [4, 5, 6, 7, 8, 14, 15])
noncomputable def lp_lawD14 {R : Type} (N M : Nat) (s : St) (K : X → St → Option R) : Option R := loopH 0 kp_lawD14 (fun st K => exec ty tab_lawD an_lawD N 0 (atOf [true, true, true, true, true, true, true, true, true, true, true, false, true, false, false] Try.f3) st K) M s K
noncomputable def kt_lawD14 {R : Type} (N : Nat) (K : X → St → Option R) : X → St → Option R := kBlkR 0 (kSeqR tab_lawD an_lawD N 0 (atOf [true, true, true, true, true, true, true, true, true, true, true, true] Try.f3) (K))
def st_lawD33 (n5 : Int) (rows6n : Nat) (beside7 : Nat) (levels8n : Nat) (state23n : Nat) (i27 : Int) (l0 : List Nat) (l1 : List Nat) (l2 : List Nat) : St := ⟨(.any :: .any :: .any :: .any :: .any :: .int .i64 n5 :: .sl 0 0 rows6n :: .fl .f32 beside7 :: .sl 1 0 levels8n :: (anys 14 (.sl 2 0 state23n :: .any :: .any :: .any :: .int .i64 i27 :: (anys 246 [])))), [.at true (.fl .f32 l0), .at true (.fl .f32 l1), .at true (.fl .f32 l2)]⟩
abbrev kp_lawD33 : Option (List Nat × List Nat) := some ([5, 6, 7, 8, 23, 27], [4])
noncomputable def lp_lawD33 {R : Type} (N M : Nat) (s : St) (K : X → St → Option R) : Option R := loopH 0 kp_lawD33 (fun st K => exec ty tab_lawD an_lawD N 0 (atOf [true, true, true, true, true, true, true, true, true, true, true, true, true, true, true, true, true, false, true, false, true, false, false] Try.f3) st K) M s K
noncomputable def kt_lawD33 {R : Type} (N : Nat) (K : X → St → Option R) : X → St → Option R := kBlkR 2 (kSeqR tab_lawD an_lawD N 0 (atOf [true, true, true, true, true, true, true, true, true, true, true, true, true, true, true, true, true, true] Try.f3) (K))
def en_lawD14_0 (n5 : Int) (rows6n : Nat) (beside7 : Nat) (levels8n : Nat) (sum14 : Nat) (trace15 : Nat) (l0 : List Nat) (l1 : List Nat) : St := ⟨(.any :: .any :: .any :: .any :: .bool false :: .int .i64 n5 :: .sl 0 0 rows6n :: .fl .f32 beside7 :: .sl 1 0 levels8n :: .any :: .any :: .any :: .any :: .any :: .fl .f64 sum14 :: .fl .f64 trace15 :: (anys 258 [])), [.at true (.fl .f32 l0), .at true (.fl .f32 l1)]⟩
def en_lawD14_1 (n5 : Int) (rows6n : Nat) (beside7 : Nat) (levels8n : Nat) (sum14 : Nat) (trace15 : Nat) (l0 : List Nat) (l1 : List Nat) : St := ⟨(.any :: .any :: .any :: .any :: .any :: .int .i64 n5 :: .sl 0 0 rows6n :: .fl .f32 beside7 :: .sl 1 0 levels8n :: .any :: .any :: .any :: .any :: .any :: .fl .f64 sum14 :: .fl .f64 trace15 :: (anys 258 [])), [.at true (.fl .f32 l0), .at true (.fl .f32 l1)]⟩
def en_lawD33_0  : St := ⟨(.any :: .any :: .any :: .any :: .bool false :: (anys 269 [])), []⟩
def en_lawD33_1  : St := ⟨(anys 274 []), []⟩
theorem run_lawD (N : Nat)  : run ty tab_lawD an_lawD N Try.f3 [.nil, .nil] []
    = (match longB 0 0 with | true => some (.bool true, []) | false => (match atOk 0 [] 40 with | true => (match (d_rn (IntKind.i64.wrap (1 + (atF [] 40 8)))).isSome with | true => (match atOk 0 [] 41 with | true => (match (d_gl ((v_rn (IntKind.i64.wrap (1 + (atF [] 40 8)))).1) (fop .quo .f32 (fneg .f32 (floatOfInt .f32 (IntKind.i64.wrap (1 + (atF [] 41 8))))) 1082130432) (IntKind.i64.wrap (1 + (atF [] 40 8))) 36 true ((v_rn (IntKind.i64.wrap (1 + (atF [] 40 8)))).2)).isSome with | true => (match (d_CB ((v_rn (IntKind.i64.wrap (1 + (atF [] 40 8)))).1) (fop .quo .f32 (fneg .f32 (floatOfInt .f32 (IntKind.i64.wrap (1 + (atF [] 41 8))))) 1082130432) 3267887104 true ((v_rn (IntKind.i64.wrap (1 + (atF [] 40 8)))).2)).isSome with | true => (match (d_CB ((v_rn (IntKind.i64.wrap (1 + (atF [] 40 8)))).1) (fop .quo .f32 (fneg .f32 (floatOfInt .f32 (IntKind.i64.wrap (1 + (atF [] 41 8))))) 1082130432) 1120403456 true ((v_rn (IntKind.i64.wrap (1 + (atF [] 40 8)))).2)).isSome with | true => (match !((v_CB ((v_rn (IntKind.i64.wrap (1 + (atF [] 40 8)))).1) (fop .quo .f32 (fneg .f32 (floatOfInt .f32 (IntKind.i64.wrap (1 + (atF [] 41 8))))) 1082130432) 3267887104 true ((v_rn (IntKind.i64.wrap (1 + (atF [] 40 8)))).2)).2) with | true => some (.bool false, []) | false => (match !((v_CB ((v_rn (IntKind.i64.wrap (1 + (atF [] 40 8)))).1) (fop .quo .f32 (fneg .f32 (floatOfInt .f32 (IntKind.i64.wrap (1 + (atF [] 41 8))))) 1082130432) 1120403456 true ((v_rn (IntKind.i64.wrap (1 + (atF [] 40 8)))).2)).2) with | true => some (.bool false, []) | false => (match (((v_gl ((v_rn (IntKind.i64.wrap (1 + (atF [] 40 8)))).1) (fop .quo .f32 (fneg .f32 (floatOfInt .f32 (IntKind.i64.wrap (1 + (atF [] 41 8))))) 1082130432) (IntKind.i64.wrap (1 + (atF [] 40 8))) 36 true ((v_rn (IntKind.i64.wrap (1 + (atF [] 40 8)))).2)).1 : Nat) : Int) != (IntKind.i64.wrap (1 + (atF [] 40 8))) with | true => some (.bool false, []) | false => (match ((v_CB ((v_rn (IntKind.i64.wrap (1 + (atF [] 40 8)))).1) (fop .quo .f32 (fneg .f32 (floatOfInt .f32 (IntKind.i64.wrap (1 + (atF [] 41 8))))) 1082130432) 3267887104 true ((v_rn (IntKind.i64.wrap (1 + (atF [] 40 8)))).2)).1) != 0 with | true => some (.bool false, []) | false => (match ((v_CB ((v_rn (IntKind.i64.wrap (1 + (atF [] 40 8)))).1) (fop .quo .f32 (fneg .f32 (floatOfInt .f32 (IntKind.i64.wrap (1 + (atF [] 41 8))))) 1082130432) 1120403456 true ((v_rn (IntKind.i64.wrap (1 + (atF [] 40 8)))).2)).1) != (IntKind.i64.wrap (1 + (atF [] 40 8))) with | true => some (.bool false, []) | false => lp_lawD14 N N (st_lawD14 (IntKind.i64.wrap (1 + (atF [] 40 8))) ((v_rn (IntKind.i64.wrap (1 + (atF [] 40 8)))).1) (fop .quo .f32 (fneg .f32 (floatOfInt .f32 (IntKind.i64.wrap (1 + (atF [] 41 8))))) 1082130432) ((v_gl ((v_rn (IntKind.i64.wrap (1 + (atF [] 40 8)))).1) (fop .quo .f32 (fneg .f32 (floatOfInt .f32 (IntKind.i64.wrap (1 + (atF [] 41 8))))) 1082130432) (IntKind.i64.wrap (1 + (atF [] 40 8))) 36 true ((v_rn (IntKind.i64.wrap (1 + (atF [] 40 8)))).2)).1) 0 0 0 ((v_rn (IntKind.i64.wrap (1 + (atF [] 40 8)))).2) ((v_gl ((v_rn (IntKind.i64.wrap (1 + (atF [] 40 8)))).1) (fop .quo .f32 (fneg .f32 (floatOfInt .f32 (IntKind.i64.wrap (1 + (atF [] 41 8))))) 1082130432) (IntKind.i64.wrap (1 + (atF [] 40 8))) 36 true ((v_rn (IntKind.i64.wrap (1 + (atF [] 40 8)))).2)).2)) (kt_lawD14 N (kEnd Try.f3 0))))))) | false => none) | false => none) | false => none) | false => none) | false => none) | false => none)) := by
  kernel_rfl
theorem step_lawD14 {R : Type} (N M : Nat) (K : X → St → Option R) (n5 : Int) (rows6n : Nat) (beside7 : Nat) (levels8n : Nat) (sum14 : Nat) (trace15 : Nat) (k16 : Int) (l0 : List Nat) (l1 : List Nat) : lp_lawD14 N (M + 1) (st_lawD14 n5 rows6n beside7 levels8n sum14 trace15 k16 l0 l1) K
    = (match decide ((k16 : Int) < n5) with | true => (match (d_lo rows6n beside7 k16 36 true l0).isSome with | true => (match decide (0 ≤ (k16 : Int) ∧ (k16 : Int) < ((levels8n : Nat) : Int)) with | true => (match l1[0 + (k16).toNat * 1]? with | some e1 => (match (d_CB rows6n beside7 (fop .sub .f32 e1 1008981770) true l0).isSome with | true => (match decide (0 ≤ (k16 : Int) ∧ (k16 : Int) < ((levels8n : Nat) : Int)) with | true => (match l1[0 + (k16).toNat * 1]? with | some e2 => (match (d_CB rows6n beside7 (fop .add .f32 e2 1008981770) true l0).isSome with | true => (match decide (0 ≤ (k16 : Int) ∧ (k16 : Int) < ((levels8n : Nat) : Int)) with | true => (match l1[0 + (k16).toNat * 1]? with | some e3 => (match fconv .f32 e3 .f64 with | some c4 => (match decide (0 ≤ (k16 : Int) ∧ (k16 : Int) < ((rows6n : Nat) : Int)) with | true => (match l0[0 + (k16).toNat * 1]? with | some e5 => (match fconv .f32 e5 .f64 with | some c6 => (match !((v_lo rows6n beside7 k16 36 true l0).2) with | true => K .ret (en_lawD14_0 n5 rows6n beside7 levels8n (fop .add .f64 sum14 c4) (fop .add .f64 trace15 c6) l0 l1) | false => (match !((v_CB rows6n beside7 (fop .sub .f32 e1 1008981770) true l0).2) with | true => K .ret (en_lawD14_0 n5 rows6n beside7 levels8n (fop .add .f64 sum14 c4) (fop .add .f64 trace15 c6) l0 l1) | false => (match !((v_CB rows6n beside7 (fop .add .f32 e2 1008981770) true l0).2) with | true => K .ret (en_lawD14_0 n5 rows6n beside7 levels8n (fop .add .f64 sum14 c4) (fop .add .f64 trace15 c6) l0 l1) | false => (match decide (0 ≤ (k16 : Int) ∧ (k16 : Int) < ((levels8n : Nat) : Int)) with | true => (match l1[0 + (k16).toNat * 1]? with | some e7 => (match FloatKind.f32.format.order ((v_lo rows6n beside7 k16 36 true l0).1) e7 != some .eq with | true => K .ret (en_lawD14_0 n5 rows6n beside7 levels8n (fop .add .f64 sum14 c4) (fop .add .f64 trace15 c6) l0 l1) | false => (match decide ((k16 : Int) > 0) with | true => (match decide (0 ≤ (k16 : Int) ∧ (k16 : Int) < ((levels8n : Nat) : Int)) with | true => (match l1[0 + (k16).toNat * 1]? with | some e8 => (match decide (0 ≤ (IntKind.i64.wrap (k16 - 1) : Int) ∧ (IntKind.i64.wrap (k16 - 1) : Int) < ((levels8n : Nat) : Int)) with | true => (match l1[0 + (IntKind.i64.wrap (k16 - 1)).toNat * 1]? with | some e9 => (match ltB e8 e9 with | true => K .ret (en_lawD14_0 n5 rows6n beside7 levels8n (fop .add .f64 sum14 c4) (fop .add .f64 trace15 c6) l0 l1) | false => (match decide (((v_CB rows6n beside7 (fop .sub .f32 e1 1008981770) true l0).1 : Int) > k16) with | true => K .ret (en_lawD14_0 n5 rows6n beside7 levels8n (fop .add .f64 sum14 c4) (fop .add .f64 trace15 c6) l0 l1) | false => (match decide (((v_CB rows6n beside7 (fop .add .f32 e2 1008981770) true l0).1 : Int) < (IntKind.i64.wrap (k16 + 1))) with | true => K .ret (en_lawD14_0 n5 rows6n beside7 levels8n (fop .add .f64 sum14 c4) (fop .add .f64 trace15 c6) l0 l1) | false => lp_lawD14 N M (st_lawD14 n5 rows6n beside7 levels8n (fop .add .f64 sum14 c4) (fop .add .f64 trace15 c6) (IntKind.i64.wrap (k16 + 1)) l0 l1) K))) | none => none) | false => none) | none => none) | false => none) | false => (match decide (((v_CB rows6n beside7 (fop .sub .f32 e1 1008981770) true l0).1 : Int) > k16) with | true => K .ret (en_lawD14_0 n5 rows6n beside7 levels8n (fop .add .f64 sum14 c4) (fop .add .f64 trace15 c6) l0 l1) | false => (match decide (((v_CB rows6n beside7 (fop .add .f32 e2 1008981770) true l0).1 : Int) < (IntKind.i64.wrap (k16 + 1))) with | true => K .ret (en_lawD14_0 n5 rows6n beside7 levels8n (fop .add .f64 sum14 c4) (fop .add .f64 trace15 c6) l0 l1) | false => lp_lawD14 N M (st_lawD14 n5 rows6n beside7 levels8n (fop .add .f64 sum14 c4) (fop .add .f64 trace15 c6) (IntKind.i64.wrap (k16 + 1)) l0 l1) K)))) | none => none) | false => none)))) | none => none) | none => none) | false => none) | none => none) | none => none) | false => none) | false => none) | none => none) | false => none) | false => none) | none => none) | false => none) | false => none) | false => K (.exit 0) (en_lawD14_1 n5 rows6n beside7 levels8n sum14 trace15 l0 l1)) := by
  kernel_rfl
theorem step_lawD33 {R : Type} (N M : Nat) (K : X → St → Option R) (n5 : Int) (rows6n : Nat) (beside7 : Nat) (levels8n : Nat) (state23n : Nat) (i27 : Int) (l0 : List Nat) (l1 : List Nat) (l2 : List Nat) : lp_lawD33 N (M + 1) (st_lawD33 n5 rows6n beside7 levels8n state23n i27 l0 l1 l2) K
    = (match decide ((i27 : Int) < n5) with | true => (match decide (0 ≤ (i27 : Int) ∧ (i27 : Int) < ((rows6n : Nat) : Int)) with | true => (match l0[0 + (i27).toNat * 1]? with | some e1 => (match decide (0 ≤ (0 : Int) ∧ (0 : Int) < ((levels8n : Nat) : Int)) with | true => (match l1[0]? with | some e2 => (match decide (0 ≤ (i27 : Int) ∧ (i27 : Int) < ((state23n : Nat) : Int)) with | true => (match l2[0 + (i27).toNat * 1]? with | some e3 => (match decide ((i27 : Int) > 0) with | true => (match decide (0 ≤ (IntKind.i64.wrap (i27 - 1) : Int) ∧ (IntKind.i64.wrap (i27 - 1) : Int) < ((state23n : Nat) : Int)) with | true => (match l2[0 + (IntKind.i64.wrap (i27 - 1)).toNat * 1]? with | some e4 => (match decide ((IntKind.i64.wrap (i27 + 1) : Int) < n5) with | true => (match decide (0 ≤ (IntKind.i64.wrap (i27 + 1) : Int) ∧ (IntKind.i64.wrap (i27 + 1) : Int) < ((state23n : Nat) : Int)) with | true => (match l2[0 + (IntKind.i64.wrap (i27 + 1)).toNat * 1]? with | some e5 => (match gtD (r8G (fop .add .f32 (fop .add .f32 (fop .mul .f32 (fop .sub .f32 e1 e2) e3) (fop .mul .f32 beside7 e4)) (fop .mul .f32 beside7 e5)) 0) 4576918229304087675 with | true => K .ret (en_lawD33_0) | false => lp_lawD33 N M (st_lawD33 n5 rows6n beside7 levels8n state23n (IntKind.i64.wrap (i27 + 1)) l0 l1 l2) K) | none => none) | false => none) | false => (match gtD (r8G (fop .add .f32 (fop .mul .f32 (fop .sub .f32 e1 e2) e3) (fop .mul .f32 beside7 e4)) 0) 4576918229304087675 with | true => K .ret (en_lawD33_0) | false => lp_lawD33 N M (st_lawD33 n5 rows6n beside7 levels8n state23n (IntKind.i64.wrap (i27 + 1)) l0 l1 l2) K)) | none => none) | false => none) | false => (match decide ((IntKind.i64.wrap (i27 + 1) : Int) < n5) with | true => (match decide (0 ≤ (IntKind.i64.wrap (i27 + 1) : Int) ∧ (IntKind.i64.wrap (i27 + 1) : Int) < ((state23n : Nat) : Int)) with | true => (match l2[0 + (IntKind.i64.wrap (i27 + 1)).toNat * 1]? with | some e6 => (match gtD (r8G (fop .add .f32 (fop .mul .f32 (fop .sub .f32 e1 e2) e3) (fop .mul .f32 beside7 e6)) 0) 4576918229304087675 with | true => K .ret (en_lawD33_0) | false => lp_lawD33 N M (st_lawD33 n5 rows6n beside7 levels8n state23n (IntKind.i64.wrap (i27 + 1)) l0 l1 l2) K) | none => none) | false => none) | false => (match gtD (r8G (fop .mul .f32 (fop .sub .f32 e1 e2) e3) 0) 4576918229304087675 with | true => K .ret (en_lawD33_0) | false => lp_lawD33 N M (st_lawD33 n5 rows6n beside7 levels8n state23n (IntKind.i64.wrap (i27 + 1)) l0 l1 l2) K))) | none => none) | false => none) | none => none) | false => none) | none => none) | false => none) | false => K (.exit 2) (en_lawD33_1)) := by
  kernel_rfl
theorem end_lawD14_0 (N : Nat) (n5 : Int) (rows6n : Nat) (beside7 : Nat) (levels8n : Nat) (sum14 : Nat) (trace15 : Nat) (l0 : List Nat) (l1 : List Nat) : kt_lawD14 N (kEnd Try.f3 0) .ret (en_lawD14_0 n5 rows6n beside7 levels8n sum14 trace15 l0 l1)
    = some (.bool false, []) := by
  kernel_rfl
theorem end_lawD14_1 (N : Nat) (n5 : Int) (rows6n : Nat) (beside7 : Nat) (levels8n : Nat) (sum14 : Nat) (trace15 : Nat) (l0 : List Nat) (l1 : List Nat) : kt_lawD14 N (kEnd Try.f3 0) (.exit 0) (en_lawD14_1 n5 rows6n beside7 levels8n sum14 trace15 l0 l1)
    = (match fconv .f64 sum14 .f32 with | some c1 => (match fconv .f64 trace15 .f32 with | some c2 => (match gtD (r8G c1 c2) 4576918229304087675 with | true => some (.bool false, []) | false => (match decide (0 ≤ (0 : Int) ∧ (0 : Int) < ((levels8n : Nat) : Int)) with | true => (match l1[0]? with | some e3 => (match (d_so rows6n beside7 e3 4 l0).isSome with | true => (match (((v_so rows6n beside7 e3 4 l0).1 : Nat) : Int) != n5 with | true => some (.bool false, []) | false => (match (d_ov ((v_so rows6n beside7 e3 4 l0).1) ((v_so rows6n beside7 e3 4 l0).1) true ((v_so rows6n beside7 e3 4 l0).2)).isSome with | true => (match !((v_ov ((v_so rows6n beside7 e3 4 l0).1) ((v_so rows6n beside7 e3 4 l0).1) true ((v_so rows6n beside7 e3 4 l0).2)).2) with | true => some (.bool false, []) | false => (match gtD (r8G ((v_ov ((v_so rows6n beside7 e3 4 l0).1) ((v_so rows6n beside7 e3 4 l0).1) true ((v_so rows6n beside7 e3 4 l0).2)).1) 1065353216) 4562254508917369340 with | true => some (.bool false, []) | false => (match decide ((n5 : Int) > 1) with | true => (match decide (0 ≤ (1 : Int) ∧ (1 : Int) < ((levels8n : Nat) : Int)) with | true => (match l1[1]? with | some e4 => (match decide (0 ≤ (0 : Int) ∧ (0 : Int) < ((levels8n : Nat) : Int)) with | true => (match l1[0]? with | some e5 => (match gtB (fop .sub .f32 e4 e5) 1048576000 with | true => lp_lawD33 N N (st_lawD33 n5 rows6n beside7 levels8n ((v_so rows6n beside7 e3 4 l0).1) 0 l0 l1 ((v_so rows6n beside7 e3 4 l0).2)) (kt_lawD33 N (kEnd Try.f3 0)) | false => some (.bool true, [])) | none => none) | false => none) | none => none) | false => none) | false => some (.bool true, [])))) | false => none)) | false => none) | none => none) | false => none)) | none => none) | none => none) := by
  kernel_rfl
theorem end_lawD33_0 (N : Nat)  : kt_lawD33 N (kEnd Try.f3 0) .ret (en_lawD33_0)
    = some (.bool false, []) := by
  kernel_rfl
theorem end_lawD33_1 (N : Nat)  : kt_lawD33 N (kEnd Try.f3 0) (.exit 2) (en_lawD33_1)
    = some (.bool true, []) := by
  kernel_rfl
noncomputable def ce_lawD33_0 (N : Nat)  : Option (V × H) := some (.bool false, [])
noncomputable def ce_lawD33_1 (N : Nat)  : Option (V × H) := some (.bool true, [])
noncomputable def mb_lawD33 (N : Nat) (k0 : Option (V × H)) (k1 : Option (V × H)) (rq : Int → Nat → Nat → Nat → Nat → Int → List Nat → List Nat → List Nat → Option (V × H)) : Int → Nat → Nat → Nat → Nat → Int → List Nat → List Nat → List Nat → Option (V × H) := fun (n5 : Int) (rows6n : Nat) (beside7 : Nat) (levels8n : Nat) (state23n : Nat) (i27 : Int) (l0 : List Nat) (l1 : List Nat) (l2 : List Nat) => (match decide ((i27 : Int) < n5) with | true => (match decide (0 ≤ (i27 : Int) ∧ (i27 : Int) < ((rows6n : Nat) : Int)) with | true => (match l0[0 + (i27).toNat * 1]? with | some e1 => (match decide (0 ≤ (0 : Int) ∧ (0 : Int) < ((levels8n : Nat) : Int)) with | true => (match l1[0]? with | some e2 => (match decide (0 ≤ (i27 : Int) ∧ (i27 : Int) < ((state23n : Nat) : Int)) with | true => (match l2[0 + (i27).toNat * 1]? with | some e3 => (match decide ((i27 : Int) > 0) with | true => (match decide (0 ≤ (IntKind.i64.wrap (i27 - 1) : Int) ∧ (IntKind.i64.wrap (i27 - 1) : Int) < ((state23n : Nat) : Int)) with | true => (match l2[0 + (IntKind.i64.wrap (i27 - 1)).toNat * 1]? with | some e4 => (match decide ((IntKind.i64.wrap (i27 + 1) : Int) < n5) with | true => (match decide (0 ≤ (IntKind.i64.wrap (i27 + 1) : Int) ∧ (IntKind.i64.wrap (i27 + 1) : Int) < ((state23n : Nat) : Int)) with | true => (match l2[0 + (IntKind.i64.wrap (i27 + 1)).toNat * 1]? with | some e5 => (match gtD (r8G (fop .add .f32 (fop .add .f32 (fop .mul .f32 (fop .sub .f32 e1 e2) e3) (fop .mul .f32 beside7 e4)) (fop .mul .f32 beside7 e5)) 0) 4576918229304087675 with | true => (k0 ) | false => (rq n5 rows6n beside7 levels8n state23n (IntKind.i64.wrap (i27 + 1)) l0 l1 l2)) | none => none) | false => none) | false => (match gtD (r8G (fop .add .f32 (fop .mul .f32 (fop .sub .f32 e1 e2) e3) (fop .mul .f32 beside7 e4)) 0) 4576918229304087675 with | true => (k0 ) | false => (rq n5 rows6n beside7 levels8n state23n (IntKind.i64.wrap (i27 + 1)) l0 l1 l2))) | none => none) | false => none) | false => (match decide ((IntKind.i64.wrap (i27 + 1) : Int) < n5) with | true => (match decide (0 ≤ (IntKind.i64.wrap (i27 + 1) : Int) ∧ (IntKind.i64.wrap (i27 + 1) : Int) < ((state23n : Nat) : Int)) with | true => (match l2[0 + (IntKind.i64.wrap (i27 + 1)).toNat * 1]? with | some e6 => (match gtD (r8G (fop .add .f32 (fop .mul .f32 (fop .sub .f32 e1 e2) e3) (fop .mul .f32 beside7 e6)) 0) 4576918229304087675 with | true => (k0 ) | false => (rq n5 rows6n beside7 levels8n state23n (IntKind.i64.wrap (i27 + 1)) l0 l1 l2)) | none => none) | false => none) | false => (match gtD (r8G (fop .mul .f32 (fop .sub .f32 e1 e2) e3) 0) 4576918229304087675 with | true => (k0 ) | false => (rq n5 rows6n beside7 levels8n state23n (IntKind.i64.wrap (i27 + 1)) l0 l1 l2)))) | none => none) | false => none) | none => none) | false => none) | none => none) | false => none) | false => (k1 ))
noncomputable def mr_lawD33 (N : Nat) (k0 : Option (V × H)) (k1 : Option (V × H)) (M : Nat) : Int → Nat → Nat → Nat → Nat → Int → List Nat → List Nat → List Nat → Option (V × H) := Nat.rec (motive := fun _ => Int → Nat → Nat → Nat → Nat → Int → List Nat → List Nat → List Nat → Option (V × H)) (fun (_ : Int) (_ : Nat) (_ : Nat) (_ : Nat) (_ : Nat) (_ : Int) (_ : List Nat) (_ : List Nat) (_ : List Nat) => none) (fun _ rq => mb_lawD33 N k0 k1 rq) M
theorem mrs_lawD33 (N : Nat) (k0 : Option (V × H)) (k1 : Option (V × H)) (M : Nat) (n5 : Int) (rows6n : Nat) (beside7 : Nat) (levels8n : Nat) (state23n : Nat) (i27 : Int) (l0 : List Nat) (l1 : List Nat) (l2 : List Nat) : mr_lawD33 N k0 k1 (M + 1) n5 rows6n beside7 levels8n state23n i27 l0 l1 l2 = mb_lawD33 N k0 k1 (mr_lawD33 N k0 k1 M) n5 rows6n beside7 levels8n state23n i27 l0 l1 l2 := rfl
theorem H_lawD33 (N : Nat) : ∀ (M : Nat) (n5 : Int) (rows6n : Nat) (beside7 : Nat) (levels8n : Nat) (state23n : Nat) (i27 : Int) (l0 : List Nat) (l1 : List Nat) (l2 : List Nat), lp_lawD33 N M (st_lawD33 n5 rows6n beside7 levels8n state23n i27 l0 l1 l2) (kt_lawD33 N (kEnd Try.f3 0)) = mr_lawD33 N (ce_lawD33_0 N) (ce_lawD33_1 N) M n5 rows6n beside7 levels8n state23n i27 l0 l1 l2 := by
  have he0 : kt_lawD33 N (kEnd Try.f3 0) .ret (en_lawD33_0) = ce_lawD33_0 N  := by
    skip
    rw [end_lawD33_0]
    unfold ce_lawD33_0
    first | (simp only []; done) | (simp only []; kernel_rfl) | rfl
  have he1 : kt_lawD33 N (kEnd Try.f3 0) (.exit 2) (en_lawD33_1) = ce_lawD33_1 N  := by
    skip
    rw [end_lawD33_1]
    unfold ce_lawD33_1
    first | (simp only []; done) | (simp only []; kernel_rfl) | rfl
  intro M
  induction M with
  | zero => intros; rfl
  | succ M ih =>
    intro n5 rows6n beside7 levels8n state23n i27 l0 l1 l2
    rw [step_lawD33]
    rw [mrs_lawD33]
    unfold mb_lawD33
    first | (simp only [ih, he0, he1]; done) | (simp only [ih, he0, he1]; kernel_rfl) | rfl
noncomputable def ce_lawD14_0 (N : Nat) (n5 : Int) (rows6n : Nat) (beside7 : Nat) (levels8n : Nat) (sum14 : Nat) (trace15 : Nat) (l0 : List Nat) (l1 : List Nat) : Option (V × H) := some (.bool false, [])
noncomputable def ce_lawD14_1 (N : Nat) (n5 : Int) (rows6n : Nat) (beside7 : Nat) (levels8n : Nat) (sum14 : Nat) (trace15 : Nat) (l0 : List Nat) (l1 : List Nat) : Option (V × H) := (match fconv .f64 sum14 .f32 with | some c1 => (match fconv .f64 trace15 .f32 with | some c2 => (match gtD (r8G c1 c2) 4576918229304087675 with | true => some (.bool false, []) | false => (match decide (0 ≤ (0 : Int) ∧ (0 : Int) < ((levels8n : Nat) : Int)) with | true => (match l1[0]? with | some e3 => (match (d_so rows6n beside7 e3 4 l0).isSome with | true => (match (((v_so rows6n beside7 e3 4 l0).1 : Nat) : Int) != n5 with | true => some (.bool false, []) | false => (match (d_ov ((v_so rows6n beside7 e3 4 l0).1) ((v_so rows6n beside7 e3 4 l0).1) true ((v_so rows6n beside7 e3 4 l0).2)).isSome with | true => (match !((v_ov ((v_so rows6n beside7 e3 4 l0).1) ((v_so rows6n beside7 e3 4 l0).1) true ((v_so rows6n beside7 e3 4 l0).2)).2) with | true => some (.bool false, []) | false => (match gtD (r8G ((v_ov ((v_so rows6n beside7 e3 4 l0).1) ((v_so rows6n beside7 e3 4 l0).1) true ((v_so rows6n beside7 e3 4 l0).2)).1) 1065353216) 4562254508917369340 with | true => some (.bool false, []) | false => (match decide ((n5 : Int) > 1) with | true => (match decide (0 ≤ (1 : Int) ∧ (1 : Int) < ((levels8n : Nat) : Int)) with | true => (match l1[1]? with | some e4 => (match decide (0 ≤ (0 : Int) ∧ (0 : Int) < ((levels8n : Nat) : Int)) with | true => (match l1[0]? with | some e5 => (match gtB (fop .sub .f32 e4 e5) 1048576000 with | true => (mr_lawD33 N (ce_lawD33_0 N) (ce_lawD33_1 N) N n5 rows6n beside7 levels8n ((v_so rows6n beside7 e3 4 l0).1) 0 l0 l1 ((v_so rows6n beside7 e3 4 l0).2)) | false => some (.bool true, [])) | none => none) | false => none) | none => none) | false => none) | false => some (.bool true, [])))) | false => none)) | false => none) | none => none) | false => none)) | none => none) | none => none)
noncomputable def mb_lawD14 (N : Nat) (k0 : Int → Nat → Nat → Nat → Nat → Nat → List Nat → List Nat → Option (V × H)) (k1 : Int → Nat → Nat → Nat → Nat → Nat → List Nat → List Nat → Option (V × H)) (rq : Int → Nat → Nat → Nat → Nat → Nat → Int → List Nat → List Nat → Option (V × H)) : Int → Nat → Nat → Nat → Nat → Nat → Int → List Nat → List Nat → Option (V × H) := fun (n5 : Int) (rows6n : Nat) (beside7 : Nat) (levels8n : Nat) (sum14 : Nat) (trace15 : Nat) (k16 : Int) (l0 : List Nat) (l1 : List Nat) => (match decide ((k16 : Int) < n5) with | true => (match (d_lo rows6n beside7 k16 36 true l0).isSome with | true => (match decide (0 ≤ (k16 : Int) ∧ (k16 : Int) < ((levels8n : Nat) : Int)) with | true => (match l1[0 + (k16).toNat * 1]? with | some e1 => (match (d_CB rows6n beside7 (fop .sub .f32 e1 1008981770) true l0).isSome with | true => (match decide (0 ≤ (k16 : Int) ∧ (k16 : Int) < ((levels8n : Nat) : Int)) with | true => (match l1[0 + (k16).toNat * 1]? with | some e2 => (match (d_CB rows6n beside7 (fop .add .f32 e2 1008981770) true l0).isSome with | true => (match decide (0 ≤ (k16 : Int) ∧ (k16 : Int) < ((levels8n : Nat) : Int)) with | true => (match l1[0 + (k16).toNat * 1]? with | some e3 => (match fconv .f32 e3 .f64 with | some c4 => (match decide (0 ≤ (k16 : Int) ∧ (k16 : Int) < ((rows6n : Nat) : Int)) with | true => (match l0[0 + (k16).toNat * 1]? with | some e5 => (match fconv .f32 e5 .f64 with | some c6 => (match !((v_lo rows6n beside7 k16 36 true l0).2) with | true => (k0 n5 rows6n beside7 levels8n (fop .add .f64 sum14 c4) (fop .add .f64 trace15 c6) l0 l1) | false => (match !((v_CB rows6n beside7 (fop .sub .f32 e1 1008981770) true l0).2) with | true => (k0 n5 rows6n beside7 levels8n (fop .add .f64 sum14 c4) (fop .add .f64 trace15 c6) l0 l1) | false => (match !((v_CB rows6n beside7 (fop .add .f32 e2 1008981770) true l0).2) with | true => (k0 n5 rows6n beside7 levels8n (fop .add .f64 sum14 c4) (fop .add .f64 trace15 c6) l0 l1) | false => (match decide (0 ≤ (k16 : Int) ∧ (k16 : Int) < ((levels8n : Nat) : Int)) with | true => (match l1[0 + (k16).toNat * 1]? with | some e7 => (match FloatKind.f32.format.order ((v_lo rows6n beside7 k16 36 true l0).1) e7 != some .eq with | true => (k0 n5 rows6n beside7 levels8n (fop .add .f64 sum14 c4) (fop .add .f64 trace15 c6) l0 l1) | false => (match decide ((k16 : Int) > 0) with | true => (match decide (0 ≤ (k16 : Int) ∧ (k16 : Int) < ((levels8n : Nat) : Int)) with | true => (match l1[0 + (k16).toNat * 1]? with | some e8 => (match decide (0 ≤ (IntKind.i64.wrap (k16 - 1) : Int) ∧ (IntKind.i64.wrap (k16 - 1) : Int) < ((levels8n : Nat) : Int)) with | true => (match l1[0 + (IntKind.i64.wrap (k16 - 1)).toNat * 1]? with | some e9 => (match ltB e8 e9 with | true => (k0 n5 rows6n beside7 levels8n (fop .add .f64 sum14 c4) (fop .add .f64 trace15 c6) l0 l1) | false => (match decide (((v_CB rows6n beside7 (fop .sub .f32 e1 1008981770) true l0).1 : Int) > k16) with | true => (k0 n5 rows6n beside7 levels8n (fop .add .f64 sum14 c4) (fop .add .f64 trace15 c6) l0 l1) | false => (match decide (((v_CB rows6n beside7 (fop .add .f32 e2 1008981770) true l0).1 : Int) < (IntKind.i64.wrap (k16 + 1))) with | true => (k0 n5 rows6n beside7 levels8n (fop .add .f64 sum14 c4) (fop .add .f64 trace15 c6) l0 l1) | false => (rq n5 rows6n beside7 levels8n (fop .add .f64 sum14 c4) (fop .add .f64 trace15 c6) (IntKind.i64.wrap (k16 + 1)) l0 l1)))) | none => none) | false => none) | none => none) | false => none) | false => (match decide (((v_CB rows6n beside7 (fop .sub .f32 e1 1008981770) true l0).1 : Int) > k16) with | true => (k0 n5 rows6n beside7 levels8n (fop .add .f64 sum14 c4) (fop .add .f64 trace15 c6) l0 l1) | false => (match decide (((v_CB rows6n beside7 (fop .add .f32 e2 1008981770) true l0).1 : Int) < (IntKind.i64.wrap (k16 + 1))) with | true => (k0 n5 rows6n beside7 levels8n (fop .add .f64 sum14 c4) (fop .add .f64 trace15 c6) l0 l1) | false => (rq n5 rows6n beside7 levels8n (fop .add .f64 sum14 c4) (fop .add .f64 trace15 c6) (IntKind.i64.wrap (k16 + 1)) l0 l1))))) | none => none) | false => none)))) | none => none) | none => none) | false => none) | none => none) | none => none) | false => none) | false => none) | none => none) | false => none) | false => none) | none => none) | false => none) | false => none) | false => (k1 n5 rows6n beside7 levels8n sum14 trace15 l0 l1))
noncomputable def mr_lawD14 (N : Nat) (k0 : Int → Nat → Nat → Nat → Nat → Nat → List Nat → List Nat → Option (V × H)) (k1 : Int → Nat → Nat → Nat → Nat → Nat → List Nat → List Nat → Option (V × H)) (M : Nat) : Int → Nat → Nat → Nat → Nat → Nat → Int → List Nat → List Nat → Option (V × H) := Nat.rec (motive := fun _ => Int → Nat → Nat → Nat → Nat → Nat → Int → List Nat → List Nat → Option (V × H)) (fun (_ : Int) (_ : Nat) (_ : Nat) (_ : Nat) (_ : Nat) (_ : Nat) (_ : Int) (_ : List Nat) (_ : List Nat) => none) (fun _ rq => mb_lawD14 N k0 k1 rq) M
theorem mrs_lawD14 (N : Nat) (k0 : Int → Nat → Nat → Nat → Nat → Nat → List Nat → List Nat → Option (V × H)) (k1 : Int → Nat → Nat → Nat → Nat → Nat → List Nat → List Nat → Option (V × H)) (M : Nat) (n5 : Int) (rows6n : Nat) (beside7 : Nat) (levels8n : Nat) (sum14 : Nat) (trace15 : Nat) (k16 : Int) (l0 : List Nat) (l1 : List Nat) : mr_lawD14 N k0 k1 (M + 1) n5 rows6n beside7 levels8n sum14 trace15 k16 l0 l1 = mb_lawD14 N k0 k1 (mr_lawD14 N k0 k1 M) n5 rows6n beside7 levels8n sum14 trace15 k16 l0 l1 := rfl
theorem H_lawD14 (N : Nat) : ∀ (M : Nat) (n5 : Int) (rows6n : Nat) (beside7 : Nat) (levels8n : Nat) (sum14 : Nat) (trace15 : Nat) (k16 : Int) (l0 : List Nat) (l1 : List Nat), lp_lawD14 N M (st_lawD14 n5 rows6n beside7 levels8n sum14 trace15 k16 l0 l1) (kt_lawD14 N (kEnd Try.f3 0)) = mr_lawD14 N (ce_lawD14_0 N) (ce_lawD14_1 N) M n5 rows6n beside7 levels8n sum14 trace15 k16 l0 l1 := by
  have he0 : ∀ (n5 : Int) (rows6n : Nat) (beside7 : Nat) (levels8n : Nat) (sum14 : Nat) (trace15 : Nat) (l0 : List Nat) (l1 : List Nat), kt_lawD14 N (kEnd Try.f3 0) .ret (en_lawD14_0 n5 rows6n beside7 levels8n sum14 trace15 l0 l1) = ce_lawD14_0 N n5 rows6n beside7 levels8n sum14 trace15 l0 l1 := by
    intro n5 rows6n beside7 levels8n sum14 trace15 l0 l1
    rw [end_lawD14_0]
    unfold ce_lawD14_0
    first | (simp only []; done) | (simp only []; kernel_rfl) | rfl
  have he1 : ∀ (n5 : Int) (rows6n : Nat) (beside7 : Nat) (levels8n : Nat) (sum14 : Nat) (trace15 : Nat) (l0 : List Nat) (l1 : List Nat), kt_lawD14 N (kEnd Try.f3 0) (.exit 0) (en_lawD14_1 n5 rows6n beside7 levels8n sum14 trace15 l0 l1) = ce_lawD14_1 N n5 rows6n beside7 levels8n sum14 trace15 l0 l1 := by
    intro n5 rows6n beside7 levels8n sum14 trace15 l0 l1
    rw [end_lawD14_1]
    unfold ce_lawD14_1
    first | (simp only [H_lawD33 N N]; done) | (simp only [H_lawD33 N N]; kernel_rfl) | rfl
  intro M
  induction M with
  | zero => intros; rfl
  | succ M ih =>
    intro n5 rows6n beside7 levels8n sum14 trace15 k16 l0 l1
    rw [step_lawD14]
    rw [mrs_lawD14]
    unfold mb_lawD14
    first | (simp only [ih, he0, he1]; done) | (simp only [ih, he0, he1]; kernel_rfl) | rfl
noncomputable def md_lawD (N : Nat)  : Option (V × H) := (match longB 0 0 with | true => some (.bool true, []) | false => (match atOk 0 [] 40 with | true => (match (d_rn (IntKind.i64.wrap (1 + (atF [] 40 8)))).isSome with | true => (match atOk 0 [] 41 with | true => (match (d_gl ((v_rn (IntKind.i64.wrap (1 + (atF [] 40 8)))).1) (fop .quo .f32 (fneg .f32 (floatOfInt .f32 (IntKind.i64.wrap (1 + (atF [] 41 8))))) 1082130432) (IntKind.i64.wrap (1 + (atF [] 40 8))) 36 true ((v_rn (IntKind.i64.wrap (1 + (atF [] 40 8)))).2)).isSome with | true => (match (d_CB ((v_rn (IntKind.i64.wrap (1 + (atF [] 40 8)))).1) (fop .quo .f32 (fneg .f32 (floatOfInt .f32 (IntKind.i64.wrap (1 + (atF [] 41 8))))) 1082130432) 3267887104 true ((v_rn (IntKind.i64.wrap (1 + (atF [] 40 8)))).2)).isSome with | true => (match (d_CB ((v_rn (IntKind.i64.wrap (1 + (atF [] 40 8)))).1) (fop .quo .f32 (fneg .f32 (floatOfInt .f32 (IntKind.i64.wrap (1 + (atF [] 41 8))))) 1082130432) 1120403456 true ((v_rn (IntKind.i64.wrap (1 + (atF [] 40 8)))).2)).isSome with | true => (match !((v_CB ((v_rn (IntKind.i64.wrap (1 + (atF [] 40 8)))).1) (fop .quo .f32 (fneg .f32 (floatOfInt .f32 (IntKind.i64.wrap (1 + (atF [] 41 8))))) 1082130432) 3267887104 true ((v_rn (IntKind.i64.wrap (1 + (atF [] 40 8)))).2)).2) with | true => some (.bool false, []) | false => (match !((v_CB ((v_rn (IntKind.i64.wrap (1 + (atF [] 40 8)))).1) (fop .quo .f32 (fneg .f32 (floatOfInt .f32 (IntKind.i64.wrap (1 + (atF [] 41 8))))) 1082130432) 1120403456 true ((v_rn (IntKind.i64.wrap (1 + (atF [] 40 8)))).2)).2) with | true => some (.bool false, []) | false => (match (((v_gl ((v_rn (IntKind.i64.wrap (1 + (atF [] 40 8)))).1) (fop .quo .f32 (fneg .f32 (floatOfInt .f32 (IntKind.i64.wrap (1 + (atF [] 41 8))))) 1082130432) (IntKind.i64.wrap (1 + (atF [] 40 8))) 36 true ((v_rn (IntKind.i64.wrap (1 + (atF [] 40 8)))).2)).1 : Nat) : Int) != (IntKind.i64.wrap (1 + (atF [] 40 8))) with | true => some (.bool false, []) | false => (match ((v_CB ((v_rn (IntKind.i64.wrap (1 + (atF [] 40 8)))).1) (fop .quo .f32 (fneg .f32 (floatOfInt .f32 (IntKind.i64.wrap (1 + (atF [] 41 8))))) 1082130432) 3267887104 true ((v_rn (IntKind.i64.wrap (1 + (atF [] 40 8)))).2)).1) != 0 with | true => some (.bool false, []) | false => (match ((v_CB ((v_rn (IntKind.i64.wrap (1 + (atF [] 40 8)))).1) (fop .quo .f32 (fneg .f32 (floatOfInt .f32 (IntKind.i64.wrap (1 + (atF [] 41 8))))) 1082130432) 1120403456 true ((v_rn (IntKind.i64.wrap (1 + (atF [] 40 8)))).2)).1) != (IntKind.i64.wrap (1 + (atF [] 40 8))) with | true => some (.bool false, []) | false => (mr_lawD14 N (ce_lawD14_0 N) (ce_lawD14_1 N) N (IntKind.i64.wrap (1 + (atF [] 40 8))) ((v_rn (IntKind.i64.wrap (1 + (atF [] 40 8)))).1) (fop .quo .f32 (fneg .f32 (floatOfInt .f32 (IntKind.i64.wrap (1 + (atF [] 41 8))))) 1082130432) ((v_gl ((v_rn (IntKind.i64.wrap (1 + (atF [] 40 8)))).1) (fop .quo .f32 (fneg .f32 (floatOfInt .f32 (IntKind.i64.wrap (1 + (atF [] 41 8))))) 1082130432) (IntKind.i64.wrap (1 + (atF [] 40 8))) 36 true ((v_rn (IntKind.i64.wrap (1 + (atF [] 40 8)))).2)).1) 0 0 0 ((v_rn (IntKind.i64.wrap (1 + (atF [] 40 8)))).2) ((v_gl ((v_rn (IntKind.i64.wrap (1 + (atF [] 40 8)))).1) (fop .quo .f32 (fneg .f32 (floatOfInt .f32 (IntKind.i64.wrap (1 + (atF [] 41 8))))) 1082130432) (IntKind.i64.wrap (1 + (atF [] 40 8))) 36 true ((v_rn (IntKind.i64.wrap (1 + (atF [] 40 8)))).2)).2))))))) | false => none) | false => none) | false => none) | false => none) | false => none) | false => none))
theorem mdl_lawD (N : Nat)  : run ty tab_lawD an_lawD N Try.f3 [.nil, .nil] [] = md_lawD N  := by
  rw [run_lawD]
  unfold md_lawD
  first | (simp only [H_lawD14 N N]; done) | (simp only [H_lawD14 N N]; kernel_rfl) | rfl
end Go.Proofs.Ytpeplbbphpamhaa.Ab

namespace Go.Proofs.Ytpeplbbphpamhaa.Ab
set_option linter.unusedVariables false
set_option linter.unusedSimpArgs false
open Go
theorem w33_D {N : Nat} {k0 k1 : Option (V × H)} {b n : Nat} {l l4 : List Nat} (hl : l.length = n) (h0 : 0 < n) (hn : n < 40) (H4 : HoldsL l4 n (stW b l)) (hr : ∀ i, i < n → gtD (r8G (restW b (levW b l 0) (fun i => l.getD i 0) (stW b l) n i) 0) 4576918229304087675 = false) :
    ∀ (t i M : Nat), i + t = n → t < M → mr_lawD33 N k0 k1 M ((n : Nat) : Int) n b n n ((i : Nat) : Int) l (levs b l n) l4 = k1
  | 0, i, M + 1, hi, hM => by
    rw [mrs_lawD33]
    unfold mb_lawD33
    try dsimp only
    rw [dn (show ¬ i < n by omega)]
  | t + 1, i, M + 1, hi, hM => by
    have hin : i < n := by omega
    have hrest := hr i hin
    have ih := w33_D (N := N) (k0 := k0) (k1 := k1) hl h0 hn H4 hr t (i + 1) M (by omega) (by omega)
    have hv0 : (levs b l n)[0]? = some (levW b l 0) := by rw [at0 (levs_len b l n) h0, levs_get h0]
    have hU := H4.2 i hin
    have hwi := wi (show i < 1000 by omega)
    unfold restW at hrest
    rw [mrs_lawD33]
    unfold mb_lawD33
    by_cases hi0 : 0 < i
    · obtain ⟨j, rfl⟩ : ∃ j, i = j + 1 := ⟨i - 1, by omega⟩
      have hw1 : IntKind.i64.wrap (((j + 1 : Nat) : Int) - 1) = ((j : Nat) : Int) := by rw [wrap_z (by omega) (by omega)]; omega
      have hUj := H4.2 j (by omega)
      rw [if_pos hi0] at hrest
      simp only [dl hin, d01 hin, ixg hl hin, d00 h0, hv0, ixg H4.1 hin, decide_eq_true (show ((j + 1 : Nat) : Int) > 0 by omega), hw1, d01 (show j < n by omega), ixg H4.1 (show j < n by omega), hwi, hU, hUj]
      by_cases hi1 : j + 1 + 1 < n
      · rw [if_pos hi1] at hrest
        have hUk := H4.2 (j + 1 + 1) hi1
        simp only [dl hi1, d01 hi1, ixg H4.1 hi1, hUk]
        have hrest : gtD (r8G (fop .add .f32 (fop .add .f32 (fop .mul .f32 (fop .sub .f32 (l.getD (j + 1) 0) (levW b l 0)) (stW b l (j + 1))) (fop .mul .f32 b (stW b l j))) (fop .mul .f32 b (stW b l (j + 1 + 1)))) 0) 4576918229304087675 = false := hrest
        rw [hrest]
        exact ih
      · rw [if_neg hi1] at hrest
        simp only [dn hi1]
        have hrest : gtD (r8G (fop .add .f32 (fop .mul .f32 (fop .sub .f32 (l.getD (j + 1) 0) (levW b l 0)) (stW b l (j + 1))) (fop .mul .f32 b (stW b l j))) 0) 4576918229304087675 = false := hrest
        rw [hrest]
        exact ih
    · have e : i = 0 := by omega
      subst e
      rw [if_neg hi0] at hrest
      simp only [dl hin, d01 hin, ixg hl hin, d00 h0, hv0, ixg H4.1 hin, decide_eq_false (show ¬ ((0 : Nat) : Int) > 0 by omega), hwi, hU]
      by_cases hi1 : 0 + 1 < n
      · rw [if_pos hi1] at hrest
        have hUk := H4.2 (0 + 1) hi1
        simp only [dl hi1, d01 hi1, ixg H4.1 hi1, hUk]
        have hrest : gtD (r8G (fop .add .f32 (fop .mul .f32 (fop .sub .f32 (l.getD 0 0) (levW b l 0)) (stW b l 0)) (fop .mul .f32 b (stW b l (0 + 1)))) 0) 4576918229304087675 = false := hrest
        rw [hrest]
        exact ih
      · rw [if_neg hi1] at hrest
        simp only [dn hi1]
        have hrest : gtD (r8G (fop .mul .f32 (fop .sub .f32 (l.getD 0 0) (levW b l 0)) (stW b l 0)) 0) 4576918229304087675 = false := hrest
        rw [hrest]
        exact ih
theorem w14_D {N : Nat} {k0 k1 : Int → Nat → Nat → Nat → Nat → Nat → List Nat → List Nat → Option (V × H)} {b n : Nat} {l : List Nat} (hl : l.length = n) (hn : n < 40) (hk : ∀ k, k < n → AtK b l n k) :
    ∀ (t k M : Nat), k + t = n → t < M → mr_lawD14 N k0 k1 M ((n : Nat) : Int) n b n (sum64 (fun i => levW b l i) k) (sum64 (fun i => l.getD i 0) k) ((k : Nat) : Int) l (levs b l n) = k1 ((n : Nat) : Int) n b n (sum64 (fun i => levW b l i) n) (sum64 (fun i => l.getD i 0) n) l (levs b l n)
  | 0, k, M + 1, hi, hM => by
    rw [mrs_lawD14]
    unfold mb_lawD14
    try dsimp only
    rw [dn (show ¬ k < n by omega), show k = n by omega]
  | t + 1, k, M + 1, hi, hM => by
    have hin : k < n := by omega
    have q := hk k hin
    have ih := w14_D (N := N) (k0 := k0) (k1 := k1) hl hn hk t (k + 1) M (by omega) (by omega)
    have hv := levs_get (b := b) (l := l) hin
    have hlo := q.lo
    have hdn := q.dn
    have hup := q.up
    have hsame := q.same
    have hdk := q.dnk
    have huk := q.upk
    have hwi := wi (show k < 1000 by omega)
    rw [mrs_lawD14]
    unfold mb_lawD14 v_lo v_CB
    simp only [dl hin, hlo, d01 hin, ixg (levs_len b l n) hin, hv, hdn, hup, ixg hl hin, fconv_eq, Option.isSome_some, Option.getD_some, Bool.not_true, hsame, hwi, decide_eq_false (show ¬ ((cbF b (fop .sub .f32 (levW b l k) 1008981770) none l : Nat) : Int) > ((k : Nat) : Int) by omega), decide_eq_false (show ¬ ((cbF b (fop .add .f32 (levW b l k) 1008981770) none l : Nat) : Int) < ((k + 1 : Nat) : Int) by omega)]
    by_cases h0 : 0 < k
    · obtain ⟨j, rfl⟩ : ∃ j, k = j + 1 := ⟨k - 1, by omega⟩
      have hw1 : IntKind.i64.wrap (((j + 1 : Nat) : Int) - 1) = ((j : Nat) : Int) := by rw [wrap_z (by omega) (by omega)]; omega
      have hvj := levs_get (b := b) (l := l) (show j < n by omega)
      simp only [decide_eq_true (show ((j + 1 : Nat) : Int) > 0 by omega), hw1, d01 (show j < n by omega), ixg (levs_len b l n) (show j < n by omega), hvj, q.rise j rfl]
      exact ih
    · simp only [decide_eq_false (show ¬ ((k : Nat) : Int) > 0 by omega)]
      exact ih
theorem wfin_D {b n : Nat} {l : List Nat} (hl : l.length = n) (h0 : 0 < n) (hn : n < 40) (w : Whole b l n) : ce_lawD14_1 50 ((n : Nat) : Int) n b n (sum64 (fun i => levW b l i) n) (sum64 (fun i => l.getD i 0) n) l (levs b l n) = some (.bool true, []) := by
  obtain ⟨c1, c2, s1, s2, s3⟩ := w.sums
  obtain ⟨l4, q1, q2, o, q3, q4⟩ := w.state
  have hv0 : (levs b l n)[0]? = some (levW b l 0) := by rw [at0 (levs_len b l n) h0, levs_get h0]
  unfold ce_lawD14_1 v_so v_ov
  simp only [s1, s2, s3, d00 h0, hv0, q2, Option.isSome_some, Option.getD_some, bne_self_eq_false, q3, q4, Bool.not_true]
  by_cases h1 : 1 < n
  · have hv1 : (levs b l n)[1]? = some (levW b l 1) := by
      have := ixg (levs_len b l n) h1
      rw [levs_get h1] at this
      exact this
    simp only [decide_eq_true (show ((n : Nat) : Int) > 1 by omega), decide_eq_true (show 0 ≤ (1 : Int) ∧ (1 : Int) < ((n : Nat) : Int) by omega), hv1]
    cases gtB (fop .sub .f32 (levW b l 1) (levW b l 0)) 1048576000 with
    | false => rfl
    | true => exact w33_D (N := 50) (k0 := ce_lawD33_0 50) (k1 := ce_lawD33_1 50) hl h0 hn q1 w.rest n 0 50 (by omega) (by omega)
  · simp only [decide_eq_false (show ¬ ((n : Nat) : Int) > 1 by omega)]
theorem H_lawD   : run ty tab_lawD an_lawD 50 Try.f3 [.nil, .nil] [] = some (.bool true, []) := by
  rw [mdl_lawD]
  unfold md_lawD
  cases longB 0 0
  case true => rfl
  have a40 : atOk 0 ([] : List Int) 40 = true := decide_eq_true ⟨rfl, by decide, by decide, by decide⟩
  have a41 : atOk 0 ([] : List Int) 41 = true := decide_eq_true ⟨rfl, by decide, by decide, by decide⟩
  obtain ⟨k, k1, k8, hk⟩ := drawn_n (l := []) rfl
  obtain ⟨j, j8, hj⟩ := drawn_b (l := []) rfl
  obtain ⟨rows, ar, d1, d2, d3⟩ := rn_ok k8
  have pre := pre_of j8 d1 d2 k1 k8
  have w := whole pre d2
  have hat := fun i hi => at_k pre d2 (k := i) hi
  have hgl := w.gl
  have hno := w.no
  have hall := w.all
  unfold v_rn v_gl v_CB
  simp only [hk, hj, a40, a41, d3, Option.isSome_some, Option.getD_some, hgl, hno, hall, Bool.not_true, bne_self_eq_false]
  have h14 := w14_D (N := 50) (k0 := ce_lawD14_0 50) (k1 := ce_lawD14_1 50)  d2 (by omega) hat k 0 50 (by omega) (by omega)
  exact Eq.trans h14 (wfin_D  d2 (by omega) (by omega) w)
end Go.Proofs.Ytpeplbbphpamhaa.Ab

namespace Go.Proofs.Ytpeplbbphpamhaa.Ab
set_option linter.unusedVariables false
set_option linter.unusedSimpArgs false
open Go
noncomputable section
def gBytes : G := fun vs h => match vs, h with
  | [.sl 0 0 n, .sl 1 0 m], [.at false (.int .u8 l0), .at false (.int .u8 l1)] => if n = l0.length ∧ m = l1.length ∧ bytesB l0 = true ∧ bytesB l1 = true then some (.bool true, [.at false (.int .u8 l0), .at false (.int .u8 l1)]) else none
  | [.sl 0 0 n, .nil], [.at false (.int .u8 l0)] => if n = l0.length ∧ bytesB l0 = true then some (.bool true, [.at false (.int .u8 l0)]) else none
  | [.nil, .sl 0 0 m], [.at false (.int .u8 l1)] => if m = l1.length ∧ bytesB l1 = true then some (.bool true, [.at false (.int .u8 l1)]) else none
  | [.nil, .nil], [] => some (.bool true, [])
  | _, _ => none
theorem long_n {n m : Nat} (h : ¬ n < 2147483648) : longB n m = true := by unfold longB; rw [decide_eq_true (show ((n : Nat) : Int) > 48 by omega)]; rfl
theorem long_m {n m : Nat} (h : ¬ m < 2147483648) : longB n m = true := by unfold longB; rw [decide_eq_true (show ((m : Nat) : Int) > 48 by omega)]; cases decide ((n : Int) > 48) <;> rfl
theorem bytes_wf {l : List Int} (h : ∀ z ∈ l, (Lit.int .u8 z).wf = true) : bytesB l = true := by
  unfold bytesB
  rw [List.all_eq_true]
  intro z hz
  have hw := h z hz
  simp only [Lit.wf, Bool.and_eq_true, decide_eq_true_eq] at hw
  have h1 : (0 : Int) ≤ z := hw.1
  have h2 : z ≤ 255 := hw.2
  exact decide_eq_true (by omega)
theorem ok_lawLevels : FnOk Try.prog 3 gBytes := by
  intro vs hp v h' e
  rw [T.run_of] at e
  unfold gBytes at e
  split at e
  · rename_i n m l0 l1
    split at e
    · rename_i hc
      cases e
      refine FnT.runs tabok_lawA Try.func3 rfl rfl an_lawA 50 _ _ _ _ ?_
      rw [T.run_of]
      by_cases h1 : n < 2147483648
      · by_cases h2 : m < 2147483648
        · exact H_lawA n m false l0 false l1 ⟨hc.1.symm, h1⟩ hc.2.2.1 ⟨hc.2.1.symm, h2⟩ hc.2.2.2
        · refine Eq.trans (run_lawA 50 _ _ _ _ _ _) ?_
          rw [long_m h2]
      · refine Eq.trans (run_lawA 50 _ _ _ _ _ _) ?_
        rw [long_n h1]
    · cases e
  · rename_i n l0
    split at e
    · rename_i hc
      cases e
      refine FnT.runs tabok_lawB Try.func3 rfl rfl an_lawB 50 _ _ _ _ ?_
      rw [T.run_of]
      by_cases h1 : n < 2147483648
      · exact H_lawB n false l0 ⟨hc.1.symm, h1⟩ hc.2
      · refine Eq.trans (run_lawB 50 _ _ _) ?_
        rw [long_n h1]
    · cases e
  · rename_i m l1
    split at e
    · rename_i hc
      cases e
      refine FnT.runs tabok_lawC Try.func3 rfl rfl an_lawC 50 _ _ _ _ ?_
      rw [T.run_of]
      by_cases h1 : m < 2147483648
      · exact H_lawC m false l1 ⟨hc.1.symm, h1⟩ hc.2
      · refine Eq.trans (run_lawC 50 _ _ _) ?_
        rw [long_m h1]
    · cases e
  · cases e
    refine FnT.runs tabok_lawD Try.func3 rfl rfl an_lawD 50 _ _ _ _ ?_
    rw [T.run_of]
    exact H_lawD
  · cases e
end
end Go.Proofs.Ytpeplbbphpamhaa.Ab

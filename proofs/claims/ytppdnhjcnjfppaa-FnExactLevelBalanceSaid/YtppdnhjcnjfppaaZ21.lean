/- What the proof names: lemmas and words, merged by a program from its parts. No condition. -/
import Derived.Test.YtppdnhjcnjfppaaZ9
import Derived.Test.YtppdnhjcnjfppaaZ20
namespace Go.Proofs.Ytppdnhjcnjfppaa.Ab
set_option linter.unusedVariables false
set_option linter.unusedSimpArgs false
open Go
def tab_baS6 : Fns := tabT [(10, gRates), (11, gOut), (12, gSol 6), (13, gLsT)]
theorem tabok_baS6 : ∀ f, FnT Try.prog f (tab_baS6 f) := (tabT_cons (k := 10) ok_arS (tabT_cons (k := 11) ok_leS (tabT_cons (k := 12) ok_soS_6 (tabT_cons (k := 13) ok_l02List tabT_nil))))
theorem run_baS6 (N : Nat) (rw : Bool) (a : Nat → Nat) : run ty tab_baS6 ann0 N Try.f4 [.int .i64 6, .sl 0 0 36] [.at rw (.fl .f32 (rts 36 a))]
    = (match decide ((rts 36 a).length = 36 ∧ 36 < 2147483648) with | true => (match !(ratesB 6 (rts 36 a)) with | true => some (.tup [.a (.nil), .a (.bool false)], [.at rw (.fl .f32 (rts 36 a))]) | false => (match outOk 6 36 (rts 36 a) 0 with | true => (match outOk 6 36 (rts 36 a) 1 with | true => (match outOk 6 36 (rts 36 a) 2 with | true => (match outOk 6 36 (rts 36 a) 3 with | true => (match outOk 6 36 (rts 36 a) 4 with | true => (match outOk 6 36 (rts 36 a) 5 with | true => (match solOk sizB 6 (mI 6 (rts 36 a)) with | true => (match decide ((solL sizB 6 (mI 6 (rts 36 a))).length = 6 ∧ 6 < 2147483648) with | true => (match (solL sizB 6 (mI 6 (rts 36 a))).all finB with | true => some (.tup [.a (.sl 1 0 6), .a (.bool true)], [.at rw (.fl .f32 (rts 36 a)), .at true (.fl .f32 (solL sizB 6 (mI 6 (rts 36 a))))]) | false => some (.tup [.a (.nil), .a (.bool false)], [.at rw (.fl .f32 (rts 36 a))])) | false => none) | false => some (.tup [.a (.nil), .a (.bool false)], [.at rw (.fl .f32 (rts 36 a))])) | false => none) | false => none) | false => none) | false => none) | false => none) | false => none)) | false => none) := by
  kernel_rfl
theorem baS_6 (rw : Bool) (l : List Nat) (hl : l.length = 36) (hr : ratesB 6 l = true) : run ty tab_baS6 ann0 0 Try.f4 [.int .i64 6, .sl 0 0 36] [.at rw (.fl .f32 l)] = balR 6 rw l := by
  have o0 : outOk 6 36 l 0 = true := decide_eq_true ⟨hl, by decide, by decide, by decide, by decide, by decide⟩
  have o1 : outOk 6 36 l 1 = true := decide_eq_true ⟨hl, by decide, by decide, by decide, by decide, by decide⟩
  have o2 : outOk 6 36 l 2 = true := decide_eq_true ⟨hl, by decide, by decide, by decide, by decide, by decide⟩
  have o3 : outOk 6 36 l 3 = true := decide_eq_true ⟨hl, by decide, by decide, by decide, by decide, by decide⟩
  have o4 : outOk 6 36 l 4 = true := decide_eq_true ⟨hl, by decide, by decide, by decide, by decide, by decide⟩
  have o5 : outOk 6 36 l 5 = true := decide_eq_true ⟨hl, by decide, by decide, by decide, by decide, by decide⟩
  have h := run_baS6 0 rw (fun i => l.getD i 0)
  rw [rts_eq hl, decide_eq_true (show l.length = 36 ∧ 36 < 2147483648 from ⟨hl, by decide⟩), hr, o0, o1, o2, o3, o4, o5, solOk_same, solL_same] at h
  refine h.trans ?_
  unfold balR balB
  have hL : (solL magB 6 (mI 6 l)).length = 6 := by unfold solL; exact bkL_len _
  generalize solL magB 6 (mI 6 l) = D at hL ⊢
  generalize solOk magB 6 (mI 6 l) = ok
  cases ok with
  | false => rfl
  | true =>
    rw [decide_eq_true (show D.length = 6 ∧ 6 < 2147483648 from ⟨hL, by decide⟩)]
    show _ = match D.all finB with | true => _ | false => _
    cases D.all finB <;> rfl
theorem okN_baS_6 : FnT Try.prog 4 (gBalN 6) := by
  refine fnT tabok_baS6 Try.func4 rfl rfl ann0 fun vs h v h' e => ⟨0, ?_⟩
  unfold gBalN at e
  split at e
  case h_2 => exact (T.no_inv e).elim
  rename_i n m rw l
  obtain ⟨hd, e2⟩ := T.pre_inv e
  rw [T.run_of] at e2
  clear e
  rw [Bool.and_eq_true] at hd
  obtain ⟨rfl, rfl⟩ := of_decide_eq_true hd.1
  have hl : l.length = 36 := by have := (rates_len hd.2).1; omega
  refine Eq.trans ?_ e2
  rw [hl]
  exact baS_6 rw l hl hd.2
end Go.Proofs.Ytppdnhjcnjfppaa.Ab

/- What the proof names: lemmas and words, merged by a program from its parts. No condition. -/
import Derived.Test.YtppdnhjcnjfppaaZ9
import Derived.Test.YtppdnhjcnjfppaaZ12
namespace Go.Proofs.Ytppdnhjcnjfppaa.Ab
set_option linter.unusedVariables false
set_option linter.unusedSimpArgs false
open Go
def tab_baS2 : Fns := tabT [(10, gRates), (11, gOut), (12, gSol 2), (13, gLsT)]
theorem tabok_baS2 : ∀ f, FnT Try.prog f (tab_baS2 f) := (tabT_cons (k := 10) ok_arS (tabT_cons (k := 11) ok_leS (tabT_cons (k := 12) ok_soS_2 (tabT_cons (k := 13) ok_l02List tabT_nil))))
theorem run_baS2 (N : Nat) (rw : Bool) (a : Nat → Nat) : run ty tab_baS2 ann0 N Try.f4 [.int .i64 2, .sl 0 0 4] [.at rw (.fl .f32 (rts 4 a))]
    = (match decide ((rts 4 a).length = 4 ∧ 4 < 2147483648) with | true => (match !(ratesB 2 (rts 4 a)) with | true => some (.tup [.a (.nil), .a (.bool false)], [.at rw (.fl .f32 (rts 4 a))]) | false => (match outOk 2 4 (rts 4 a) 0 with | true => (match outOk 2 4 (rts 4 a) 1 with | true => (match solOk sizB 2 (mI 2 (rts 4 a)) with | true => (match decide ((solL sizB 2 (mI 2 (rts 4 a))).length = 2 ∧ 2 < 2147483648) with | true => (match (solL sizB 2 (mI 2 (rts 4 a))).all finB with | true => some (.tup [.a (.sl 1 0 2), .a (.bool true)], [.at rw (.fl .f32 (rts 4 a)), .at true (.fl .f32 (solL sizB 2 (mI 2 (rts 4 a))))]) | false => some (.tup [.a (.nil), .a (.bool false)], [.at rw (.fl .f32 (rts 4 a))])) | false => none) | false => some (.tup [.a (.nil), .a (.bool false)], [.at rw (.fl .f32 (rts 4 a))])) | false => none) | false => none)) | false => none) := by
  kernel_rfl
theorem baS_2 (rw : Bool) (l : List Nat) (hl : l.length = 4) (hr : ratesB 2 l = true) : run ty tab_baS2 ann0 0 Try.f4 [.int .i64 2, .sl 0 0 4] [.at rw (.fl .f32 l)] = balR 2 rw l := by
  have o0 : outOk 2 4 l 0 = true := decide_eq_true ⟨hl, by decide, by decide, by decide, by decide, by decide⟩
  have o1 : outOk 2 4 l 1 = true := decide_eq_true ⟨hl, by decide, by decide, by decide, by decide, by decide⟩
  have h := run_baS2 0 rw (fun i => l.getD i 0)
  rw [rts_eq hl, decide_eq_true (show l.length = 4 ∧ 4 < 2147483648 from ⟨hl, by decide⟩), hr, o0, o1, solOk_same, solL_same] at h
  refine h.trans ?_
  unfold balR balB
  have hL : (solL magB 2 (mI 2 l)).length = 2 := by unfold solL; exact bkL_len _
  generalize solL magB 2 (mI 2 l) = D at hL ⊢
  generalize solOk magB 2 (mI 2 l) = ok
  cases ok with
  | false => rfl
  | true =>
    rw [decide_eq_true (show D.length = 2 ∧ 2 < 2147483648 from ⟨hL, by decide⟩)]
    show _ = match D.all finB with | true => _ | false => _
    cases D.all finB <;> rfl
theorem okN_baS_2 : FnT Try.prog 4 (gBalN 2) := by
  refine fnT tabok_baS2 Try.func4 rfl rfl ann0 fun vs h v h' e => ⟨0, ?_⟩
  unfold gBalN at e
  split at e
  case h_2 => exact (T.no_inv e).elim
  rename_i n m rw l
  obtain ⟨hd, e2⟩ := T.pre_inv e
  rw [T.run_of] at e2
  clear e
  rw [Bool.and_eq_true] at hd
  obtain ⟨rfl, rfl⟩ := of_decide_eq_true hd.1
  have hl : l.length = 4 := by have := (rates_len hd.2).1; omega
  refine Eq.trans ?_ e2
  rw [hl]
  exact baS_2 rw l hl hd.2
end Go.Proofs.Ytppdnhjcnjfppaa.Ab

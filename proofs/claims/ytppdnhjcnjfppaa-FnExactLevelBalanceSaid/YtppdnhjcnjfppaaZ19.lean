/- What the proof names: lemmas and words, merged by a program from its parts. No condition. -/
import Derived.Test.YtppdnhjcnjfppaaZ9
import Derived.Test.YtppdnhjcnjfppaaZ18
namespace Go.Proofs.Ytppdnhjcnjfppaa.Ab
set_option linter.unusedVariables false
set_option linter.unusedSimpArgs false
open Go
def tab_baS5 : Fns := tabT [(10, gRates), (11, gOut), (12, gSol 5), (13, gLsT)]
theorem tabok_baS5 : ∀ f, FnT Try.prog f (tab_baS5 f) := (tabT_cons (k := 10) ok_arS (tabT_cons (k := 11) ok_leS (tabT_cons (k := 12) ok_soS_5 (tabT_cons (k := 13) ok_l02List tabT_nil))))
theorem run_baS5 (N : Nat) (rw : Bool) (a : Nat → Nat) : run ty tab_baS5 ann0 N Try.f4 [.int .i64 5, .sl 0 0 25] [.at rw (.fl .f32 (rts 25 a))]
    = (match decide ((rts 25 a).length = 25 ∧ 25 < 2147483648) with | true => (match !(ratesB 5 (rts 25 a)) with | true => some (.tup [.a (.nil), .a (.bool false)], [.at rw (.fl .f32 (rts 25 a))]) | false => (match outOk 5 25 (rts 25 a) 0 with | true => (match outOk 5 25 (rts 25 a) 1 with | true => (match outOk 5 25 (rts 25 a) 2 with | true => (match outOk 5 25 (rts 25 a) 3 with | true => (match outOk 5 25 (rts 25 a) 4 with | true => (match solOk sizB 5 (mI 5 (rts 25 a)) with | true => (match decide ((solL sizB 5 (mI 5 (rts 25 a))).length = 5 ∧ 5 < 2147483648) with | true => (match (solL sizB 5 (mI 5 (rts 25 a))).all finB with | true => some (.tup [.a (.sl 1 0 5), .a (.bool true)], [.at rw (.fl .f32 (rts 25 a)), .at true (.fl .f32 (solL sizB 5 (mI 5 (rts 25 a))))]) | false => some (.tup [.a (.nil), .a (.bool false)], [.at rw (.fl .f32 (rts 25 a))])) | false => none) | false => some (.tup [.a (.nil), .a (.bool false)], [.at rw (.fl .f32 (rts 25 a))])) | false => none) | false => none) | false => none) | false => none) | false => none)) | false => none) := by
  kernel_rfl
theorem baS_5 (rw : Bool) (l : List Nat) (hl : l.length = 25) (hr : ratesB 5 l = true) : run ty tab_baS5 ann0 0 Try.f4 [.int .i64 5, .sl 0 0 25] [.at rw (.fl .f32 l)] = balR 5 rw l := by
  have o0 : outOk 5 25 l 0 = true := decide_eq_true ⟨hl, by decide, by decide, by decide, by decide, by decide⟩
  have o1 : outOk 5 25 l 1 = true := decide_eq_true ⟨hl, by decide, by decide, by decide, by decide, by decide⟩
  have o2 : outOk 5 25 l 2 = true := decide_eq_true ⟨hl, by decide, by decide, by decide, by decide, by decide⟩
  have o3 : outOk 5 25 l 3 = true := decide_eq_true ⟨hl, by decide, by decide, by decide, by decide, by decide⟩
  have o4 : outOk 5 25 l 4 = true := decide_eq_true ⟨hl, by decide, by decide, by decide, by decide, by decide⟩
  have h := run_baS5 0 rw (fun i => l.getD i 0)
  rw [rts_eq hl, decide_eq_true (show l.length = 25 ∧ 25 < 2147483648 from ⟨hl, by decide⟩), hr, o0, o1, o2, o3, o4, solOk_same, solL_same] at h
  refine h.trans ?_
  unfold balR balB
  have hL : (solL magB 5 (mI 5 l)).length = 5 := by unfold solL; exact bkL_len _
  generalize solL magB 5 (mI 5 l) = D at hL ⊢
  generalize solOk magB 5 (mI 5 l) = ok
  cases ok with
  | false => rfl
  | true =>
    rw [decide_eq_true (show D.length = 5 ∧ 5 < 2147483648 from ⟨hL, by decide⟩)]
    show _ = match D.all finB with | true => _ | false => _
    cases D.all finB <;> rfl
theorem okN_baS_5 : FnT Try.prog 4 (gBalN 5) := by
  refine fnT tabok_baS5 Try.func4 rfl rfl ann0 fun vs h v h' e => ⟨0, ?_⟩
  unfold gBalN at e
  split at e
  case h_2 => exact (T.no_inv e).elim
  rename_i n m rw l
  obtain ⟨hd, e2⟩ := T.pre_inv e
  rw [T.run_of] at e2
  clear e
  rw [Bool.and_eq_true] at hd
  obtain ⟨rfl, rfl⟩ := of_decide_eq_true hd.1
  have hl : l.length = 25 := by have := (rates_len hd.2).1; omega
  refine Eq.trans ?_ e2
  rw [hl]
  exact baS_5 rw l hl hd.2
end Go.Proofs.Ytppdnhjcnjfppaa.Ab

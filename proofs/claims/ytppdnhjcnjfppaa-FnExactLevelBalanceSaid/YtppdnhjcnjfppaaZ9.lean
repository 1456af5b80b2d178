/- What the proof names: lemmas and words, merged by a program from its parts. No condition. -/
import Derived.Test.YtppdnhjcnjfppaaZ3
import Derived.Test.YtppdnhjcnjfppaaZ4
import Derived.Test.YtppdnhjcnjfppaaZ5
import Derived.Test.YtppdnhjcnjfppaaZ6
import Derived.Test.YtppdnhjcnjfppaaZ7
import Derived.Test.YtppdnhjcnjfppaaZ8
import Derived.Test.YtppdnhjcnjfppaaZ2
import Derived.Laws.Externs
namespace Go.Proofs.Ytppdnhjcnjfppaa.Ab
set_option linter.unusedVariables false
set_option linter.unusedSimpArgs false
open Go
theorem baI_1 (rw : Bool) (l : List Nat) (hl : l.length = 1) (hr : ratesB 1 l = true) : run ty tab_baI an_baI 9 Try.f6 [.int .i64 1, .sl 0 0 1] [.at rw (.fl .f32 l)] = balR 1 rw l := by
  have o0 : outOk 1 1 l 0 = true := decide_eq_true ⟨hl, by decide, by decide, by decide, by decide, by decide⟩
  have h := run_baI_1 9 rw (fun i => l.getD i 0)
  rw [rts_eq hl, decide_eq_true (show l.length = 1 ∧ 1 < 2147483648 from ⟨hl, by decide⟩), hr] at h
  refine h.trans ?_
  refine Eq.trans (lo_baI_1_0 7 (ktO_baI 1 9 (kEnd Try.f6 1)) rw l _ (fun m => endr_baI_1 9 rw l m) (mI 1 l)) ?_
  unfold balR balB solL solM solOk
  show _ = (match ((sol magB 2 1 1 0 (mI 1 l)).isSome && (bkL 2 1 ((sol magB 2 1 1 0 (mI 1 l)).getD (mI 1 l)) 1).all finB) with | true => some (.tup [.a (.sl 1 0 1), .a (.bool true)], [.at rw (.fl .f32 l), .at true (.fl .f32 (bkL 2 1 ((sol magB 2 1 1 0 (mI 1 l)).getD (mI 1 l)) 1))]) | false => some (.tup [.a .nil, .a (.bool false)], [.at rw (.fl .f32 l)]) : Option (V × H))
  cases sol magB 2 1 1 0 (mI 1 l) with
  | none => rfl
  | some m' =>
    refine Eq.trans (end_baI_1 9 rw l m') ?_
    have hL : (bkL 2 1 m' 1).length = 1 := bkL_len _
    show _ = (match (bkL 2 1 m' 1).all finB with | true => some (.tup [.a (.sl 1 0 1), .a (.bool true)], [.at rw (.fl .f32 l), .at true (.fl .f32 (bkL 2 1 m' 1))]) | false => some (.tup [.a .nil, .a (.bool false)], [.at rw (.fl .f32 l)]) : Option (V × H))
    generalize bkL 2 1 m' 1 = D at hL ⊢
    rw [decide_eq_true (show D.length = 1 ∧ 1 < 2147483648 from ⟨hL, by decide⟩)]
    cases D.all finB <;> rfl
theorem okN_baI_1 : FnT Try.prog 6 (gBalN 1) := by
  refine fnT tabok_baI Try.func6 rfl rfl an_baI fun vs h v h' e => ⟨9, ?_⟩
  unfold gBalN at e
  split at e
  case h_2 => exact (T.no_inv e).elim
  rename_i n m rw l
  obtain ⟨hd, e2⟩ := T.pre_inv e
  rw [T.run_of] at e2
  clear e
  rw [Bool.and_eq_true] at hd
  obtain ⟨rfl, rfl⟩ := of_decide_eq_true hd.1
  have hl : l.length = 1 := by have := (rates_len hd.2).1; omega
  refine Eq.trans ?_ e2
  rw [hl]
  exact baI_1 rw l hl hd.2
theorem baI_2 (rw : Bool) (l : List Nat) (hl : l.length = 4) (hr : ratesB 2 l = true) : run ty tab_baI an_baI 9 Try.f6 [.int .i64 2, .sl 0 0 4] [.at rw (.fl .f32 l)] = balR 2 rw l := by
  have o0 : outOk 2 4 l 0 = true := decide_eq_true ⟨hl, by decide, by decide, by decide, by decide, by decide⟩
  have o1 : outOk 2 4 l 1 = true := decide_eq_true ⟨hl, by decide, by decide, by decide, by decide, by decide⟩
  have h := run_baI_2 9 rw (fun i => l.getD i 0)
  rw [rts_eq hl, decide_eq_true (show l.length = 4 ∧ 4 < 2147483648 from ⟨hl, by decide⟩), hr, o0] at h
  refine h.trans ?_
  refine Eq.trans (lo_baI_2_0 6 (ktO_baI 1 9 (kEnd Try.f6 1)) rw l _ (fun m => endr_baI_2 9 rw l m) (mI 2 l)) ?_
  unfold balR balB solL solM solOk
  show _ = (match ((sol magB 3 2 2 0 (mI 2 l)).isSome && (bkL 3 2 ((sol magB 3 2 2 0 (mI 2 l)).getD (mI 2 l)) 2).all finB) with | true => some (.tup [.a (.sl 1 0 2), .a (.bool true)], [.at rw (.fl .f32 l), .at true (.fl .f32 (bkL 3 2 ((sol magB 3 2 2 0 (mI 2 l)).getD (mI 2 l)) 2))]) | false => some (.tup [.a .nil, .a (.bool false)], [.at rw (.fl .f32 l)]) : Option (V × H))
  cases sol magB 3 2 2 0 (mI 2 l) with
  | none => rfl
  | some m' =>
    refine Eq.trans (end_baI_2 9 rw l m') ?_
    have hL : (bkL 3 2 m' 2).length = 2 := bkL_len _
    show _ = (match (bkL 3 2 m' 2).all finB with | true => some (.tup [.a (.sl 1 0 2), .a (.bool true)], [.at rw (.fl .f32 l), .at true (.fl .f32 (bkL 3 2 m' 2))]) | false => some (.tup [.a .nil, .a (.bool false)], [.at rw (.fl .f32 l)]) : Option (V × H))
    generalize bkL 3 2 m' 2 = D at hL ⊢
    rw [decide_eq_true (show D.length = 2 ∧ 2 < 2147483648 from ⟨hL, by decide⟩)]
    cases D.all finB <;> rfl
theorem okN_baI_2 : FnT Try.prog 6 (gBalN 2) := by
  refine fnT tabok_baI Try.func6 rfl rfl an_baI fun vs h v h' e => ⟨9, ?_⟩
  unfold gBalN at e
  split at e
  case h_2 => exact (T.no_inv e).elim
  rename_i n m rw l
  obtain ⟨hd, e2⟩ := T.pre_inv e
  rw [T.run_of] at e2
  clear e
  rw [Bool.and_eq_true] at hd
  obtain ⟨rfl, rfl⟩ := of_decide_eq_true hd.1
  have hl : l.length = 4 := by have := (rates_len hd.2).1; omega
  refine Eq.trans ?_ e2
  rw [hl]
  exact baI_2 rw l hl hd.2
theorem baI_3 (rw : Bool) (l : List Nat) (hl : l.length = 9) (hr : ratesB 3 l = true) : run ty tab_baI an_baI 9 Try.f6 [.int .i64 3, .sl 0 0 9] [.at rw (.fl .f32 l)] = balR 3 rw l := by
  have o0 : outOk 3 9 l 0 = true := decide_eq_true ⟨hl, by decide, by decide, by decide, by decide, by decide⟩
  have o1 : outOk 3 9 l 1 = true := decide_eq_true ⟨hl, by decide, by decide, by decide, by decide, by decide⟩
  have o2 : outOk 3 9 l 2 = true := decide_eq_true ⟨hl, by decide, by decide, by decide, by decide, by decide⟩
  have h := run_baI_3 9 rw (fun i => l.getD i 0)
  rw [rts_eq hl, decide_eq_true (show l.length = 9 ∧ 9 < 2147483648 from ⟨hl, by decide⟩), hr, o0, o1] at h
  refine h.trans ?_
  refine Eq.trans (lo_baI_3_0 5 (ktO_baI 1 9 (kEnd Try.f6 1)) rw l _ (fun m => endr_baI_3 9 rw l m) (mI 3 l)) ?_
  unfold balR balB solL solM solOk
  show _ = (match ((sol magB 4 3 3 0 (mI 3 l)).isSome && (bkL 4 3 ((sol magB 4 3 3 0 (mI 3 l)).getD (mI 3 l)) 3).all finB) with | true => some (.tup [.a (.sl 1 0 3), .a (.bool true)], [.at rw (.fl .f32 l), .at true (.fl .f32 (bkL 4 3 ((sol magB 4 3 3 0 (mI 3 l)).getD (mI 3 l)) 3))]) | false => some (.tup [.a .nil, .a (.bool false)], [.at rw (.fl .f32 l)]) : Option (V × H))
  cases sol magB 4 3 3 0 (mI 3 l) with
  | none => rfl
  | some m' =>
    refine Eq.trans (end_baI_3 9 rw l m') ?_
    have hL : (bkL 4 3 m' 3).length = 3 := bkL_len _
    show _ = (match (bkL 4 3 m' 3).all finB with | true => some (.tup [.a (.sl 1 0 3), .a (.bool true)], [.at rw (.fl .f32 l), .at true (.fl .f32 (bkL 4 3 m' 3))]) | false => some (.tup [.a .nil, .a (.bool false)], [.at rw (.fl .f32 l)]) : Option (V × H))
    generalize bkL 4 3 m' 3 = D at hL ⊢
    rw [decide_eq_true (show D.length = 3 ∧ 3 < 2147483648 from ⟨hL, by decide⟩)]
    cases D.all finB <;> rfl
theorem okN_baI_3 : FnT Try.prog 6 (gBalN 3) := by
  refine fnT tabok_baI Try.func6 rfl rfl an_baI fun vs h v h' e => ⟨9, ?_⟩
  unfold gBalN at e
  split at e
  case h_2 => exact (T.no_inv e).elim
  rename_i n m rw l
  obtain ⟨hd, e2⟩ := T.pre_inv e
  rw [T.run_of] at e2
  clear e
  rw [Bool.and_eq_true] at hd
  obtain ⟨rfl, rfl⟩ := of_decide_eq_true hd.1
  have hl : l.length = 9 := by have := (rates_len hd.2).1; omega
  refine Eq.trans ?_ e2
  rw [hl]
  exact baI_3 rw l hl hd.2
theorem baI_4 (rw : Bool) (l : List Nat) (hl : l.length = 16) (hr : ratesB 4 l = true) : run ty tab_baI an_baI 9 Try.f6 [.int .i64 4, .sl 0 0 16] [.at rw (.fl .f32 l)] = balR 4 rw l := by
  have o0 : outOk 4 16 l 0 = true := decide_eq_true ⟨hl, by decide, by decide, by decide, by decide, by decide⟩
  have o1 : outOk 4 16 l 1 = true := decide_eq_true ⟨hl, by decide, by decide, by decide, by decide, by decide⟩
  have o2 : outOk 4 16 l 2 = true := decide_eq_true ⟨hl, by decide, by decide, by decide, by decide, by decide⟩
  have o3 : outOk 4 16 l 3 = true := decide_eq_true ⟨hl, by decide, by decide, by decide, by decide, by decide⟩
  have h := run_baI_4 9 rw (fun i => l.getD i 0)
  rw [rts_eq hl, decide_eq_true (show l.length = 16 ∧ 16 < 2147483648 from ⟨hl, by decide⟩), hr, o0, o1, o2] at h
  refine h.trans ?_
  refine Eq.trans (lo_baI_4_0 4 (ktO_baI 1 9 (kEnd Try.f6 1)) rw l _ (fun m => endr_baI_4 9 rw l m) (mI 4 l)) ?_
  unfold balR balB solL solM solOk
  show _ = (match ((sol magB 5 4 4 0 (mI 4 l)).isSome && (bkL 5 4 ((sol magB 5 4 4 0 (mI 4 l)).getD (mI 4 l)) 4).all finB) with | true => some (.tup [.a (.sl 1 0 4), .a (.bool true)], [.at rw (.fl .f32 l), .at true (.fl .f32 (bkL 5 4 ((sol magB 5 4 4 0 (mI 4 l)).getD (mI 4 l)) 4))]) | false => some (.tup [.a .nil, .a (.bool false)], [.at rw (.fl .f32 l)]) : Option (V × H))
  cases sol magB 5 4 4 0 (mI 4 l) with
  | none => rfl
  | some m' =>
    refine Eq.trans (end_baI_4 9 rw l m') ?_
    have hL : (bkL 5 4 m' 4).length = 4 := bkL_len _
    show _ = (match (bkL 5 4 m' 4).all finB with | true => some (.tup [.a (.sl 1 0 4), .a (.bool true)], [.at rw (.fl .f32 l), .at true (.fl .f32 (bkL 5 4 m' 4))]) | false => some (.tup [.a .nil, .a (.bool false)], [.at rw (.fl .f32 l)]) : Option (V × H))
    generalize bkL 5 4 m' 4 = D at hL ⊢
    rw [decide_eq_true (show D.length = 4 ∧ 4 < 2147483648 from ⟨hL, by decide⟩)]
    cases D.all finB <;> rfl
theorem okN_baI_4 : FnT Try.prog 6 (gBalN 4) := by
  refine fnT tabok_baI Try.func6 rfl rfl an_baI fun vs h v h' e => ⟨9, ?_⟩
  unfold gBalN at e
  split at e
  case h_2 => exact (T.no_inv e).elim
  rename_i n m rw l
  obtain ⟨hd, e2⟩ := T.pre_inv e
  rw [T.run_of] at e2
  clear e
  rw [Bool.and_eq_true] at hd
  obtain ⟨rfl, rfl⟩ := of_decide_eq_true hd.1
  have hl : l.length = 16 := by have := (rates_len hd.2).1; omega
  refine Eq.trans ?_ e2
  rw [hl]
  exact baI_4 rw l hl hd.2
theorem baI_5 (rw : Bool) (l : List Nat) (hl : l.length = 25) (hr : ratesB 5 l = true) : run ty tab_baI an_baI 9 Try.f6 [.int .i64 5, .sl 0 0 25] [.at rw (.fl .f32 l)] = balR 5 rw l := by
  have o0 : outOk 5 25 l 0 = true := decide_eq_true ⟨hl, by decide, by decide, by decide, by decide, by decide⟩
  have o1 : outOk 5 25 l 1 = true := decide_eq_true ⟨hl, by decide, by decide, by decide, by decide, by decide⟩
  have o2 : outOk 5 25 l 2 = true := decide_eq_true ⟨hl, by decide, by decide, by decide, by decide, by decide⟩
  have o3 : outOk 5 25 l 3 = true := decide_eq_true ⟨hl, by decide, by decide, by decide, by decide, by decide⟩
  have o4 : outOk 5 25 l 4 = true := decide_eq_true ⟨hl, by decide, by decide, by decide, by decide, by decide⟩
  have h := run_baI_5 9 rw (fun i => l.getD i 0)
  rw [rts_eq hl, decide_eq_true (show l.length = 25 ∧ 25 < 2147483648 from ⟨hl, by decide⟩), hr, o0, o1, o2, o3] at h
  refine h.trans ?_
  refine Eq.trans (lo_baI_5_0 3 (ktO_baI 1 9 (kEnd Try.f6 1)) rw l _ (fun m => endr_baI_5 9 rw l m) (mI 5 l)) ?_
  unfold balR balB solL solM solOk
  show _ = (match ((sol magB 6 5 5 0 (mI 5 l)).isSome && (bkL 6 5 ((sol magB 6 5 5 0 (mI 5 l)).getD (mI 5 l)) 5).all finB) with | true => some (.tup [.a (.sl 1 0 5), .a (.bool true)], [.at rw (.fl .f32 l), .at true (.fl .f32 (bkL 6 5 ((sol magB 6 5 5 0 (mI 5 l)).getD (mI 5 l)) 5))]) | false => some (.tup [.a .nil, .a (.bool false)], [.at rw (.fl .f32 l)]) : Option (V × H))
  cases sol magB 6 5 5 0 (mI 5 l) with
  | none => rfl
  | some m' =>
    refine Eq.trans (end_baI_5 9 rw l m') ?_
    have hL : (bkL 6 5 m' 5).length = 5 := bkL_len _
    show _ = (match (bkL 6 5 m' 5).all finB with | true => some (.tup [.a (.sl 1 0 5), .a (.bool true)], [.at rw (.fl .f32 l), .at true (.fl .f32 (bkL 6 5 m' 5))]) | false => some (.tup [.a .nil, .a (.bool false)], [.at rw (.fl .f32 l)]) : Option (V × H))
    generalize bkL 6 5 m' 5 = D at hL ⊢
    rw [decide_eq_true (show D.length = 5 ∧ 5 < 2147483648 from ⟨hL, by decide⟩)]
    cases D.all finB <;> rfl
theorem okN_baI_5 : FnT Try.prog 6 (gBalN 5) := by
  refine fnT tabok_baI Try.func6 rfl rfl an_baI fun vs h v h' e => ⟨9, ?_⟩
  unfold gBalN at e
  split at e
  case h_2 => exact (T.no_inv e).elim
  rename_i n m rw l
  obtain ⟨hd, e2⟩ := T.pre_inv e
  rw [T.run_of] at e2
  clear e
  rw [Bool.and_eq_true] at hd
  obtain ⟨rfl, rfl⟩ := of_decide_eq_true hd.1
  have hl : l.length = 25 := by have := (rates_len hd.2).1; omega
  refine Eq.trans ?_ e2
  rw [hl]
  exact baI_5 rw l hl hd.2
theorem baI_6 (rw : Bool) (l : List Nat) (hl : l.length = 36) (hr : ratesB 6 l = true) : run ty tab_baI an_baI 9 Try.f6 [.int .i64 6, .sl 0 0 36] [.at rw (.fl .f32 l)] = balR 6 rw l := by
  have o0 : outOk 6 36 l 0 = true := decide_eq_true ⟨hl, by decide, by decide, by decide, by decide, by decide⟩
  have o1 : outOk 6 36 l 1 = true := decide_eq_true ⟨hl, by decide, by decide, by decide, by decide, by decide⟩
  have o2 : outOk 6 36 l 2 = true := decide_eq_true ⟨hl, by decide, by decide, by decide, by decide, by decide⟩
  have o3 : outOk 6 36 l 3 = true := decide_eq_true ⟨hl, by decide, by decide, by decide, by decide, by decide⟩
  have o4 : outOk 6 36 l 4 = true := decide_eq_true ⟨hl, by decide, by decide, by decide, by decide, by decide⟩
  have o5 : outOk 6 36 l 5 = true := decide_eq_true ⟨hl, by decide, by decide, by decide, by decide, by decide⟩
  have h := run_baI_6 9 rw (fun i => l.getD i 0)
  rw [rts_eq hl, decide_eq_true (show l.length = 36 ∧ 36 < 2147483648 from ⟨hl, by decide⟩), hr, o0, o1, o2, o3, o4] at h
  refine h.trans ?_
  refine Eq.trans (lo_baI_6_0 2 (ktO_baI 1 9 (kEnd Try.f6 1)) rw l _ (fun m => endr_baI_6 9 rw l m) (mI 6 l)) ?_
  unfold balR balB solL solM solOk
  show _ = (match ((sol magB 7 6 6 0 (mI 6 l)).isSome && (bkL 7 6 ((sol magB 7 6 6 0 (mI 6 l)).getD (mI 6 l)) 6).all finB) with | true => some (.tup [.a (.sl 1 0 6), .a (.bool true)], [.at rw (.fl .f32 l), .at true (.fl .f32 (bkL 7 6 ((sol magB 7 6 6 0 (mI 6 l)).getD (mI 6 l)) 6))]) | false => some (.tup [.a .nil, .a (.bool false)], [.at rw (.fl .f32 l)]) : Option (V × H))
  cases sol magB 7 6 6 0 (mI 6 l) with
  | none => rfl
  | some m' =>
    refine Eq.trans (end_baI_6 9 rw l m') ?_
    have hL : (bkL 7 6 m' 6).length = 6 := bkL_len _
    show _ = (match (bkL 7 6 m' 6).all finB with | true => some (.tup [.a (.sl 1 0 6), .a (.bool true)], [.at rw (.fl .f32 l), .at true (.fl .f32 (bkL 7 6 m' 6))]) | false => some (.tup [.a .nil, .a (.bool false)], [.at rw (.fl .f32 l)]) : Option (V × H))
    generalize bkL 7 6 m' 6 = D at hL ⊢
    rw [decide_eq_true (show D.length = 6 ∧ 6 < 2147483648 from ⟨hL, by decide⟩)]
    cases D.all finB <;> rfl
theorem okN_baI_6 : FnT Try.prog 6 (gBalN 6) := by
  refine fnT tabok_baI Try.func6 rfl rfl an_baI fun vs h v h' e => ⟨9, ?_⟩
  unfold gBalN at e
  split at e
  case h_2 => exact (T.no_inv e).elim
  rename_i n m rw l
  obtain ⟨hd, e2⟩ := T.pre_inv e
  rw [T.run_of] at e2
  clear e
  rw [Bool.and_eq_true] at hd
  obtain ⟨rfl, rfl⟩ := of_decide_eq_true hd.1
  have hl : l.length = 36 := by have := (rates_len hd.2).1; omega
  refine Eq.trans ?_ e2
  rw [hl]
  exact baI_6 rw l hl hd.2
def tab_baIF : Fns := tabT [(14, gRatesF)]
theorem tabok_baIF : ∀ f, FnT Try.prog f (tab_baIF f) := (tabT_cons (k := 14) (ratesF ok_arI) tabT_nil)
theorem run_baIF (N : Nat) (n : Int) (m : Nat) (rw : Bool) (l : List Nat) : run ty tab_baIF ann0 N Try.f6 [.int .i64 n, .sl 0 0 m] [.at rw (.fl .f32 l)]
    = (match decide (l.length = m ∧ m < 2147483648) with | true => (match ratesB n l with | true => none | false => some (.tup [.a (.nil), .a (.bool false)], [.at rw (.fl .f32 l)])) | false => none) := by
  kernel_rfl
theorem ok_baIF : FnT Try.prog 6 gBalF := by
  refine fnT tabok_baIF Try.func6 rfl rfl ann0 fun vs h v h' e => ⟨0, ?_⟩
  unfold gBalF at e
  split at e
  case h_2 => exact (T.no_inv e).elim
  rename_i n m rw l
  obtain ⟨hd, e⟩ := T.pre_inv e
  rcases T.ite_inv e with ⟨_, e⟩ | ⟨hr, e⟩
  · exact (T.no_inv e).elim
  obtain ⟨rfl, rfl⟩ := T.ret_inv e
  refine Eq.trans (run_baIF 0 _ _ _ _) ?_
  rw [hd, hr]
  all_goals rfl
theorem ok_baI : FnT Try.prog 6 gBal := bal_of ok_baIF okN_baI_1 okN_baI_2 okN_baI_3 okN_baI_4 okN_baI_5 okN_baI_6
end Go.Proofs.Ytppdnhjcnjfppaa.Ab

namespace Go.Proofs.Ytppdnhjcnjfppaa.Ab
set_option linter.unusedVariables false
set_option linter.unusedSimpArgs false
open Go
def rd32 (s : Bool) (r : Nat) : Ieee.Datum := if r < 8388608 then .number s r (-149) else if r < 2139095040 then .number s (8388608 + r % 8388608) (-149 + ((r / 8388608 - 1 : Nat) : Int)) else if r = 2139095040 then .infinity s else .nan s (r - 2139095040)
theorem rd_read (x : Nat) : Ieee.single.read x = rd32 (x / 2147483648 % 2 == 1) (x % 2147483648) := by
  unfold Ieee.Format.read rd32
  have c1 : Ieee.single.signWeight = 2147483648 := by decide
  have c2 : Ieee.single.binade = 8388608 := by decide
  have c3 : Ieee.single.infRung = 2139095040 := by decide
  have c4 : Ieee.single.leastPlace = -149 := by decide
  simp only [c1, c2, c3, c4]
theorem rd_word (s : Bool) {r : Nat} (hr : r < 2147483648) : Ieee.single.read (Ieee.single.word s r) = rd32 s r := by
  rw [rd_read]
  unfold Ieee.Format.word
  have c1 : Ieee.single.signWeight = 2147483648 := by decide
  rw [c1]
  have hm : (if s = true then 2147483648 + r else r) % 2147483648 = r := by split <;> omega
  have hs : ((if s = true then 2147483648 + r else r) / 2147483648 % 2 == 1) = s := by
    cases s
    · rw [if_neg (by decide), Nat.div_eq_of_lt (by omega)]; rfl
    · rw [if_pos rfl, Nat.add_div_left _ (by decide), Nat.div_eq_of_lt (by omega)]; rfl
  rw [hm, hs]
theorem rd_neg (x : Nat) : Ieee.single.read (Op.negFloat .f32 x) = rd32 (!(x / 2147483648 % 2 == 1)) (x % 2147483648) := by
  rw [rd_read]
  have h1 : Op.negFloat .f32 x % 2147483648 = x % 2147483648 := by
    unfold Op.negFloat
    rw [show (2147483648 : Nat) = 2 ^ 31 by decide, Nat.xor_mod_two_pow]
    show x % 2 ^ 31 ^^^ 2 ^ 31 % 2 ^ 31 = _
    simp
  have h2 : (Op.negFloat .f32 x / 2147483648 % 2 == 1) = !(x / 2147483648 % 2 == 1) := by
    have e1 : ∀ y : Nat, (y / 2147483648 % 2 == 1) = y.testBit 31 := by
      intro y
      rw [Nat.testBit_eq_decide_div_mod_eq, show (2 : Nat) ^ 31 = 2147483648 by decide]
      by_cases hy : y / 2147483648 % 2 = 1 <;> simp [hy]
    rw [e1, e1]
    unfold Op.negFloat
    rw [Nat.testBit_xor]
    have h63 : Nat.testBit (2 ^ (FloatKind.f32.format.exponentBits + FloatKind.f32.format.fractionBits)) 31 = true := by decide +kernel
    rw [h63]
    cases x.testBit 31 <;> rfl
  rw [h1, h2]
theorem cut_full (neg : Bool) (m k d : Nat) (hd : d ≤ k) (hm : m ≠ 0) : Ieee.Toward.even.cut neg (m * 2 ^ k) d = m * 2 ^ (k - d) := by
  unfold Ieee.Toward.cut
  simp only [Nat.one_shiftLeft]
  have hlog : k ≤ (m * 2 ^ k).log2 := by
    rw [Nat.le_log2 (Nat.mul_ne_zero hm (Nat.ne_of_gt (Nat.pow_pos (by decide))))]
    exact Nat.le_mul_of_pos_left _ (by omega)
  rw [Nat.min_eq_left (by omega)]
  have e : m * 2 ^ k = m * 2 ^ (k - d) * 2 ^ d := by rw [Nat.mul_assoc, ← Nat.pow_add, Nat.sub_add_cancel hd]
  have hpos : 0 < 2 ^ d := Nat.pow_pos (by decide)
  rw [e, Nat.mul_div_cancel _ hpos, Nat.mul_mod_left]
  have e1 : decide (2 ^ d < 2 * 0) = false := decide_eq_false (by omega)
  have e2 : (2 ^ d == 2 * 0) = false := by simp
  simp [e1, e2]
theorem log_mul {m : Nat} (k : Nat) (hm : m ≠ 0) : (m * 2 ^ k).log2 = m.log2 + k := by
  have hne : m * 2 ^ k ≠ 0 := Nat.mul_ne_zero hm (Nat.ne_of_gt (Nat.pow_pos (by decide)))
  apply Nat.le_antisymm
  · have h1 : m < 2 ^ (m.log2 + 1) := Nat.lt_log2_self
    have h2 : m * 2 ^ k < 2 ^ (m.log2 + k + 1) := by
      rw [show m.log2 + k + 1 = (m.log2 + 1) + k by omega, Nat.pow_add]
      exact Nat.mul_lt_mul_of_pos_right h1 (Nat.pow_pos (by decide))
    have := (Nat.log2_lt hne).2 h2
    omega
  · rw [Nat.le_log2 hne, Nat.pow_add]
    exact Nat.mul_le_mul_right _ (Nat.log2_self_le hm)
theorem near_own (s : Bool) {m k : Nat} (hm : m ≠ 0) (h24 : m < 16777216) (hk : k ≤ 253) (hn : k = 0 ∨ 8388608 ≤ m) :
    Ieee.single.nearest s (m * 2 ^ k) (-149) = Ieee.single.word s (k * 8388608 + m) := by
  have hne : m * 2 ^ k ≠ 0 := Nat.mul_ne_zero hm (Nat.ne_of_gt (Nat.pow_pos (by decide)))
  unfold Ieee.Format.nearest
  rw [if_neg hne, log_mul k hm]
  have c2 : Ieee.single.binade = 8388608 := by decide
  have c3 : Ieee.single.infRung = 2139095040 := by decide
  have c4 : Ieee.single.leastPlace = -149 := by decide
  have c5 : Ieee.single.fractionBits = 23 := by decide
  rw [c2, c3, c4, c5]
  dsimp only
  have hL : m.log2 < 24 := (Nat.log2_lt hm).2 h24
  have hlast : max ((-149 : Int) + ((m.log2 + k : Nat) : Int) - ((23 : Nat) : Int)) (-149) = -149 + (k : Int) := by
    rcases hn with rfl | h
    · omega
    · have : 23 ≤ m.log2 := (Nat.le_log2 hm).2 (by exact h)
      omega
  rw [hlast, show ((-149 : Int) - (-149 + (k : Int))).toNat = 0 by omega, show ((-149 : Int) + (k : Int) - -149).toNat = k by omega, Nat.shiftLeft_zero, cut_full s m k k (Nat.le_refl _) hm, Nat.sub_self, Nat.pow_zero, Nat.mul_one]
  rw [Nat.min_eq_left (by omega)]
theorem zero_read : Ieee.single.read 0 = .number false 0 (-149) := by decide
theorem sub0_read {x : Nat} (h0 : x % 2147483648 ≠ 0) (hi : x % 2147483648 ≤ 2139095040) : Ieee.single.read (fop .sub .f32 0 x) = rd32 (!(x / 2147483648 % 2 == 1)) (x % 2147483648) := by
  show Ieee.single.read ((((Ieee.single.read 0).sum (Ieee.single.read x).opposite).map Ieee.single.write).getD (qnan .f32)) = _
  rw [zero_read, rd_read x]
  generalize (x / 2147483648 % 2 == 1) = s
  generalize x % 2147483648 = r at h0 hi
  have fin : ∀ m k : Nat, m ≠ 0 → m < 16777216 → k ≤ 253 → (k = 0 ∨ 8388608 ≤ m) → k * 8388608 + m = r → rd32 s r = .number s m (-149 + (k : Int)) →
      Ieee.single.read ((((Ieee.Datum.number false 0 (-149)).sum (rd32 s r).opposite).map Ieee.single.write).getD (qnan .f32)) = rd32 (!s) r := by
    intro m k hm h24 hk hn hr e
    rw [e]
    unfold Ieee.Datum.opposite Ieee.Datum.sum
    dsimp only
    have hb : min (-149 : Int) (-149 + (k : Int)) = -149 := by omega
    rw [hb, show ((-149 : Int) + (k : Int) - -149).toNat = k by omega]
    have hz : Ieee.signed false 0 ((-149 : Int) - -149).toNat = 0 := by decide
    rw [hz, Int.zero_add]
    have hne : m * 2 ^ k ≠ 0 := Nat.mul_ne_zero hm (Nat.ne_of_gt (Nat.pow_pos (by decide)))
    have hsg : Ieee.signed (!s) m k = if (!s) = true then -((m * 2 ^ k : Nat) : Int) else ((m * 2 ^ k : Nat) : Int) := by unfold Ieee.signed; rw [Nat.shiftLeft_eq]
    have hne2 : ¬ Ieee.signed (!s) m k = 0 := by
      rw [hsg]
      generalize m * 2 ^ k = q at hne
      split <;> omega
    rw [if_neg hne2]
    have hab : (Ieee.signed (!s) m k).natAbs = m * 2 ^ k := by
      rw [hsg]
      generalize m * 2 ^ k = q
      split <;> omega
    have hsn : decide (Ieee.signed (!s) m k < 0) = !s := by
      rw [hsg]
      generalize m * 2 ^ k = q at hne
      cases s
      · exact decide_eq_true (by simp; omega)
      · exact decide_eq_false (by simp)
    rw [hab]
    show Ieee.single.read (Ieee.single.nearest (decide (Ieee.signed (!s) m k < 0)) (m * 2 ^ k) (-149)) = _
    rw [hsn, near_own (!s) hm h24 hk hn, hr]
    exact rd_word (!s) (by omega)
  by_cases h1 : r < 8388608
  · refine fin r 0 h0 (by omega) (by omega) (.inl rfl) (by omega) ?_
    unfold rd32
    rw [if_pos h1]
    rfl
  · by_cases h2 : r < 2139095040
    · refine fin (8388608 + r % 8388608) (r / 8388608 - 1) (by omega) (by omega) (by omega) (.inr (by omega)) (by omega) ?_
      unfold rd32
      rw [if_neg h1, if_pos h2]
    · have h3 : r = 2139095040 := by omega
      subst h3
      have e : ∀ t : Bool, rd32 t 2139095040 = .infinity t := fun t => by unfold rd32; rw [if_neg (by decide), if_neg (by decide), if_pos rfl]
      rw [e s, e (!s)]
      cases s <;> decide
def magC (x : Nat) : Nat := match ltB x 0 with | true => fneg .f32 x | false => x
def sizC (x : Nat) : Nat := match ltB x 0 || eqB x 0 with | true => fop .sub .f32 0 x | false => x
def Alike (x y : Nat) : Prop := ∀ z, FloatKind.f32.format.order x z = FloatKind.f32.format.order y z ∧ FloatKind.f32.format.order z x = FloatKind.f32.format.order z y
theorem alike_read {x y : Nat} (h : Ieee.single.read x = Ieee.single.read y) : Alike x y := fun z => by
  show (Ieee.single.read x).order (Ieee.single.read z) = (Ieee.single.read y).order (Ieee.single.read z) ∧ (Ieee.single.read z).order (Ieee.single.read x) = (Ieee.single.read z).order (Ieee.single.read y)
  rw [h]
  exact ⟨rfl, rfl⟩
theorem signed0 (s : Bool) (k : Nat) : Ieee.signed s 0 k = 0 := by unfold Ieee.signed; cases s <;> simp
theorem alike_zero {x y : Nat} {s t : Bool} (hx : Ieee.single.read x = .number s 0 (-149)) (hy : Ieee.single.read y = .number t 0 (-149)) : Alike x y := fun z => by
  show (Ieee.single.read x).order (Ieee.single.read z) = (Ieee.single.read y).order (Ieee.single.read z) ∧ (Ieee.single.read z).order (Ieee.single.read x) = (Ieee.single.read z).order (Ieee.single.read y)
  rw [hx, hy]
  cases Ieee.single.read z with
  | nan a b => exact ⟨rfl, rfl⟩
  | infinity a => exact ⟨rfl, rfl⟩
  | number a b c =>
    unfold Ieee.Datum.order
    dsimp only
    simp only [signed0, and_self]
theorem ltB_read {x : Nat} : ltB x 0 = ((Ieee.single.read x).order (.number false 0 (-149)) == some .lt) := by rw [← zero_read]; rfl
theorem eqB_read {x : Nat} : eqB x 0 = ((Ieee.single.read x).order (.number false 0 (-149)) == some .eq) := by rw [← zero_read]; rfl
theorem fneg_read {x : Nat} (hn : x % 2147483648 ≤ 2139095040) : Ieee.single.read (fneg .f32 x) = rd32 (!(x / 2147483648 % 2 == 1)) (x % 2147483648) := by
  unfold fneg
  have h := rd_neg x
  rw [canon_of, h]
  show (Ieee.single.read (Op.negFloat .f32 x)).isNaN = false
  rw [h]
  unfold rd32
  split
  · rfl
  · split
    · rfl
    · rw [if_pos (by omega)]; rfl
theorem siz_mag (x : Nat) : Alike (sizC x) (magC x) := by
  have hr := rd_read x
  unfold sizC magC
  rw [ltB_read, eqB_read]
  by_cases hz : x % 2147483648 = 0
  · -- a zero
    have h0 : Ieee.single.read x = .number (x / 2147483648 % 2 == 1) 0 (-149) := by rw [hr, hz]; rfl
    have ho : (Ieee.single.read x).order (.number false 0 (-149)) = some .eq := by
      rw [h0]
      unfold Ieee.Datum.order
      dsimp only
      rw [signed0, signed0]
      rfl
    rw [ho]
    show Alike (fop .sub .f32 0 x) x
    refine alike_zero (s := false) ?_ h0
    show Ieee.single.read ((((Ieee.single.read 0).sum (Ieee.single.read x).opposite).map Ieee.single.write).getD (qnan .f32)) = _
    rw [zero_read, h0]
    cases (x / 2147483648 % 2 == 1) <;> decide
  · by_cases hn : x % 2147483648 ≤ 2139095040
    · have hs := sub0_read hz hn
      have hg := fneg_read hn
      cases hl : ((Ieee.single.read x).order (.number false 0 (-149)) == some .lt) with
      | true => exact alike_read (hs.trans hg.symm)
      | false =>
        cases he : ((Ieee.single.read x).order (.number false 0 (-149)) == some .eq) with
        | false => exact fun z => ⟨rfl, rfl⟩
        | true =>
          exfalso
          rw [hr] at he
          generalize (x / 2147483648 % 2 == 1) = s at he
          generalize x % 2147483648 = r at he hz hn
          have num : ∀ m e, m ≠ 0 → ((Ieee.Datum.number s m e).order (.number false 0 (-149)) == some .eq) = true → False := by
            intro m e hm h
            unfold Ieee.Datum.order at h
            dsimp only at h
            rw [signed0] at h
            have h := Option.some.inj (eq_of_beq h)
            have h := Int.compare_eq_eq.1 h
            unfold Ieee.signed at h
            rw [Nat.shiftLeft_eq] at h
            have hne : m * 2 ^ (e - min e (-149)).toNat ≠ 0 := Nat.mul_ne_zero hm (Nat.ne_of_gt (Nat.pow_pos (by decide)))
            generalize m * 2 ^ (e - min e (-149)).toNat = q at h hne
            split at h <;> omega
          unfold rd32 at he
          split at he
          · exact num _ _ hz he
          · split at he
            · exact num _ _ (by omega) he
            · rw [if_pos (by omega)] at he
              cases s <;> cases he
    · -- not a number
      have h0 : Ieee.single.read x = .nan (x / 2147483648 % 2 == 1) (x % 2147483648 - 2139095040) := by
        rw [hr]
        unfold rd32
        rw [if_neg (by omega), if_neg (by omega), if_neg (by omega)]
      rw [h0]
      exact fun z => ⟨rfl, rfl⟩
theorem gt_siz (x y : Nat) : gtB (sizC x) (sizC y) = gtB (magC x) (magC y) := by
  unfold gtB
  rw [(siz_mag x _).1, (siz_mag y _).2]
end Go.Proofs.Ytppdnhjcnjfppaa.Ab

namespace Go.Proofs.Ytppdnhjcnjfppaa.Ab
set_option linter.unusedVariables false
set_option linter.unusedSimpArgs false
open Go
theorem gt_mags (x y : Nat) : gtB (sizB x) (sizB y) = gtB (magB x) (magB y) := gt_siz x y
theorem seaV_same {w k : Nat} {m : Nat → Nat} : ∀ t i a, seaV sizB w k m t i a = seaV magB w k m t i a
  | 0, _, _ => rfl
  | t + 1, i, a => by
    unfold seaV
    rw [gt_mags]
    cases gtB (magB (m (w * i + k))) (magB (m (w * a + k)))
    · exact seaV_same t (i + 1) a
    · exact seaV_same t (i + 1) i
theorem sol_same {w n : Nat} : ∀ t k m, sol sizB w n t k m = sol magB w n t k m
  | 0, _, _ => rfl
  | t + 1, k, m => by
    unfold sol
    have h : bestM sizB w n k m = bestM magB w n k m := by unfold bestM; rw [seaV_same]
    rw [h]
    cases eqB (bestM magB w n k m (w * k + k)) 0
    · exact sol_same t (k + 1) _
    · rfl
theorem solOk_same (n : Nat) (m : Nat → Nat) : solOk sizB n m = solOk magB n m := by unfold solOk; rw [sol_same]
theorem solL_same (n : Nat) (m : Nat → Nat) : solL sizB n m = solL magB n m := by unfold solL solM; rw [sol_same]
end Go.Proofs.Ytppdnhjcnjfppaa.Ab

namespace Go.Proofs.Ytppdnhjcnjfppaa.Ab
set_option linter.unusedVariables false
set_option linter.unusedSimpArgs false
open Go
def an_soS : Ann := ⟨fun r => if r = 3 then some ([0, 1, 6, 7], [0, 1, 4, 5, 6]) else if r = 7 then some ([0, 1, 6, 7, 8, 9], [0, 1, 6, 7, 8]) else if r = 20 then some ([0, 1, 6, 7, 12], [0, 1, 6, 7]) else none, fun _ _ => .quiet⟩
def tab_soS : Fns := tabT [(21, gSiz)]
theorem tabok_soS : ∀ f, FnT Try.prog f (tab_soS f) := (tabT_cons (k := 21) ok_siz tabT_nil)
abbrev kpO_soS : Option (List Nat × List Nat) := some ([0, 1, 6, 7], [0, 1, 4, 5, 6])
noncomputable def lpO_soS {R : Type} (b N M : Nat) (s : St) (K : X → St → Option R) : Option R := loopH b kpO_soS (fun st K => exec ty tab_soS an_soS N b (atOf [true, true, false, true, false, false] Try.f12) st K) M s K
noncomputable def bk_soS {R : Type} (b N M : Nat) (K : X → St → Option R) : X → St → Option R := fun x st => match x with | .norm => tidyK b (kpO_soS.map (·.1)) st fun st => lpO_soS b N M st K | x => tidyK b (kpO_soS.map (·.2)) st fun st => K x st
noncomputable def ktO_soS {R : Type} (b N : Nat) (K : X → St → Option R) : X → St → Option R := kBlkR 0 (kSeqR tab_soS an_soS N b (atOf [true, true, true] Try.f12) (K))
abbrev kpS_soS : Option (List Nat × List Nat) := some ([0, 1, 6, 7, 8, 9], [0, 1, 6, 7, 8])
noncomputable def lpS_soS {R : Type} (b N M : Nat) (s : St) (K : X → St → Option R) : Option R := loopH b kpS_soS (fun st K => exec ty tab_soS an_soS N b (atOf [true, true, false, true, false, false, true, false, false, true, false, true, false, false] Try.f12) st K) M s K
noncomputable def ktS_soS {R : Type} (b N : Nat) (K : X → St → Option R) : X → St → Option R := kBlkR 2 (kSeqR tab_soS an_soS N b (atOf [true, true, false, true, false, false, true, false, false, true, true] Try.f12) (kBlkR 1 (kSeqR tab_soS an_soS N b (atOf [true, true, false, true, false, false, true, true] Try.f12) (K))))
abbrev kpE_soS : Option (List Nat × List Nat) := some ([0, 1, 6, 7, 12], [0, 1, 6, 7])
noncomputable def lpE_soS {R : Type} (b N M : Nat) (s : St) (K : X → St → Option R) : Option R := loopH b kpE_soS (fun st K => exec ty tab_soS an_soS N b (atOf [true, true, false, true, false, false, true, false, false, true, true, true, true, true, true, true, true, true, true, false, false] Try.f12) st K) M s K
noncomputable def ktE_soS {R : Type} (b N : Nat) (K : X → St → Option R) : X → St → Option R := kBlkR 4 (kBlkR 1 (kSeqR tab_soS an_soS N b (atOf [true, true, false, true, false, false, true, true] Try.f12) (K)))
end Go.Proofs.Ytppdnhjcnjfppaa.Ab

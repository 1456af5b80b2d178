/- LevelSteps: rates and sums. Only lemmas. Printed by gen_lsteps.py. -/
import Derived.Test.YtobbmffldbbhpaaLib
namespace Go.Proofs.Ytobbmffldbbhpaa.Ab
set_option linter.unusedVariables false
set_option linter.unusedSimpArgs false
open Go
theorem T.run_ite (b : Bool) (x y : T) : (T.ite b x y).run = match b with | true => x.run | false => y.run := rfl
theorem T.run_ret (v : V) (h : H) : (T.ret v h).run = some (v, h) := rfl
theorem inB_iff {n lo hi : Int} : inB n lo hi = true ↔ lo ≤ n ∧ n ≤ hi := by
  simp only [inB, Bool.and_eq_true, decide_eq_true_eq, ge_iff_le]
theorem wrap_m {n : Int} (h : -1000000 ≤ n) (h2 : n ≤ 1000000) : IntKind.i64.wrap n = n := wrap_z (by omega) (by omega)
theorem getD_some' {l : List Nat} {i : Nat} (h : i < l.length) : l[i]? = some (l.getD i 0) := by simp [List.getD_eq_getElem?_getD, h]
def diagB (N : Nat) (l : List Nat) : Bool := (List.range N).all fun j => eqB (l.getD (j * N + j) 0) 0
def ratesB (n : Int) (l : List Nat) : Bool := inB n 1 6 && (decide (((l.length : Nat) : Int) = n * n) && (l.all nonB && diagB n.toNat l))
def gRates : GT := fun vs h => match vs, h with | [.int .i64 n, .sl 0 0 m], [.at rw (.fl .f32 l)] => .ite (decide (l.length = m ∧ m < 2147483648)) (.ret (.bool (ratesB n l)) [.at rw (.fl .f32 l)]) .no | _, _ => .no
theorem sq_of {N m : Nat} (h1 : 1 ≤ N) (h6 : N ≤ 6) : (IntKind.i64.wrap ((N : Int) * (N : Int)) = ((N * N : Nat) : Int)) ∧ N * N ≤ 36 := by
  have : N = 1 ∨ N = 2 ∨ N = 3 ∨ N = 4 ∨ N = 5 ∨ N = 6 := by omega
  rcases this with rfl | rfl | rfl | rfl | rfl | rfl <;> decide
theorem neq_dec (a b : Int) : (a != b) = !decide (a = b) := by
  by_cases h : a = b
  · subst h; simp
  · simp [h]
theorem first_any {α : Type} (t : α → Bool) : ∀ (l : List α) (i : Nat), (firstIx t l i).isSome = l.any t
  | [], i => rfl
  | x :: l, i => by
    unfold firstIx
    rw [List.any_cons]
    cases t x with
    | true => rfl
    | false => exact first_any t l (i + 1)
theorem scanR {R : Type} (n : Nat) (t : Nat → Bool) (L : Nat → Int → Option R) (A Z : Option R)
    (hs : ∀ (M i : Nat), i < n → L (M + 1) i = match t i with | true => A | false => L M ((i + 1 : Nat) : Int))
    (he : ∀ M, L (M + 1) (n : Nat) = Z) : L (n + 1) 0 = match (List.range n).any t with | true => A | false => Z := by
  have h := scan0 (List.range n) t L (fun _ => A) Z (fun M i x hx => by
    have hi : i < n := by have := lt_of_get hx; simpa using this
    rw [List.getElem?_range hi] at hx
    cases hx
    exact hs M i hi) (fun M => by rw [List.length_range]; exact he M)
  rw [List.length_range] at h
  rw [h, ← first_any t (List.range n) 0]
  cases firstIx t (List.range n) 0 <;> rfl
theorem eq_neB (x : Nat) : (FloatKind.f32.format.order x 0 != some .eq) = !eqB x 0 := rfl
theorem any_not {α : Type} (q : α → Bool) (l : List α) : (l.any fun x => !q x) = !(l.all q) := by
  induction l with
  | nil => rfl
  | cons x l ih => simp only [List.any_cons, List.all_cons, ih]; cases q x <;> rfl
theorem diag_any (N : Nat) (l : List Nat) : ((List.range N).any fun j => !eqB (l.getD (j * N + j) 0) 0) = !diagB N l := any_not _ _
/-- The reference's one pass. -/
theorem one_pass {N : Nat} {l : List Nat} (h1 : 1 ≤ N) (h6 : N ≤ 6) (hl : l.length = N * N) :
    ((List.range (N * N)).any fun i => !nonB (l.getD i 0) || (decide (i % (N + 1) = 0) && !eqB (l.getD i 0) 0)) = !(l.all nonB && diagB N l) := by
  rw [Bool.eq_iff_iff]
  rw [List.any_eq_true, Bool.not_eq_true', Bool.and_eq_false_iff]
  have hall : l.all nonB = false ↔ ∃ i, i < N * N ∧ nonB (l.getD i 0) = false := by
    constructor
    · intro h
      rw [List.all_eq_false] at h
      obtain ⟨x, hx, hn⟩ := h
      obtain ⟨i, hi⟩ := List.getElem?_of_mem hx
      have hlt := lt_of_get hi
      refine ⟨i, by omega, ?_⟩
      rw [List.getD_eq_getElem?_getD, hi, Option.getD_some]
      simpa using hn
    · rintro ⟨i, hi, hn⟩
      rw [List.all_eq_false]
      refine ⟨l.getD i 0, ?_, by rw [hn]; decide⟩
      rw [List.getD_eq_getElem?_getD, List.getElem?_eq_getElem (by omega), Option.getD_some]
      exact List.getElem_mem _
  have hdiag : diagB N l = false ↔ ∃ j, j < N ∧ eqB (l.getD (j * N + j) 0) 0 = false := by
    unfold diagB
    rw [List.all_eq_false]
    constructor
    · rintro ⟨j, hj, hn⟩
      exact ⟨j, by simpa using hj, by simpa using hn⟩
    · rintro ⟨j, hj, hn⟩
      exact ⟨j, by simpa using hj, by rw [hn]; decide⟩
  rw [hall, hdiag]
  constructor
  · rintro ⟨i, hi, ht⟩
    have hi : i < N * N := by simpa using hi
    rw [Bool.or_eq_true, Bool.and_eq_true] at ht
    rcases ht with ht | ⟨h2, h3⟩
    · exact .inl ⟨i, hi, by simpa using ht⟩
    · right
      have h2 := of_decide_eq_true h2
      have hj : ∃ j, j < N ∧ j * N + j = i := by
        refine ⟨i / (N + 1), ?_, ?_⟩
        · rw [Nat.div_lt_iff_lt_mul (by omega)]
          have : N * N ≤ N * (N + 1) := Nat.mul_le_mul_left _ (by omega)
          omega
        · have := Nat.div_add_mod i (N + 1)
          rw [h2, Nat.add_zero, Nat.mul_comm, Nat.mul_add, Nat.mul_one] at this
          exact this
      obtain ⟨j, h4, h5⟩ := hj
      exact ⟨j, h4, by rw [h5]; simpa using h3⟩
  · rintro (⟨i, hi, hn⟩ | ⟨j, hj, hn⟩)
    · exact ⟨i, by simpa using hi, by rw [hn]; rfl⟩
    · have hlt : j * N + j < N * N := by
        have : N = 1 ∨ N = 2 ∨ N = 3 ∨ N = 4 ∨ N = 5 ∨ N = 6 := by omega
        rcases this with rfl | rfl | rfl | rfl | rfl | rfl <;> omega
      refine ⟨j * N + j, by simpa using hlt, ?_⟩
      have hm : (j * N + j) % (N + 1) = 0 := by
        rw [show j * N + j = (N + 1) * j by rw [Nat.add_mul, Nat.one_mul, Nat.mul_comm]]
        exact Nat.mul_mod_right _ _
      rw [hn, hm]
      simp
def an_arI : Ann := ⟨fun r => if r = 4 then some ([0, 1, 22, 23], [4]) else none, fun _ _ => .quiet⟩
def tab_arI : Fns := tabT [(79, gT gIn), (77, gAllT nonB)]
theorem tabok_arI : ∀ f, FnT Try.prog f (tab_arI f) := (tabT_cons (k := 79) ok_within (tabT_cons (k := 77) ok_areRotor tabT_nil))
def st_arI4 (n0 : Int) (rates1n : Nat) (t23 : Int) (rw0 : Bool) (l0 : List Nat) : St := ⟨(.int .i64 n0 :: .sl 0 0 rates1n :: (anys 20 (.int .i64 n0 :: .int .i64 t23 :: (anys 12 [])))), [.at rw0 (.fl .f32 l0)]⟩
abbrev kp_arI4 : Option (List Nat × List Nat) := some ([0, 1, 22, 23], [4])
noncomputable def lp_arI4 {R : Type} (N M : Nat) (s : St) (K : X → St → Option R) : Option R := loopH 1 kp_arI4 (fun st K => exec ty tab_arI an_arI N 1 (atOf [true, true, false, true, false, false] Try.f70) st K) M s K
noncomputable def bk_arI4 {R : Type} (N M : Nat) (K : X → St → Option R) : X → St → Option R := fun x st => match x with | .norm => tidyK 1 (kp_arI4.map (·.1)) st fun st => lp_arI4 N M st K | x => tidyK 1 (kp_arI4.map (·.2)) st fun st => K x st
noncomputable def kt_arI4 {R : Type} (N : Nat) (K : X → St → Option R) : X → St → Option R := kBlkR 0 (kSeqR tab_arI an_arI N 1 (atOf [true, true, true] Try.f70) (K))
def en_arI4_0 (rw0 : Bool) (l0 : List Nat) : St := ⟨(.any :: .any :: .any :: .any :: .bool false :: (anys 31 [])), [.at rw0 (.fl .f32 l0)]⟩
def en_arI4_1 (rw0 : Bool) (l0 : List Nat) : St := ⟨(anys 36 []), [.at rw0 (.fl .f32 l0)]⟩
theorem run_arI (N : Nat) (n : Int) (m : Nat) (rw : Bool) (l : List Nat) : run ty tab_arI an_arI N Try.f70 [.int .i64 n, .sl 0 0 m] [.at rw (.fl .f32 l)]
    = (match !(inB n 1 6) with | true => some (.bool false, [.at rw (.fl .f32 l)]) | false => (match ((m : Nat) : Int) != (IntKind.i64.wrap (n * n)) with | true => some (.bool false, [.at rw (.fl .f32 l)]) | false => (match decide (l.length = m ∧ m < 2147483648) with | true => (match !(l.all nonB) with | true => some (.bool false, [.at rw (.fl .f32 l)]) | false => lp_arI4 N N (st_arI4 n m 0 rw l) (kt_arI4 N (kEnd Try.f70 1))) | false => none))) := by
  kernel_rfl
theorem step_arI4 {R : Type} (N M : Nat) (K : X → St → Option R) (n0 : Int) (rates1n : Nat) (t23 : Int) (rw0 : Bool) (l0 : List Nat) : lp_arI4 N (M + 1) (st_arI4 n0 rates1n t23 rw0 l0) K
    = (match decide ((t23 : Int) < n0) with | true => (match decide (0 ≤ (IntKind.i64.wrap ((IntKind.i64.wrap (t23 * n0)) + t23) : Int) ∧ (IntKind.i64.wrap ((IntKind.i64.wrap (t23 * n0)) + t23) : Int) < ((rates1n : Nat) : Int)) with | true => (match l0[0 + (IntKind.i64.wrap ((IntKind.i64.wrap (t23 * n0)) + t23)).toNat * 1]? with | some e1 => (match FloatKind.f32.format.order e1 0 != some .eq with | true => K .ret (en_arI4_0 rw0 l0) | false => lp_arI4 N M (st_arI4 n0 rates1n (IntKind.i64.wrap (t23 + 1)) rw0 l0) K) | none => none) | false => none) | false => K (.exit 0) (en_arI4_1 rw0 l0)) := by
  kernel_rfl
theorem end_arI4_0 (N : Nat) (rw0 : Bool) (l0 : List Nat) : kt_arI4 N (kEnd Try.f70 1) .ret (en_arI4_0 rw0 l0)
    = some (.bool false, [.at rw0 (.fl .f32 l0)]) := by
  kernel_rfl
theorem end_arI4_1 (N : Nat) (rw0 : Bool) (l0 : List Nat) : kt_arI4 N (kEnd Try.f70 1) (.exit 0) (en_arI4_1 rw0 l0)
    = some (.bool true, [.at rw0 (.fl .f32 l0)]) := by
  kernel_rfl

theorem ok_arI : FnT Try.prog 70 gRates := by
  refine fnT tabok_arI Try.func70 rfl rfl an_arI fun vs h v h' e => ⟨40, ?_⟩
  unfold gRates at e
  split at e
  case h_2 => exact (T.no_inv e).elim
  rename_i n m rw l
  obtain ⟨hd, e⟩ := T.pre_inv e
  obtain ⟨rfl, rfl⟩ := T.ret_inv e
  obtain ⟨rfl, hb⟩ := of_decide_eq_true hd
  refine Eq.trans (run_arI 40 _ _ _ _) ?_
  unfold ratesB
  cases hin : inB n 1 6 with
  | false => rfl
  | true =>
    have hin' := inB_iff.mp hin
    obtain ⟨N, rfl⟩ : ∃ N : Nat, n = (N : Int) := ⟨n.toNat, by omega⟩
    obtain ⟨hw, h36⟩ := sq_of (m := 0) (show 1 ≤ N by omega) (by omega)
    rw [hw, neq_dec, Int.toNat_natCast]
    have hNN : ((N : Int) * (N : Int)) = ((N * N : Nat) : Int) := (Int.natCast_mul _ _).symm
    rw [hNN]
    by_cases hlen : l.length = N * N
    case neg =>
      rw [decide_eq_false (show ¬ ((l.length : Nat) : Int) = ((N * N : Nat) : Int) by omega)]
      rfl
    rw [decide_eq_true (show ((l.length : Nat) : Int) = ((N * N : Nat) : Int) by omega)]
    try dsimp only [Bool.not_true]
    try dsimp only
    rw [hd]
    try dsimp only
    cases hall : l.all nonB with
    | false => rfl
    | true =>
      try dsimp only [Bool.not_true]
      have hs := scanR N (fun j => !eqB (l.getD (j * N + j) 0) 0) (fun M i => lp_arI4 40 (M + (39 - N)) (st_arI4 (N : Int) l.length i rw l) (kt_arI4 40 (kEnd Try.f70 1))) (some (.bool false, [.at rw (.fl .f32 l)])) (some (.bool true, [.at rw (.fl .f32 l)])) (fun M i hi => ?_) (fun M => ?_)
      · rw [show N + 1 + (39 - N) = 40 by omega] at hs
        refine Eq.trans hs ?_
        rw [diag_any]
        cases diagB N l <;> rfl
      · have hij : i * N + i < N * N := by
          have : N = 1 ∨ N = 2 ∨ N = 3 ∨ N = 4 ∨ N = 5 ∨ N = 6 := by omega
          rcases this with rfl | rfl | rfl | rfl | rfl | rfl <;> omega
        have hmul : ((i : Int) * (N : Int)) = ((i * N : Nat) : Int) := (Int.natCast_mul _ _).symm
        have w1 : IntKind.i64.wrap ((i : Int) * (N : Int)) = ((i * N : Nat) : Int) := by rw [hmul]; exact wrap_m (by omega) (by omega)
        have w2 : IntKind.i64.wrap (((i * N : Nat) : Int) + (i : Int)) = ((i * N + i : Nat) : Int) := by rw [wrap_m (by omega) (by omega)]; omega
        rw [show M + 1 + (39 - N) = (M + (39 - N)) + 1 by omega, step_arI4]
        rw [dlt hi, w1, w2, din (show i * N + i < l.length by omega), ix, getD_some' (show i * N + i < l.length by omega), wr (show i < 2147483648 by omega)]
        try dsimp only
        rw [eq_neB, end_arI4_0]
      · rw [show M + 1 + (39 - N) = (M + (39 - N)) + 1 by omega, step_arI4]
        rw [dge (Nat.le_refl _), end_arI4_1]
def an_arS : Ann := ⟨fun r => if r = 4 then some ([0, 1, 5], [4]) else none, fun _ _ => .quiet⟩
def tab_arS : Fns := tabT [(84, gT gIn), (125, gT (gF1 nonB))]
theorem tabok_arS : ∀ f, FnT Try.prog f (tab_arS f) := (tabT_cons (k := 84) ok_l00In (tabT_cons (k := 125) ok_l02Least tabT_nil))
def st_arS4 (n0 : Int) (rates1n : Nat) (i5 : Int) (rw0 : Bool) (l0 : List Nat) : St := ⟨(.int .i64 n0 :: .sl 0 0 rates1n :: .any :: .any :: .any :: .int .i64 i5 :: (anys 38 [])), [.at rw0 (.fl .f32 l0)]⟩
abbrev kp_arS4 : Option (List Nat × List Nat) := some ([0, 1, 5], [4])
noncomputable def lp_arS4 {R : Type} (N M : Nat) (s : St) (K : X → St → Option R) : Option R := loopH 1 kp_arS4 (fun st K => exec ty tab_arS an_arS N 1 (atOf [true, true, false, true, false, false] Try.f65) st K) M s K
noncomputable def bk_arS4 {R : Type} (N M : Nat) (K : X → St → Option R) : X → St → Option R := fun x st => match x with | .norm => tidyK 1 (kp_arS4.map (·.1)) st fun st => lp_arS4 N M st K | x => tidyK 1 (kp_arS4.map (·.2)) st fun st => K x st
noncomputable def kt_arS4 {R : Type} (N : Nat) (K : X → St → Option R) : X → St → Option R := kBlkR 0 (kSeqR tab_arS an_arS N 1 (atOf [true, true, true] Try.f65) (K))
def en_arS4_0 (rw0 : Bool) (l0 : List Nat) : St := ⟨(.any :: .any :: .any :: .any :: .bool false :: (anys 39 [])), [.at rw0 (.fl .f32 l0)]⟩
def en_arS4_1 (rw0 : Bool) (l0 : List Nat) : St := ⟨(anys 44 []), [.at rw0 (.fl .f32 l0)]⟩
theorem run_arS (N : Nat) (n : Int) (m : Nat) (rw : Bool) (l : List Nat) : run ty tab_arS an_arS N Try.f65 [.int .i64 n, .sl 0 0 m] [.at rw (.fl .f32 l)]
    = (match !(inB n 1 6) with | true => some (.bool false, [.at rw (.fl .f32 l)]) | false => (match ((m : Nat) : Int) != (IntKind.i64.wrap (n * n)) with | true => some (.bool false, [.at rw (.fl .f32 l)]) | false => lp_arS4 N N (st_arS4 n m 0 rw l) (kt_arS4 N (kEnd Try.f65 1)))) := by
  kernel_rfl
theorem step_arS4 {R : Type} (N M : Nat) (K : X → St → Option R) (n0 : Int) (rates1n : Nat) (i5 : Int) (rw0 : Bool) (l0 : List Nat) : lp_arS4 N (M + 1) (st_arS4 n0 rates1n i5 rw0 l0) K
    = (match decide ((i5 : Int) < (IntKind.i64.wrap (n0 * n0))) with | true => (match decide (0 ≤ (i5 : Int) ∧ (i5 : Int) < ((rates1n : Nat) : Int)) with | true => (match l0[0 + (i5).toNat * 1]? with | some e1 => (match !(nonB e1) with | true => K .ret (en_arS4_0 rw0 l0) | false => (match decide (IntKind.i64.wrap (n0 + 1) = 0) with | true => none | false => (match (Int.tmod i5 (IntKind.i64.wrap (n0 + 1))) == 0 with | true => (match decide (0 ≤ (i5 : Int) ∧ (i5 : Int) < ((rates1n : Nat) : Int)) with | true => (match l0[0 + (i5).toNat * 1]? with | some e2 => (match FloatKind.f32.format.order e2 0 != some .eq with | true => K .ret (en_arS4_0 rw0 l0) | false => lp_arS4 N M (st_arS4 n0 rates1n (IntKind.i64.wrap (i5 + 1)) rw0 l0) K) | none => none) | false => none) | false => lp_arS4 N M (st_arS4 n0 rates1n (IntKind.i64.wrap (i5 + 1)) rw0 l0) K))) | none => none) | false => none) | false => K (.exit 0) (en_arS4_1 rw0 l0)) := by
  kernel_rfl
theorem end_arS4_0 (N : Nat) (rw0 : Bool) (l0 : List Nat) : kt_arS4 N (kEnd Try.f65 1) .ret (en_arS4_0 rw0 l0)
    = some (.bool false, [.at rw0 (.fl .f32 l0)]) := by
  kernel_rfl
theorem end_arS4_1 (N : Nat) (rw0 : Bool) (l0 : List Nat) : kt_arS4 N (kEnd Try.f65 1) (.exit 0) (en_arS4_1 rw0 l0)
    = some (.bool true, [.at rw0 (.fl .f32 l0)]) := by
  kernel_rfl

theorem ok_arS : FnT Try.prog 65 gRates := by
  refine fnT tabok_arS Try.func65 rfl rfl an_arS fun vs h v h' e => ⟨40, ?_⟩
  unfold gRates at e
  split at e
  case h_2 => exact (T.no_inv e).elim
  rename_i n m rw l
  obtain ⟨hd, e⟩ := T.pre_inv e
  obtain ⟨rfl, rfl⟩ := T.ret_inv e
  obtain ⟨rfl, hb⟩ := of_decide_eq_true hd
  refine Eq.trans (run_arS 40 _ _ _ _) ?_
  unfold ratesB
  cases hin : inB n 1 6 with
  | false => rfl
  | true =>
    have hin' := inB_iff.mp hin
    obtain ⟨N, rfl⟩ : ∃ N : Nat, n = (N : Int) := ⟨n.toNat, by omega⟩
    obtain ⟨hw, h36⟩ := sq_of (m := 0) (show 1 ≤ N by omega) (by omega)
    rw [hw, neq_dec, Int.toNat_natCast]
    have hNN : ((N : Int) * (N : Int)) = ((N * N : Nat) : Int) := (Int.natCast_mul _ _).symm
    rw [hNN]
    by_cases hlen : l.length = N * N
    case neg =>
      rw [decide_eq_false (show ¬ ((l.length : Nat) : Int) = ((N * N : Nat) : Int) by omega)]
      rfl
    rw [decide_eq_true (show ((l.length : Nat) : Int) = ((N * N : Nat) : Int) by omega)]
    try dsimp only [Bool.not_true]
    try dsimp only
    have hs := scanR (N * N) (fun i => !nonB (l.getD i 0) || (decide (i % (N + 1) = 0) && !eqB (l.getD i 0) 0)) (fun M i => lp_arS4 40 (M + (39 - N * N)) (st_arS4 (N : Int) l.length i rw l) (kt_arS4 40 (kEnd Try.f65 1))) (some (.bool false, [.at rw (.fl .f32 l)])) (some (.bool true, [.at rw (.fl .f32 l)])) (fun M i hi => ?_) (fun M => ?_)
    · rw [show N * N + 1 + (39 - N * N) = 40 by omega] at hs
      refine Eq.trans hs ?_
      rw [one_pass (by omega) (by omega) hlen]
      cases l.all nonB && diagB N l <;> rfl
    · have w1 : IntKind.i64.wrap ((N : Int) + 1) = ((N + 1 : Nat) : Int) := by rw [wrap_m (by omega) (by omega)]; omega
      have hz : decide (((N + 1 : Nat) : Int) = 0) = false := decide_eq_false (by omega)
      have hm : (Int.tmod (i : Int) ((N + 1 : Nat) : Int) == 0) = decide (i % (N + 1) = 0) := by
        rw [Int.tmod_eq_emod_of_nonneg (by omega), ← Int.natCast_emod]
        by_cases h0 : i % (N + 1) = 0
        · rw [h0]; rfl
        · rw [decide_eq_false h0]
          have : ((i % (N + 1) : Nat) : Int) ≠ 0 := by omega
          simpa using this
      rw [show M + 1 + (39 - N * N) = (M + (39 - N * N)) + 1 by omega, step_arS4]
      rw [hw, dlt hi, din (show i < l.length by omega), ix, getD_some' (show i < l.length by omega), w1, hz, hm, wr (show i < 2147483648 by omega)]
      try dsimp only
      cases nonB (l.getD i 0)
      · try dsimp only [Bool.not_false, Bool.true_or]
        rw [end_arS4_0]
        try rfl
      · try dsimp only [Bool.not_true, Bool.false_or]
        cases decide (i % (N + 1) = 0)
        · rfl
        · try dsimp only [Bool.true_and]
          rw [end_arS4_0]
          rfl
    · rw [show M + 1 + (39 - N * N) = (M + (39 - N * N)) + 1 by omega, step_arS4]
      rw [hw, dge (Nat.le_refl _), end_arS4_1]
def stepsB (h : Nat) (t : Int) : Bool := nonB h && inB t 0 512
def gSteps : GT := fun vs h => match vs, h with | [.fl .f32 x, .int .i64 t], [] => .ret (.bool (stepsB x t)) [] | _, _ => .no
def tab_asI : Fns := tabT [(90, gT (gF1 finB)), (79, gT gIn)]
theorem tabok_asI : ∀ f, FnT Try.prog f (tab_asI f) := (tabT_cons (k := 90) ok_IsFinite (tabT_cons (k := 79) ok_within tabT_nil))
theorem run_asI (N : Nat) (x : Nat) (t : Int) : run ty tab_asI ann0 N Try.f72 [.fl .f32 x, .int .i64 t] []
    = (match finB x with | true => (match gtB x 0 || eqB x 0 with | true => some (.bool (inB t 0 512), []) | false => some (.bool false, [])) | false => some (.bool false, [])) := by
  kernel_rfl

theorem ok_asI : FnT Try.prog 72 gSteps := by
  refine fnT tabok_asI Try.func72 rfl rfl ann0 fun vs h v h' e => ⟨0, ?_⟩
  unfold gSteps at e
  split at e
  case h_2 => exact (T.no_inv e).elim
  rename_i x t
  obtain ⟨rfl, rfl⟩ := T.ret_inv e
  refine Eq.trans (run_asI 0 _ _) ?_
  unfold stepsB nonB
  cases finB x <;> cases (gtB x 0 || eqB x 0) <;> rfl
def tab_asS : Fns := tabT [(125, gT (gF1 nonB)), (84, gT gIn)]
theorem tabok_asS : ∀ f, FnT Try.prog f (tab_asS f) := (tabT_cons (k := 125) ok_l02Least (tabT_cons (k := 84) ok_l00In tabT_nil))
theorem run_asS (N : Nat) (x : Nat) (t : Int) : run ty tab_asS ann0 N Try.f67 [.fl .f32 x, .int .i64 t] []
    = (match nonB x with | true => some (.bool (inB t 0 512), []) | false => some (.bool false, [])) := by
  kernel_rfl

theorem ok_asS : FnT Try.prog 67 gSteps := by
  refine fnT tabok_asS Try.func67 rfl rfl ann0 fun vs h v h' e => ⟨0, ?_⟩
  unfold gSteps at e
  split at e
  case h_2 => exact (T.no_inv e).elim
  rename_i x t
  obtain ⟨rfl, rfl⟩ := T.ret_inv e
  refine Eq.trans (run_asS 0 _ _) ?_
  unfold stepsB
  cases nonB x <;> rfl
def sumO (o m : Nat) (l : List Nat) : Nat := rounds (fun i s => fop .add .f32 s (l.getD (o + i) 0)) m 0 0
def gSum : GT := fun vs h => match vs, h with | [.sl 0 o m], [.at rw (.fl .f32 l)] => .ite (decide (o + m ≤ l.length ∧ l.length < 2147483648 ∧ m < 30)) (.ret (.fl .f32 (sumO o m l)) [.at rw (.fl .f32 l)]) .no | _, _ => .no
def an_suI : Ann := ⟨fun r => if r = 3 then some ([3, 6, 7, 8], [3]) else none, fun _ _ => .quiet⟩
def tab_suI : Fns := tabT []
theorem tabok_suI : ∀ f, FnT Try.prog f (tab_suI f) := tabT_nil
def st_suI3 (all3 : Nat) (t6o : Nat) (t6n : Nat) (t7 : Int) (t8 : Int) (rw0 : Bool) (l0 : List Nat) : St := ⟨(.any :: .any :: .any :: .fl .f32 all3 :: .any :: .any :: .sl 0 t6o t6n :: .int .i64 t7 :: .int .i64 t8 :: (anys 8 [])), [.at rw0 (.fl .f32 l0)]⟩
abbrev kp_suI3 : Option (List Nat × List Nat) := some ([3, 6, 7, 8], [3])
noncomputable def lp_suI3 {R : Type} (N M : Nat) (s : St) (K : X → St → Option R) : Option R := loopH 1 kp_suI3 (fun st K => exec ty tab_suI an_suI N 1 (atOf [true, true, false, true, false, false] Try.f82) st K) M s K
noncomputable def bk_suI3 {R : Type} (N M : Nat) (K : X → St → Option R) : X → St → Option R := fun x st => match x with | .norm => tidyK 1 (kp_suI3.map (·.1)) st fun st => lp_suI3 N M st K | x => tidyK 1 (kp_suI3.map (·.2)) st fun st => K x st
noncomputable def kt_suI3 {R : Type} (N : Nat) (K : X → St → Option R) : X → St → Option R := kBlkR 0 (kSeqR tab_suI an_suI N 1 (atOf [true, true, true] Try.f82) (K))
def en_suI3_0 (all3 : Nat) (rw0 : Bool) (l0 : List Nat) : St := ⟨(.any :: .any :: .any :: .fl .f32 all3 :: (anys 13 [])), [.at rw0 (.fl .f32 l0)]⟩
theorem run_suI (N : Nat) (o : Nat) (m : Nat) (rw : Bool) (l : List Nat) : run ty tab_suI an_suI N Try.f82 [.sl 0 o m] [.at rw (.fl .f32 l)]
    = lp_suI3 N N (st_suI3 0 o m ((m : Nat) : Int) 0 rw l) (kt_suI3 N (kEnd Try.f82 1)) := by
  kernel_rfl
theorem step_suI3 {R : Type} (N M : Nat) (K : X → St → Option R) (all3 : Nat) (t6o : Nat) (t6n : Nat) (t7 : Int) (t8 : Int) (rw0 : Bool) (l0 : List Nat) : lp_suI3 N (M + 1) (st_suI3 all3 t6o t6n t7 t8 rw0 l0) K
    = (match decide ((t8 : Int) < t7) with | true => (match decide (0 ≤ (t8 : Int) ∧ (t8 : Int) < ((t6n : Nat) : Int)) with | true => (match l0[t6o + (t8).toNat * 1]? with | some e1 => lp_suI3 N M (st_suI3 (fop .add .f32 all3 e1) t6o t6n t7 (IntKind.i64.wrap (t8 + 1)) rw0 l0) K | none => none) | false => none) | false => K (.exit 0) (en_suI3_0 all3 rw0 l0)) := by
  kernel_rfl
theorem end_suI3_0 (N : Nat) (all3 : Nat) (rw0 : Bool) (l0 : List Nat) : kt_suI3 N (kEnd Try.f82 1) (.exit 0) (en_suI3_0 all3 rw0 l0)
    = some (.fl .f32 all3, [.at rw0 (.fl .f32 l0)]) := by
  kernel_rfl

theorem ok_suI : FnT Try.prog 82 gSum := by
  refine fnT tabok_suI Try.func82 rfl rfl an_suI fun vs h v h' e => ⟨40, ?_⟩
  unfold gSum at e
  split at e
  case h_2 => exact (T.no_inv e).elim
  rename_i o m rw l
  obtain ⟨hd, e⟩ := T.pre_inv e
  obtain ⟨rfl, rfl⟩ := T.ret_inv e
  obtain ⟨hd, hb, hm⟩ := of_decide_eq_true hd
  refine Eq.trans (run_suI 40 _ _ _ _) ?_
  have hc := count_up m (fun i s => fop .add .f32 s (l.getD (o + i) 0)) (fun M i s => lp_suI3 40 M (st_suI3 s o m ((m : Nat) : Int) (i : Int) rw l) (kt_suI3 40 (kEnd Try.f82 1))) (fun s => some (.fl .f32 s, [.at rw (.fl .f32 l)])) (fun _ _ => True) (fun M i s hi _ => ⟨?_, trivial⟩) (fun M s _ => ?_) m 0 0 (by omega) trivial (39 - m)
  · rw [show m + 1 + (39 - m) = 40 by omega] at hc
    exact hc
  · rw [step_suI3, dlt hi, din hi, show o + ((i : Nat) : Int).toNat * 1 = o + i by omega, getD_some' (show o + i < l.length by omega), wr (show i < 2147483648 by omega)]
  · rw [step_suI3, dge (Nat.le_refl _), end_suI3_0]
def outF (n : Int) (l : List Nat) (k : Int) : Nat := sumO (k.toNat * n.toNat) n.toNat l
def outOk (n : Int) (m : Nat) (l : List Nat) (k : Int) : Bool := decide (l.length = m ∧ 1 ≤ n ∧ n ≤ 6 ∧ 0 ≤ k ∧ k < n ∧ ((m : Nat) : Int) = n * n)
def gOut : GT := fun vs h => match vs, h with | [.int .i64 n, .sl 0 0 m, .int .i64 k], [.at rw (.fl .f32 l)] => .ite (outOk n m l k) (.ret (.fl .f32 (outF n l k)) [.at rw (.fl .f32 l)]) .no | _, _ => .no
theorem cell_lt {N i k : Nat} (h6 : N ≤ 6) (hi : i < N) (hk : k < N) : i * N + k < N * N ∧ N * N ≤ 36 := by
  have h1 : (i + 1) * N ≤ N * N := Nat.mul_le_mul_right _ hi
  rw [Nat.add_mul, Nat.one_mul] at h1
  have h2 : N * N ≤ 6 * 6 := Nat.mul_le_mul h6 h6
  omega
def tab_leI : Fns := tabT [(82, gSum)]
theorem tabok_leI : ∀ f, FnT Try.prog f (tab_leI f) := (tabT_cons (k := 82) ok_suI tabT_nil)
theorem run_leI (N : Nat) (n : Int) (m : Nat) (k : Int) (rw : Bool) (l : List Nat) : run ty tab_leI ann0 N Try.f74 [.int .i64 n, .sl 0 0 m, .int .i64 k] [.at rw (.fl .f32 l)]
    = (match decide (0 ≤ (IntKind.i64.wrap (k * n) : Int) ∧ (IntKind.i64.wrap (k * n) : Int) ≤ (IntKind.i64.wrap ((IntKind.i64.wrap (k * n)) + n)) ∧ (IntKind.i64.wrap ((IntKind.i64.wrap (k * n)) + n) : Int) ≤ ((m : Nat) : Int)) with | true => (match decide ((0 + (IntKind.i64.wrap (k * n)).toNat * 1) + (((IntKind.i64.wrap ((IntKind.i64.wrap (k * n)) + n)) - (IntKind.i64.wrap (k * n))).toNat) ≤ l.length ∧ l.length < 2147483648 ∧ (((IntKind.i64.wrap ((IntKind.i64.wrap (k * n)) + n)) - (IntKind.i64.wrap (k * n))).toNat) < 30) with | true => some (.fl .f32 (sumO (0 + (IntKind.i64.wrap (k * n)).toNat * 1) (((IntKind.i64.wrap ((IntKind.i64.wrap (k * n)) + n)) - (IntKind.i64.wrap (k * n))).toNat) l), [.at rw (.fl .f32 l)]) | false => none) | false => none) := by
  kernel_rfl

theorem ok_leI : FnT Try.prog 74 gOut := by
  refine fnT tabok_leI Try.func74 rfl rfl ann0 fun vs h v h' e => ⟨40, ?_⟩
  unfold gOut at e
  split at e
  case h_2 => exact (T.no_inv e).elim
  rename_i n m k rw l
  obtain ⟨hd, e⟩ := T.pre_inv e
  obtain ⟨rfl, rfl⟩ := T.ret_inv e
  obtain ⟨rfl, h1, h6, hk0, hk, hm⟩ := of_decide_eq_true hd
  obtain ⟨A, rfl⟩ : ∃ A : Nat, n = (A : Int) := ⟨n.toNat, by omega⟩
  obtain ⟨B, rfl⟩ : ∃ B : Nat, k = (B : Int) := ⟨k.toNat, by omega⟩
  have hAA : ((A : Int) * (A : Int)) = ((A * A : Nat) : Int) := (Int.natCast_mul _ _).symm
  have hBA : ((B : Int) * (A : Int)) = ((B * A : Nat) : Int) := (Int.natCast_mul _ _).symm
  rw [hAA] at hm
  obtain ⟨hlt, h36⟩ := cell_lt (N := A) (i := B) (k := A - 1) (by omega) (by omega) (by omega)
  have w1 : IntKind.i64.wrap ((B : Int) * (A : Int)) = ((B * A : Nat) : Int) := by rw [hBA]; exact wrap_m (by omega) (by omega)
  refine Eq.trans (run_leI 40 _ _ _ _ _) ?_
  unfold outF
  rw [Int.toNat_natCast, Int.toNat_natCast]
  have w2 : IntKind.i64.wrap (((B * A : Nat) : Int) + (A : Int)) = ((B * A + A : Nat) : Int) := by rw [wrap_m (by omega) (by omega)]; omega
  rw [w1, w2]
  rw [decide_eq_true (show (0 : Int) ≤ ((B * A : Nat) : Int) ∧ ((B * A : Nat) : Int) ≤ ((B * A + A : Nat) : Int) ∧ ((B * A + A : Nat) : Int) ≤ ((l.length : Nat) : Int) by omega)]
  try dsimp only
  rw [show (((B * A + A : Nat) : Int) - ((B * A : Nat) : Int)).toNat = A by omega, show 0 + (((B * A : Nat) : Int)).toNat * 1 = B * A by omega]
  rw [decide_eq_true (show B * A + A ≤ l.length ∧ l.length < 2147483648 ∧ A < 30 by omega)]
def an_leS : Ann := ⟨fun r => if r = 3 then some ([0, 1, 2, 7, 8], [7]) else none, fun _ _ => .quiet⟩
def tab_leS : Fns := tabT []
theorem tabok_leS : ∀ f, FnT Try.prog f (tab_leS f) := tabT_nil
def st_leS3 (n0 : Int) (rates1n : Nat) (k2 : Int) (sum7 : Nat) (i8 : Int) (rw0 : Bool) (l0 : List Nat) : St := ⟨(.int .i64 n0 :: .sl 0 0 rates1n :: .int .i64 k2 :: .any :: .any :: .any :: .any :: .fl .f32 sum7 :: .int .i64 i8 :: (anys 16 [])), [.at rw0 (.fl .f32 l0)]⟩
abbrev kp_leS3 : Option (List Nat × List Nat) := some ([0, 1, 2, 7, 8], [7])
noncomputable def lp_leS3 {R : Type} (N M : Nat) (s : St) (K : X → St → Option R) : Option R := loopH 1 kp_leS3 (fun st K => exec ty tab_leS an_leS N 1 (atOf [true, true, false, true, false, false] Try.f68) st K) M s K
noncomputable def bk_leS3 {R : Type} (N M : Nat) (K : X → St → Option R) : X → St → Option R := fun x st => match x with | .norm => tidyK 1 (kp_leS3.map (·.1)) st fun st => lp_leS3 N M st K | x => tidyK 1 (kp_leS3.map (·.2)) st fun st => K x st
noncomputable def kt_leS3 {R : Type} (N : Nat) (K : X → St → Option R) : X → St → Option R := kBlkR 0 (kSeqR tab_leS an_leS N 1 (atOf [true, true, true] Try.f68) (K))
def en_leS3_0 (sum7 : Nat) (rw0 : Bool) (l0 : List Nat) : St := ⟨(anys 7 (.fl .f32 sum7 :: (anys 17 []))), [.at rw0 (.fl .f32 l0)]⟩
theorem run_leS (N : Nat) (n : Int) (m : Nat) (k : Int) (rw : Bool) (l : List Nat) : run ty tab_leS an_leS N Try.f68 [.int .i64 n, .sl 0 0 m, .int .i64 k] [.at rw (.fl .f32 l)]
    = lp_leS3 N N (st_leS3 n m k 0 0 rw l) (kt_leS3 N (kEnd Try.f68 1)) := by
  kernel_rfl
theorem step_leS3 {R : Type} (N M : Nat) (K : X → St → Option R) (n0 : Int) (rates1n : Nat) (k2 : Int) (sum7 : Nat) (i8 : Int) (rw0 : Bool) (l0 : List Nat) : lp_leS3 N (M + 1) (st_leS3 n0 rates1n k2 sum7 i8 rw0 l0) K
    = (match decide ((i8 : Int) < n0) with | true => (match decide (0 ≤ (IntKind.i64.wrap ((IntKind.i64.wrap (k2 * n0)) + i8) : Int) ∧ (IntKind.i64.wrap ((IntKind.i64.wrap (k2 * n0)) + i8) : Int) < ((rates1n : Nat) : Int)) with | true => (match l0[0 + (IntKind.i64.wrap ((IntKind.i64.wrap (k2 * n0)) + i8)).toNat * 1]? with | some e1 => lp_leS3 N M (st_leS3 n0 rates1n k2 (fop .add .f32 sum7 e1) (IntKind.i64.wrap (i8 + 1)) rw0 l0) K | none => none) | false => none) | false => K (.exit 0) (en_leS3_0 sum7 rw0 l0)) := by
  kernel_rfl
theorem end_leS3_0 (N : Nat) (sum7 : Nat) (rw0 : Bool) (l0 : List Nat) : kt_leS3 N (kEnd Try.f68 1) (.exit 0) (en_leS3_0 sum7 rw0 l0)
    = some (.fl .f32 sum7, [.at rw0 (.fl .f32 l0)]) := by
  kernel_rfl

theorem ok_leS : FnT Try.prog 68 gOut := by
  refine fnT tabok_leS Try.func68 rfl rfl an_leS fun vs h v h' e => ⟨40, ?_⟩
  unfold gOut at e
  split at e
  case h_2 => exact (T.no_inv e).elim
  rename_i n m k rw l
  obtain ⟨hd, e⟩ := T.pre_inv e
  obtain ⟨rfl, rfl⟩ := T.ret_inv e
  obtain ⟨rfl, h1, h6, hk0, hk, hm⟩ := of_decide_eq_true hd
  obtain ⟨A, rfl⟩ : ∃ A : Nat, n = (A : Int) := ⟨n.toNat, by omega⟩
  obtain ⟨B, rfl⟩ : ∃ B : Nat, k = (B : Int) := ⟨k.toNat, by omega⟩
  have hAA : ((A : Int) * (A : Int)) = ((A * A : Nat) : Int) := (Int.natCast_mul _ _).symm
  have hBA : ((B : Int) * (A : Int)) = ((B * A : Nat) : Int) := (Int.natCast_mul _ _).symm
  rw [hAA] at hm
  obtain ⟨hlt, h36⟩ := cell_lt (N := A) (i := B) (k := A - 1) (by omega) (by omega) (by omega)
  have w1 : IntKind.i64.wrap ((B : Int) * (A : Int)) = ((B * A : Nat) : Int) := by rw [hBA]; exact wrap_m (by omega) (by omega)
  refine Eq.trans (run_leS 40 _ _ _ _ _) ?_
  unfold outF
  rw [Int.toNat_natCast, Int.toNat_natCast]
  have hc := count_up A (fun i s => fop .add .f32 s (l.getD (B * A + i) 0)) (fun M i s => lp_leS3 40 M (st_leS3 (A : Int) l.length (B : Int) s (i : Int) rw l) (kt_leS3 40 (kEnd Try.f68 1))) (fun s => some (.fl .f32 s, [.at rw (.fl .f32 l)])) (fun _ _ => True) (fun M i s hi _ => ⟨?_, trivial⟩) (fun M s _ => ?_) A 0 0 (by omega) trivial (39 - A)
  · rw [show A + 1 + (39 - A) = 40 by omega] at hc
    exact hc
  · have w2 : IntKind.i64.wrap (((B * A : Nat) : Int) + (i : Int)) = ((B * A + i : Nat) : Int) := by rw [wrap_m (by omega) (by omega)]; omega
    rw [step_leS3, dlt hi, w1, w2, din (show B * A + i < l.length by omega), ix, getD_some' (show B * A + i < l.length by omega), wr (show i < 2147483648 by omega)]
  · rw [step_leS3, dge (Nat.le_refl _), end_leS3_0]
def gClo : GT := fun vs h => match vs, h with | [.sl 0 0 m], [.at rw (.fl .f32 l)] => .ite (decide (l.length = m ∧ 1 ≤ m ∧ m < 2147483648)) (.ret (.sl 1 0 m) [.at rw (.fl .f32 l), .at true (.fl .f32 l)]) .no | _, _ => .no
def tab_cloI : Fns := tabT []
theorem tabok_cloI : ∀ f, FnT Try.prog f (tab_cloI f) := tabT_nil
theorem run_cloI (N : Nat) (m : Nat) (rw : Bool) (l : List Nat) : run ty tab_cloI ann0 N Try.f73 [.sl 0 0 m] [.at rw (.fl .f32 l)]
    = (match decide (0 + m * 1 ≤ l.length) with | true => (match apok true 0 1 0 1 (0 + m) 4 with | true => some (.sl 1 0 (0 + m), [.at rw (.fl .f32 l), .at true (.fl .f32 (([] : List Nat) ++ ((l.drop 0).take (m * 1))))]) | false => none) | false => none) := by
  kernel_rfl

theorem ok_cloI : FnT Try.prog 73 gClo := by
  refine fnT tabok_cloI Try.func73 rfl rfl ann0 fun vs h v h' e => ⟨0, ?_⟩
  unfold gClo at e
  split at e
  case h_2 => exact (T.no_inv e).elim
  rename_i m rw l
  obtain ⟨hd, e⟩ := T.pre_inv e
  obtain ⟨rfl, rfl⟩ := T.ret_inv e
  obtain ⟨rfl, h1, hb⟩ := of_decide_eq_true hd
  refine Eq.trans (run_cloI 0 _ _ _) ?_
  rw [decide_eq_true (show 0 + l.length * 1 ≤ l.length by omega)]
  have hap : apok true 0 1 0 1 (0 + l.length) 4 = true := by
    unfold apok boundB
    rw [decide_eq_true (show 0 * 1 = 0 ∧ 1 = 1 from ⟨rfl, rfl⟩), decide_eq_true (show 0 + l.length ≤ 9223372036854775807 ∧ (0 + l.length) * 4 ≤ 140737488355328 by omega)]
    rfl
  try dsimp only
  rw [hap]
  simp only [Nat.zero_add, Nat.mul_one, List.drop_zero, List.take_length, List.nil_append]
end Go.Proofs.Ytobbmffldbbhpaa.Ab

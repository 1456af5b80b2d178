/- LevelSteps: what both compute. Only lemmas. Printed by gen_lsteps.py. -/
import Derived.Test.YtobbmffldbbhpaaLsB
namespace Go.Proofs.Ytobbmffldbbhpaa.Ab
set_option linter.unusedVariables false
set_option linter.unusedSimpArgs false
open Go
def comeF (N : Nat) (l now : List Nat) (k : Nat) : Nat := rounds (fun i s => fop .add .f32 s (fop .mul .f32 (now.getD i 0) (l.getD (i * N + k) 0))) N 0 0
def cellF (N : Nat) (l : List Nat) (h : Nat) (now : List Nat) (k : Nat) : Nat := fop .add .f32 (now.getD k 0) (fop .mul .f32 h (fop .sub .f32 (comeF N l now k) (fop .mul .f32 (now.getD k 0) (outF (N : Int) l (k : Int)))))
def stepF (N : Nat) (l : List Nat) (h : Nat) (now : List Nat) : List Nat := (List.range' 0 N).map (cellF N l h now)
theorem stepF_len (N : Nat) (l : List Nat) (h : Nat) (now : List Nat) : (stepF N l h now).length = N := by simp [stepF]
def itF (N : Nat) (l : List Nat) (h : Nat) (t : Nat) (s : List Nat) : List Nat := rounds (fun _ now => stepF N l h now) t 0 s
theorem itF_len (N : Nat) (l : List Nat) (h : Nat) : ∀ t i (s : List Nat), s.length = N → (rounds (fun _ now => stepF N l h now) t i s).length = N
  | 0, i, s, hs => hs
  | t + 1, i, s, hs => itF_len N l h t (i + 1) _ (stepF_len N l h s)
def lsV (n : Int) (l s : List Nat) (h : Nat) (t : Int) : List Nat := itF n.toNat l h t.toNat s
def lsOk (n : Int) (l s : List Nat) (h : Nat) (t : Int) : Bool := ratesB n l && (decide (((s.length : Nat) : Int) = n) && (s.all finB && (stepsB h t && (lsV n l s h t).all finB)))
theorem ls_len {n : Int} {l s : List Nat} {h : Nat} {t : Int} (hk : lsOk n l s h t = true) : (lsV n l s h t).length < 100 := by
  unfold lsOk ratesB at hk
  simp only [Bool.and_eq_true] at hk
  have h1 := inB_iff.mp hk.1.1
  have h2 := of_decide_eq_true hk.2.1
  unfold lsV itF
  rw [itF_len n.toNat l h _ _ s (by omega)]
  omega
def gLs : GT := fun vs h => match vs, h with
  | [.int .i64 n, .sl 0 0 m, .sl 1 0 q, .fl .f32 h, .int .i64 t], [.at r0 (.fl .f32 l), .at r1 (.fl .f32 s)] => .ite (decide (l.length = m ∧ m < 2147483648 ∧ s.length = q ∧ q < 2147483648)) (.ite (lsOk n l s h t) (.ret (.tup [.a (.sl 2 0 (lsV n l s h t).length), .a (.bool true)]) [.at r0 (.fl .f32 l), .at r1 (.fl .f32 s), .at true (.fl .f32 (lsV n l s h t))]) (.ret (.tup [.a .nil, .a (.bool false)]) [.at r0 (.fl .f32 l), .at r1 (.fl .f32 s)])) .no
  | _, _ => .no
theorem outOk_of {N k : Nat} {l : List Nat} (h1 : 1 ≤ N) (h6 : N ≤ 6) (hk : k < N) (hl : l.length = N * N) : outOk (N : Int) l.length l (k : Int) = true := by
  have hNN : ((N : Int) * (N : Int)) = ((N * N : Nat) : Int) := (Int.natCast_mul _ _).symm
  exact decide_eq_true ⟨rfl, by omega, by omega, by omega, by omega, by rw [hNN]; omega⟩
theorem inC_lsI {R : Type} (K : X → St → Option R) {N : Nat} (h1 : 1 ≤ N) (h6 : N ≤ 6) {l : List Nat} (hl : l.length = N * N) (h T ol : Nat) (tt : Int) (k : Nat) (hk : k < N) (r0 r1 : Bool) (s now out : List Nat) (hn : now.length = N) :
    lp_lsI12 600 600 (st_lsI12 (N : Int) l.length h N ol (k : Int) 0 ((T : Nat) : Int) tt 0 r0 l r1 s now out) K = K (.exit 4) (en_lsI12_0 (N : Int) l.length h N ol (k : Int) (comeF N l now k) ((T : Nat) : Int) tt r0 l r1 s now out) := by
  have hc := count_up N (fun i s' => fop .add .f32 s' (fop .mul .f32 (now.getD i 0) (l.getD (i * N + k) 0))) (fun M i s' => lp_lsI12 600 M (st_lsI12 (N : Int) l.length h N ol (k : Int) s' ((T : Nat) : Int) tt (i : Int) r0 l r1 s now out) K) (fun s' => K (.exit 4) (en_lsI12_0 (N : Int) l.length h N ol (k : Int) s' ((T : Nat) : Int) tt r0 l r1 s now out)) (fun _ _ => True) (fun M i s' hi _ => ⟨?_, trivial⟩) (fun M s' _ => ?_) N 0 0 (by omega) trivial (599 - N)
  · rw [show N + 1 + (599 - N) = 600 by omega] at hc
    exact hc
  · obtain ⟨hlt, h36⟩ := cell_lt (i := i) (k := k) h6 hi hk
    have hiN : ((i : Int) * (N : Int)) = ((i * N : Nat) : Int) := (Int.natCast_mul _ _).symm
    have w1 : IntKind.i64.wrap ((i : Int) * (N : Int)) = ((i * N : Nat) : Int) := by rw [hiN]; exact wrap_m (by omega) (by omega)
    have w2 : IntKind.i64.wrap (((i * N : Nat) : Int) + (k : Int)) = ((i * N + k : Nat) : Int) := by rw [wrap_m (by omega) (by omega)]; omega
    rw [step_lsI12, dlt hi, din hi, ix, getD_some' (show i < now.length by omega), w1, w2, din (show i * N + k < l.length by omega), ix, getD_some' (show i * N + k < l.length by omega), wr (show i < 2147483648 by omega)]
  · rw [step_lsI12, dge (Nat.le_refl _)]
theorem inB_lsI {R : Type} (M0 : Nat) (K0 : X → St → Option R) {N : Nat} (h1 : 1 ≤ N) (h6 : N ≤ 6) {l : List Nat} (hl : l.length = N * N) (h T : Nat) (tt : Int) (r0 r1 : Bool) (s now : List Nat) (hn : now.length = N) :
    lp_lsI8 600 600 (st_lsI8 (N : Int) l.length h N ([] : List Nat).length ((T : Nat) : Int) tt 0 r0 l r1 s now ([] : List Nat)) (kt_lsI8 600 (bk_lsI5 600 M0 K0)) = kt_lsI8 600 (bk_lsI5 600 M0 K0) (.exit 2) (en_lsI8_0 (N : Int) l.length h N ((T : Nat) : Int) tt r0 l r1 s (stepF N l h now)) := by
  have hc := count_up N (fun k out => out ++ [cellF N l h now k]) (fun M k out => lp_lsI8 600 M (st_lsI8 (N : Int) l.length h N out.length ((T : Nat) : Int) tt (k : Int) r0 l r1 s now out) (kt_lsI8 600 (bk_lsI5 600 M0 K0))) (fun out => kt_lsI8 600 (bk_lsI5 600 M0 K0) (.exit 2) (en_lsI8_0 (N : Int) l.length h N ((T : Nat) : Int) tt r0 l r1 s out)) (fun k out => out.length = k)
    (fun M k out hk ho => ?_) (fun M out ho => ?_) N 0 [] (by omega) rfl (599 - N)
  · rw [show N + 1 + (599 - N) = 600 by omega, rounds_append] at hc
    exact hc
  · refine ⟨?_, by simp [ho]⟩
    rw [step_lsI8, dlt hk]
    try dsimp only
    rw [inC_lsI _ h1 h6 hl h T _ tt k hk r0 r1 s now out hn, end_lsI12_0, din (show k < N from hk), ix, getD_some' (show k < now.length by omega), outOk_of h1 h6 hk hl, apc rfl (show out.length < 2147483648 by omega) (by decide), wr (show k < 2147483648 by omega)]
    try dsimp only
    rw [show (out ++ [cellF N l h now k]).length = out.length + 1 by simp]
    rfl
  · rw [step_lsI8, dge (Nat.le_refl _)]
    try dsimp only
    rw [ho]
theorem inA_lsI {N : Nat} (h1 : 1 ≤ N) (h6 : N ≤ 6) {l : List Nat} (hl : l.length = N * N) (h T : Nat) (hT : T ≤ 512) (r0 r1 : Bool) (s : List Nat) (hn : s.length = N) :
    lp_lsI5 600 600 (st_lsI5 (N : Int) l.length h N ((T : Nat) : Int) 0 r0 l r1 s s) (kt_lsI5 600 (kEnd Try.f19 2)) = kt_lsI5 600 (kEnd Try.f19 2) (.exit 0) (en_lsI5_0 N r0 l r1 s (itF N l h T s)) := by
  have hc := count_up T (fun _ now => stepF N l h now) (fun M i now => lp_lsI5 600 M (st_lsI5 (N : Int) l.length h N ((T : Nat) : Int) (i : Int) r0 l r1 s now) (kt_lsI5 600 (kEnd Try.f19 2))) (fun now => kt_lsI5 600 (kEnd Try.f19 2) (.exit 0) (en_lsI5_0 N r0 l r1 s now)) (fun _ now => now.length = N)
    (fun M i now hi hw => ⟨?_, stepF_len N l h now⟩) (fun M now hw => ?_) T 0 s (by omega) hn (599 - T)
  · rw [show T + 1 + (599 - T) = 600 by omega] at hc
    exact hc
  · rw [step_lsI5, dlt hi]
    try dsimp only
    refine Eq.trans (inB_lsI M (kt_lsI5 600 (kEnd Try.f19 2)) h1 h6 hl h T (i : Int) r0 r1 s now hw) ?_
    rw [end_lsI8_0, wr (show i < 2147483648 by omega)]
  · rw [step_lsI5, dge (Nat.le_refl _)]
theorem ok_lsI : FnT Try.prog 19 gLs := by
  refine fnT tabok_lsI Try.func19 rfl rfl an_lsI fun vs h v h' e => ⟨600, ?_⟩
  unfold gLs at e
  split at e
  case h_2 => exact (T.no_inv e).elim
  rename_i n m q x t r0 l r1 s
  obtain ⟨hd, e2⟩ := T.pre_inv e
  obtain ⟨rfl, hb, rfl, hb2⟩ := of_decide_eq_true hd
  refine Eq.trans (run_lsI 600 n l.length s.length x t r0 l r1 s) (Eq.trans ?_ e2)
  clear e e2
  rw [T.run_ite, T.run_ret, T.run_ret, decide_eq_true (show l.length = l.length ∧ l.length < 2147483648 from ⟨rfl, hb⟩)]
  unfold lsOk
  cases hr : ratesB n l with
  | false => rfl
  | true =>
    have hr' := hr
    unfold ratesB at hr'
    simp only [Bool.and_eq_true] at hr'
    have hn6 := inB_iff.mp hr'.1
    have hlen := of_decide_eq_true hr'.2.1
    obtain ⟨N, rfl⟩ : ∃ N : Nat, n = (N : Int) := ⟨n.toNat, by omega⟩
    have hNN : ((N : Int) * (N : Int)) = ((N * N : Nat) : Int) := (Int.natCast_mul _ _).symm
    rw [hNN] at hlen
    rw [neq_dec]
    try dsimp only [Bool.not_true]
    by_cases hq : s.length = N
    case neg =>
      rw [decide_eq_false (show ¬ ((s.length : Nat) : Int) = (N : Int) by omega)]
      rfl
    rw [decide_eq_true (show ((s.length : Nat) : Int) = (N : Int) by omega), decide_eq_true (show s.length = s.length ∧ s.length < 2147483648 from ⟨rfl, hb2⟩)]
    try dsimp only [Bool.not_true]
    cases hf : s.all finB with
    | false => rfl
    | true =>
      try dsimp only [Bool.not_true]
      cases hst : stepsB x t with
      | false => rfl
      | true =>
        have hst' := hst
        unfold stepsB at hst'
        rw [Bool.and_eq_true] at hst'
        have ht := inB_iff.mp hst'.2
        obtain ⟨T, rfl⟩ : ∃ T : Nat, t = (T : Int) := ⟨t.toNat, by omega⟩
        try dsimp only [Bool.not_true]
        have hA := inA_lsI (N := N) (by omega) (by omega) (l := l) (by omega) x T (by omega) r0 r1 s hq
        rw [decide_eq_true (show s.length = s.length ∧ 1 ≤ s.length ∧ s.length < 2147483648 from ⟨rfl, by omega, hb2⟩)]
        try dsimp only
        rw [hq]
        refine Eq.trans hA ?_
        have hil : (itF N l x T s).length = N := itF_len N l x T 0 s hq
        have hv : lsV (N : Int) l s x (T : Int) = itF N l x T s := rfl
        rw [end_lsI5_0, hv, decide_eq_true (show (itF N l x T s).length = N ∧ N < 2147483648 from ⟨hil, by omega⟩), hil]
        try dsimp only
        cases (itF N l x T s).all finB <;> rfl
theorem inC_lsS {R : Type} (K : X → St → Option R) {N : Nat} (h1 : 1 ≤ N) (h6 : N ≤ 6) {l : List Nat} (hl : l.length = N * N) (h T ol : Nat) (tt : Int) (k : Nat) (hk : k < N) (r0 r1 : Bool) (s now out : List Nat) (hn : now.length = N) :
    lp_lsS13 600 600 (st_lsS13 (N : Int) l.length h ((T : Nat) : Int) N tt ol (k : Int) 0 0 r0 l r1 s now out) K = K (.exit 4) (en_lsS13_0 (N : Int) l.length h ((T : Nat) : Int) N tt ol (k : Int) (comeF N l now k) r0 l r1 s now out) := by
  have hc := count_up N (fun i s' => fop .add .f32 s' (fop .mul .f32 (now.getD i 0) (l.getD (i * N + k) 0))) (fun M i s' => lp_lsS13 600 M (st_lsS13 (N : Int) l.length h ((T : Nat) : Int) N tt ol (k : Int) s' (i : Int) r0 l r1 s now out) K) (fun s' => K (.exit 4) (en_lsS13_0 (N : Int) l.length h ((T : Nat) : Int) N tt ol (k : Int) s' r0 l r1 s now out)) (fun _ _ => True) (fun M i s' hi _ => ⟨?_, trivial⟩) (fun M s' _ => ?_) N 0 0 (by omega) trivial (599 - N)
  · rw [show N + 1 + (599 - N) = 600 by omega] at hc
    exact hc
  · obtain ⟨hlt, h36⟩ := cell_lt (i := i) (k := k) h6 hi hk
    have hiN : ((i : Int) * (N : Int)) = ((i * N : Nat) : Int) := (Int.natCast_mul _ _).symm
    have w1 : IntKind.i64.wrap ((i : Int) * (N : Int)) = ((i * N : Nat) : Int) := by rw [hiN]; exact wrap_m (by omega) (by omega)
    have w2 : IntKind.i64.wrap (((i * N : Nat) : Int) + (k : Int)) = ((i * N + k : Nat) : Int) := by rw [wrap_m (by omega) (by omega)]; omega
    rw [step_lsS13, dlt hi, din hi, ix, getD_some' (show i < now.length by omega), w1, w2, din (show i * N + k < l.length by omega), ix, getD_some' (show i * N + k < l.length by omega), wr (show i < 2147483648 by omega)]
  · rw [step_lsS13, dge (Nat.le_refl _)]
theorem inB_lsS {R : Type} (M0 : Nat) (K0 : X → St → Option R) {N : Nat} (h1 : 1 ≤ N) (h6 : N ≤ 6) {l : List Nat} (hl : l.length = N * N) (h T : Nat) (tt : Int) (r0 r1 : Bool) (s now : List Nat) (hn : now.length = N) :
    lp_lsS9 600 600 (st_lsS9 (N : Int) l.length h ((T : Nat) : Int) N tt ([] : List Nat).length 0 r0 l r1 s now ([] : List Nat)) (kt_lsS9 600 (bk_lsS5 600 M0 K0)) = kt_lsS9 600 (bk_lsS5 600 M0 K0) (.exit 2) (en_lsS9_0 (N : Int) l.length h ((T : Nat) : Int) tt N r0 l r1 s (stepF N l h now)) := by
  have hc := count_up N (fun k out => out ++ [cellF N l h now k]) (fun M k out => lp_lsS9 600 M (st_lsS9 (N : Int) l.length h ((T : Nat) : Int) N tt out.length (k : Int) r0 l r1 s now out) (kt_lsS9 600 (bk_lsS5 600 M0 K0))) (fun out => kt_lsS9 600 (bk_lsS5 600 M0 K0) (.exit 2) (en_lsS9_0 (N : Int) l.length h ((T : Nat) : Int) tt N r0 l r1 s out)) (fun k out => out.length = k)
    (fun M k out hk ho => ?_) (fun M out ho => ?_) N 0 [] (by omega) rfl (599 - N)
  · rw [show N + 1 + (599 - N) = 600 by omega, rounds_append] at hc
    exact hc
  · refine ⟨?_, by simp [ho]⟩
    rw [step_lsS9, dlt hk]
    try dsimp only
    rw [inC_lsS _ h1 h6 hl h T _ tt k hk r0 r1 s now out hn, end_lsS13_0, din (show k < N from hk), ix, getD_some' (show k < now.length by omega), outOk_of h1 h6 hk hl, apc rfl (show out.length < 2147483648 by omega) (by decide), wr (show k < 2147483648 by omega)]
    try dsimp only
    rw [show (out ++ [cellF N l h now k]).length = out.length + 1 by simp]
    rfl
  · rw [step_lsS9, dge (Nat.le_refl _)]
    try dsimp only
    rw [ho]
theorem inA_lsS {N : Nat} (h1 : 1 ≤ N) (h6 : N ≤ 6) {l : List Nat} (hl : l.length = N * N) (h T : Nat) (hT : T ≤ 512) (r0 r1 : Bool) (s : List Nat) (hn : s.length = N) :
    lp_lsS5 600 600 (st_lsS5 (N : Int) l.length h ((T : Nat) : Int) N 0 r0 l r1 s s) (kt_lsS5 600 (kEnd Try.f17 2)) = kt_lsS5 600 (kEnd Try.f17 2) (.exit 0) (en_lsS5_0 N r0 l r1 s (itF N l h T s)) := by
  have hc := count_up T (fun _ now => stepF N l h now) (fun M i now => lp_lsS5 600 M (st_lsS5 (N : Int) l.length h ((T : Nat) : Int) N (i : Int) r0 l r1 s now) (kt_lsS5 600 (kEnd Try.f17 2))) (fun now => kt_lsS5 600 (kEnd Try.f17 2) (.exit 0) (en_lsS5_0 N r0 l r1 s now)) (fun _ now => now.length = N)
    (fun M i now hi hw => ⟨?_, stepF_len N l h now⟩) (fun M now hw => ?_) T 0 s (by omega) hn (599 - T)
  · rw [show T + 1 + (599 - T) = 600 by omega] at hc
    exact hc
  · rw [step_lsS5, dlt hi]
    try dsimp only
    refine Eq.trans (inB_lsS M (kt_lsS5 600 (kEnd Try.f17 2)) h1 h6 hl h T (i : Int) r0 r1 s now hw) ?_
    rw [end_lsS9_0, wr (show i < 2147483648 by omega)]
  · rw [step_lsS5, dge (Nat.le_refl _)]
theorem ok_lsS : FnT Try.prog 17 gLs := by
  refine fnT tabok_lsS Try.func17 rfl rfl an_lsS fun vs h v h' e => ⟨600, ?_⟩
  unfold gLs at e
  split at e
  case h_2 => exact (T.no_inv e).elim
  rename_i n m q x t r0 l r1 s
  obtain ⟨hd, e2⟩ := T.pre_inv e
  obtain ⟨rfl, hb, rfl, hb2⟩ := of_decide_eq_true hd
  refine Eq.trans (run_lsS 600 n l.length s.length x t r0 l r1 s) (Eq.trans ?_ e2)
  clear e e2
  rw [T.run_ite, T.run_ret, T.run_ret, decide_eq_true (show l.length = l.length ∧ l.length < 2147483648 from ⟨rfl, hb⟩)]
  unfold lsOk
  cases hr : ratesB n l with
  | false => rfl
  | true =>
    have hr' := hr
    unfold ratesB at hr'
    simp only [Bool.and_eq_true] at hr'
    have hn6 := inB_iff.mp hr'.1
    have hlen := of_decide_eq_true hr'.2.1
    obtain ⟨N, rfl⟩ : ∃ N : Nat, n = (N : Int) := ⟨n.toNat, by omega⟩
    have hNN : ((N : Int) * (N : Int)) = ((N * N : Nat) : Int) := (Int.natCast_mul _ _).symm
    rw [hNN] at hlen
    rw [neq_dec]
    try dsimp only [Bool.not_true]
    by_cases hq : s.length = N
    case neg =>
      rw [decide_eq_false (show ¬ ((s.length : Nat) : Int) = (N : Int) by omega)]
      rfl
    rw [decide_eq_true (show ((s.length : Nat) : Int) = (N : Int) by omega), decide_eq_true (show s.length = s.length ∧ s.length < 2147483648 from ⟨rfl, hb2⟩)]
    try dsimp only [Bool.not_true]
    cases hf : s.all finB with
    | false => rfl
    | true =>
      try dsimp only [Bool.not_true]
      cases hst : stepsB x t with
      | false => rfl
      | true =>
        have hst' := hst
        unfold stepsB at hst'
        rw [Bool.and_eq_true] at hst'
        have ht := inB_iff.mp hst'.2
        obtain ⟨T, rfl⟩ : ∃ T : Nat, t = (T : Int) := ⟨t.toNat, by omega⟩
        try dsimp only [Bool.not_true]
        have hA := inA_lsS (N := N) (by omega) (by omega) (l := l) (by omega) x T (by omega) r0 r1 s hq
        rw [decide_eq_true (show 0 + s.length * 1 ≤ s.length by omega)]
        have hap : apok true 0 1 0 1 (0 + s.length) 4 = true := by
          unfold apok boundB
          rw [decide_eq_true (show 0 * 1 = 0 ∧ 1 = 1 from ⟨rfl, rfl⟩), decide_eq_true (show 0 + s.length ≤ 9223372036854775807 ∧ (0 + s.length) * 4 ≤ 140737488355328 by omega)]
          rfl
        try dsimp only
        rw [hap]
        simp only [Nat.zero_add, Nat.mul_one, List.drop_zero, List.take_length, List.nil_append]
        rw [hq]
        refine Eq.trans hA ?_
        have hil : (itF N l x T s).length = N := itF_len N l x T 0 s hq
        have hv : lsV (N : Int) l s x (T : Int) = itF N l x T s := rfl
        rw [end_lsS5_0, hv, decide_eq_true (show (itF N l x T s).length = N ∧ N < 2147483648 from ⟨hil, by omega⟩), hil]
        try dsimp only
        cases (itF N l x T s).all finB <;> rfl
end Go.Proofs.Ytobbmffldbbhpaa.Ab

/- Whole numbers and fractions of any size. Only lemmas. Printed by gen_num.py. -/
import Derived.Test.YtbhfjdlhhjeknaaPtr
import Derived.Test.YtbhfjdlhhjeknaaCell
namespace Go.Proofs.Ytbhfjdlhhjeknaa.Ab
set_option linter.unusedVariables false
set_option linter.unusedSimpArgs false
open Go
def tab_newInt : Fns := tabT [(160, gPut)]
theorem tabok_newInt : ∀ f, FnT Try.prog f (tab_newInt f) := (tabT_cons (k := 160) ok_put tabT_nil)
theorem run_newInt (N : Nat) (n : Int) : run ty tab_newInt ann0 N Try.f119 [.int .i64 n] []
    = (match decide ((n : Int) < 0) with
  | true => (match decide (2 = [IntKind.u32.wrap (IntKind.u64.wrap (0 - (IntKind.u64.wrap n))), IntKind.u32.wrap (Int.fdiv (IntKind.u64.wrap (0 - (IntKind.u64.wrap n))) (2 ^ 32))].length) && digB [IntKind.u32.wrap (IntKind.u64.wrap (0 - (IntKind.u64.wrap n))), IntKind.u32.wrap (Int.fdiv (IntKind.u64.wrap (0 - (IntKind.u64.wrap n))) (2 ^ 32))] with
    | true => some (.ptr 0 0, [.at true (.as 1 [.bool ((decide ((n : Int) < 0)) && (decide (0 < nv [IntKind.u32.wrap (IntKind.u64.wrap (0 - (IntKind.u64.wrap n))), IntKind.u32.wrap (Int.fdiv (IntKind.u64.wrap (0 - (IntKind.u64.wrap n))) (2 ^ 32))]))), .big (nv [IntKind.u32.wrap (IntKind.u64.wrap (0 - (IntKind.u64.wrap n))), IntKind.u32.wrap (Int.fdiv (IntKind.u64.wrap (0 - (IntKind.u64.wrap n))) (2 ^ 32))])])])
    | false => none)
  | false => (match decide (2 = [IntKind.u32.wrap (IntKind.u64.wrap n), IntKind.u32.wrap (Int.fdiv (IntKind.u64.wrap n) (2 ^ 32))].length) && digB [IntKind.u32.wrap (IntKind.u64.wrap n), IntKind.u32.wrap (Int.fdiv (IntKind.u64.wrap n) (2 ^ 32))] with
    | true => some (.ptr 0 0, [.at true (.as 1 [.bool ((decide ((n : Int) < 0)) && (decide (0 < nv [IntKind.u32.wrap (IntKind.u64.wrap n), IntKind.u32.wrap (Int.fdiv (IntKind.u64.wrap n) (2 ^ 32))]))), .big (nv [IntKind.u32.wrap (IntKind.u64.wrap n), IntKind.u32.wrap (Int.fdiv (IntKind.u64.wrap n) (2 ^ 32))])])])
    | false => none)) := by
  kernel_rfl

def inI64 (n : Int) : Bool := decide (-9223372036854775808 ≤ n ∧ n < 9223372036854775808)
def gNewInt : GT := fun vs h => match vs, h with
  | [.int .i64 n], [] => .ite (inI64 n) (.ret (.ptr 0 0) [.at true (.as 1 [.bool (decide (n < 0)), .big n.natAbs])]) .no
  | _, _ => .no
theorem two_digits {a : Nat} (ha : a < 18446744073709551616) : digB [IntKind.u32.wrap (a : Int), IntKind.u32.wrap (Int.fdiv (a : Int) (2 ^ 32))] = true ∧ nv [IntKind.u32.wrap (a : Int), IntKind.u32.wrap (Int.fdiv (a : Int) (2 ^ 32))] = a := by
  rw [shr32, wrap32, wrap32]
  refine ⟨?_, ?_⟩
  · rw [digB_iff]
    intro d hd
    simp at hd
    omega
  · simp only [nv, Int.toNat_natCast]
    omega
theorem ok_newInt : FnT Try.prog 119 gNewInt := by
  refine fnT tabok_newInt Try.func119 rfl rfl ann0 fun vs h v h' e => ⟨0, ?_⟩
  unfold gNewInt at e
  split at e
  case h_2 => exact (T.no_inv e).elim
  rename_i n
  obtain ⟨hd, e⟩ := T.pre_inv e
  obtain ⟨rfl, rfl⟩ := T.ret_inv e
  have hn := of_decide_eq_true hd
  obtain ⟨a, ha⟩ : ∃ a : Nat, a = n.natAbs := ⟨_, rfl⟩
  obtain ⟨d1, d2⟩ := two_digits (a := a) (by omega)
  refine Eq.trans (run_newInt 0 n) ?_
  by_cases h0 : n < 0
  · have e1 : IntKind.u64.wrap (0 - IntKind.u64.wrap n) = (a : Int) := by
      simp only [IntKind.wrap, IntKind.signed, IntKind.bits]
      first | omega | (simp; omega)
    have hp : decide (0 < a) = true := decide_eq_true (by omega)
    rw [e1, d1, d2, hp, ← ha, decide_eq_true h0]
    rfl
  · have e1 : IntKind.u64.wrap n = (a : Int) := by
      rw [show n = (a : Int) by omega, wrap64 (by omega)]
    rw [e1, d1, d2, ← ha, decide_eq_false h0]
    rfl
def sgI (s : Bool) (v : Nat) : Int := match s with | true => -(v : Int) | false => (v : Int)
def gAddI : GT := fun vs h => match vs, h with
  | [.ptr 0 0, .ptr 0 0, .ptr 1 0], [.at true (.as 1 [.bool s, .big v]), .at r (.as 1 [.bool t, .big x])] =>
    .ite (lowB v && lowB x) (.ret (.ptr 0 0) [.at true (.as 1 [.bool (decide (sgI s v + sgI t x < 0)), .big (sgI s v + sgI t x).natAbs]), .at r (.as 1 [.bool t, .big x])]) .no
  | [.ptr 0 0, .ptr 1 0, .ptr 2 0], [.at true (.as 1 [.bool _, .big _]), .at r (.as 1 [.bool s, .big v]), .at q (.as 1 [.bool t, .big x])] =>
    .ite (lowB v && lowB x) (.ret (.ptr 0 0) [.at true (.as 1 [.bool (decide (sgI s v + sgI t x < 0)), .big (sgI s v + sgI t x).natAbs]), .at r (.as 1 [.bool s, .big v]), .at q (.as 1 [.bool t, .big x])]) .no
  | _, _ => .no
theorem dec_iff {p q : Prop} [Decidable p] [Decidable q] (h : p ↔ q) : decide p = decide q := by simp [h]
theorem add_same {s : Bool} {v x : Nat} : (s && decide (0 < v + x)) = decide (sgI s v + sgI s x < 0) ∧ v + x = (sgI s v + sgI s x).natAbs := by
  cases s
  · refine ⟨(decide_eq_false ?_).symm, ?_⟩
    · show ¬ ((v : Int) + (x : Int) < 0); omega
    · show v + x = ((v : Int) + (x : Int)).natAbs; omega
  · refine ⟨dec_iff ?_, ?_⟩
    · show 0 < v + x ↔ -(v : Int) + -(x : Int) < 0; omega
    · show v + x = (-(v : Int) + -(x : Int)).natAbs; omega
theorem add_ge {s : Bool} {v x : Nat} (h : x ≤ v) : (s && decide (0 < v - x)) = decide (sgI s v + sgI (!s) x < 0) ∧ v - x = (sgI s v + sgI (!s) x).natAbs := by
  cases s
  · refine ⟨(decide_eq_false ?_).symm, ?_⟩
    · show ¬ ((v : Int) + -(x : Int) < 0); omega
    · show v - x = ((v : Int) + -(x : Int)).natAbs; omega
  · refine ⟨dec_iff ?_, ?_⟩
    · show 0 < v - x ↔ -(v : Int) + (x : Int) < 0; omega
    · show v - x = (-(v : Int) + (x : Int)).natAbs; omega
theorem add_lt {s : Bool} {v x : Nat} (h : v ≤ x) : ((!s) && decide (0 < x - v)) = decide (sgI s v + sgI (!s) x < 0) ∧ x - v = (sgI s v + sgI (!s) x).natAbs := by
  cases s
  · refine ⟨dec_iff ?_, ?_⟩
    · show 0 < x - v ↔ (v : Int) + -(x : Int) < 0; omega
    · show x - v = ((v : Int) + -(x : Int)).natAbs; omega
  · refine ⟨(decide_eq_false ?_).symm, ?_⟩
    · show ¬ (-(v : Int) + (x : Int) < 0); omega
    · show x - v = (-(v : Int) + (x : Int)).natAbs; omega
def an_addX : Ann := ⟨fun r =>  none, fun r n => if r = 2 ∧ n = 13 then .grow else if r = 2 ∧ n = 14 then .plain else if r = 4 ∧ n = 13 then .grow else if r = 4 ∧ n = 14 then .plain else if r = 5 ∧ n = 13 then .grow else if r = 5 ∧ n = 14 then .plain else .quiet⟩
def tab_addX : Fns := tabT [(175, gBig2 (fun v w => v + w) (fun v w => lowB v && lowB w)), (160, gPut), (176, gBigC (fun v w => .int .i64 (cmpI v w)) (fun v w => lowB v && lowB w)), (177, gBig2 (fun v w => v - w) (fun v w => lowB v && lowB w && decide (w ≤ v)))]
theorem tabok_addX : ∀ f, FnT Try.prog f (tab_addX f) := (tabT_cons (k := 175) ok_addD (tabT_cons (k := 160) ok_put (tabT_cons (k := 176) ok_cmpD (tabT_cons (k := 177) ok_subD tabT_nil))))
theorem run_addX (N : Nat) (s : Bool) (v : Nat) (r : Bool) (t : Bool) (x : Nat) : run ty tab_addX an_addX N Try.f150 [.ptr 0 0, .ptr 0 0, .ptr 1 0] [.at true (.as 1 [.bool s, .big v]), .at r (.as 1 [.bool t, .big x])]
    = (match s == t with
  | true => (match lowB v && lowB x with
    | true => some (.ptr 0 0, [.at true (.as 1 [.bool (s && (decide (0 < v + x))), .big (v + x)]), .at r (.as 1 [.bool t, .big x])])
    | false => none)
  | false => (match lowB v && lowB x with
    | true => (match decide ((cmpI v x : Int) ≥ 0) with
      | true => (match lowB v && lowB x && decide (x ≤ v) with
        | true => some (.ptr 0 0, [.at true (.as 1 [.bool (s && (decide (0 < v - x))), .big (v - x)]), .at r (.as 1 [.bool t, .big x])])
        | false => none)
      | false => (match lowB x && lowB v && decide (v ≤ x) with
        | true => some (.ptr 0 0, [.at true (.as 1 [.bool (t && (decide (0 < x - v))), .big (x - v)]), .at r (.as 1 [.bool t, .big x])])
        | false => none))
    | false => none)) := by
  kernel_rfl

theorem H_addX (s r t : Bool) (v x : Nat) (hl : (lowB v && lowB x) = true) : run ty tab_addX an_addX 0 Try.f150 [.ptr 0 0, .ptr 0 0, .ptr 1 0] [.at true (.as 1 [.bool s, .big v]), .at r (.as 1 [.bool t, .big x])] =
    some (.ptr 0 0, [.at true (.as 1 [.bool (decide (sgI s v + sgI t x < 0)), .big (sgI s v + sgI t x).natAbs]), .at r (.as 1 [.bool t, .big x])]) := by
  refine Eq.trans (run_addX 0 s v r t x) ?_
  have hl2 : (lowB x && lowB v) = true := by rw [Bool.and_comm]; exact hl
  by_cases hst : s = t
  · subst hst
    rw [show (s == s) = true by simp, hl, ← add_same.1, ← add_same.2]
  · have ht : t = !s := by cases s <;> cases t <;> simp_all
    subst ht
    rw [show (s == !s) = false by cases s <;> rfl, hl]
    dsimp only
    by_cases hvx : x ≤ v
    · have hc : cmpI v x ≥ 0 := by unfold cmpI; rw [if_neg (by omega)]; split <;> omega
      have hle : decide (x ≤ v) = true := decide_eq_true hvx
      rw [decide_eq_true hc, hle, ← (add_ge hvx).1, ← (add_ge hvx).2]
      rfl
    · have hc : ¬ cmpI v x ≥ 0 := by unfold cmpI; rw [if_pos (by omega)]; omega
      have hle : decide (v ≤ x) = true := decide_eq_true (by omega)
      have hvx' : v ≤ x := by omega
      rw [decide_eq_false hc, hl2, hle, ← (add_lt hvx').1, ← (add_lt hvx').2]
      rfl
def an_addY : Ann := ⟨fun r =>  none, fun r n => if r = 2 ∧ n = 13 then .grow else if r = 2 ∧ n = 14 then .plain else if r = 4 ∧ n = 13 then .grow else if r = 4 ∧ n = 14 then .plain else if r = 5 ∧ n = 13 then .grow else if r = 5 ∧ n = 14 then .plain else .quiet⟩
def tab_addY : Fns := tabT [(175, gBig2 (fun v w => v + w) (fun v w => lowB v && lowB w)), (160, gPut), (176, gBigC (fun v w => .int .i64 (cmpI v w)) (fun v w => lowB v && lowB w)), (177, gBig2 (fun v w => v - w) (fun v w => lowB v && lowB w && decide (w ≤ v)))]
theorem tabok_addY : ∀ f, FnT Try.prog f (tab_addY f) := (tabT_cons (k := 175) ok_addD (tabT_cons (k := 160) ok_put (tabT_cons (k := 176) ok_cmpD (tabT_cons (k := 177) ok_subD tabT_nil))))
theorem run_addY (N : Nat) (s0 : Bool) (v0 : Nat) (r : Bool) (s : Bool) (v : Nat) (q : Bool) (t : Bool) (x : Nat) : run ty tab_addY an_addY N Try.f150 [.ptr 0 0, .ptr 1 0, .ptr 2 0] [.at true (.as 1 [.bool s0, .big v0]), .at r (.as 1 [.bool s, .big v]), .at q (.as 1 [.bool t, .big x])]
    = (match s == t with
  | true => (match lowB v && lowB x with
    | true => some (.ptr 0 0, [.at true (.as 1 [.bool (s && (decide (0 < v + x))), .big (v + x)]), .at r (.as 1 [.bool s, .big v]), .at q (.as 1 [.bool t, .big x])])
    | false => none)
  | false => (match lowB v && lowB x with
    | true => (match decide ((cmpI v x : Int) ≥ 0) with
      | true => (match lowB v && lowB x && decide (x ≤ v) with
        | true => some (.ptr 0 0, [.at true (.as 1 [.bool (s && (decide (0 < v - x))), .big (v - x)]), .at r (.as 1 [.bool s, .big v]), .at q (.as 1 [.bool t, .big x])])
        | false => none)
      | false => (match lowB x && lowB v && decide (v ≤ x) with
        | true => some (.ptr 0 0, [.at true (.as 1 [.bool (t && (decide (0 < x - v))), .big (x - v)]), .at r (.as 1 [.bool s, .big v]), .at q (.as 1 [.bool t, .big x])])
        | false => none))
    | false => none)) := by
  kernel_rfl

theorem H_addY (s0 r s q t : Bool) (v0 v x : Nat) (hl : (lowB v && lowB x) = true) : run ty tab_addY an_addY 0 Try.f150 [.ptr 0 0, .ptr 1 0, .ptr 2 0] [.at true (.as 1 [.bool s0, .big v0]), .at r (.as 1 [.bool s, .big v]), .at q (.as 1 [.bool t, .big x])] =
    some (.ptr 0 0, [.at true (.as 1 [.bool (decide (sgI s v + sgI t x < 0)), .big (sgI s v + sgI t x).natAbs]), .at r (.as 1 [.bool s, .big v]), .at q (.as 1 [.bool t, .big x])]) := by
  refine Eq.trans (run_addY 0 s0 v0 r s v q t x) ?_
  have hl2 : (lowB x && lowB v) = true := by rw [Bool.and_comm]; exact hl
  by_cases hst : s = t
  · subst hst
    rw [show (s == s) = true by simp, hl, ← add_same.1, ← add_same.2]
  · have ht : t = !s := by cases s <;> cases t <;> simp_all
    subst ht
    rw [show (s == !s) = false by cases s <;> rfl, hl]
    dsimp only
    by_cases hvx : x ≤ v
    · have hc : cmpI v x ≥ 0 := by unfold cmpI; rw [if_neg (by omega)]; split <;> omega
      have hle : decide (x ≤ v) = true := decide_eq_true hvx
      rw [decide_eq_true hc, hle, ← (add_ge hvx).1, ← (add_ge hvx).2]
      rfl
    · have hc : ¬ cmpI v x ≥ 0 := by unfold cmpI; rw [if_pos (by omega)]; omega
      have hle : decide (v ≤ x) = true := decide_eq_true (by omega)
      have hvx' : v ≤ x := by omega
      rw [decide_eq_false hc, hl2, hle, ← (add_lt hvx').1, ← (add_lt hvx').2]
      rfl
theorem ok_addI : FnT Try.prog 150 gAddI := by
  intro vs hp v h' e
  unfold gAddI at e
  split at e
  · rename_i s v r t x
    obtain ⟨hl, e⟩ := T.pre_inv e
    obtain ⟨rfl, rfl⟩ := T.ret_inv e
    exact FnT.runs tabok_addX Try.func150 rfl rfl an_addX 0 _ _ _ _ (by rw [T.run_of]; exact H_addX s r t v x hl)
  · rename_i s0 v0 r s v q t x
    obtain ⟨hl, e⟩ := T.pre_inv e
    obtain ⟨rfl, rfl⟩ := T.ret_inv e
    exact FnT.runs tabok_addY Try.func150 rfl rfl an_addY 0 _ _ _ _ (by rw [T.run_of]; exact H_addY s0 r s q t v0 v x hl)
  · exact (T.no_inv e).elim
def an_i64W : Ann := ⟨fun r => if r = 3 then some ([0, 3, 9, 10, 11], [0, 3]) else none, fun _ _ => .quiet⟩
def tab_i64W : Fns := tabT []
theorem tabok_i64W : ∀ f, FnT Try.prog f (tab_i64W f) := tabT_nil
def st_i64W3 (u3 : Int) (t9n : Nat) (t10 : Int) (t11 : Int) (rw0 : Bool) (b0_0 : Bool) (l1 : List Int) : St := ⟨[.ptr 0 0, .any, .any, .int .u64 u3, .any, .any, .any, .any, .any, .ro 1 t9n, .int .i64 t10, .int .i64 t11, .any, .any, .any, .any, .any, .any, .any, .any, .any, .any, .any, .any, .any, .any, .any, .any, .any, .any, .any, .any, .any, .any, .any], [.at rw0 (.as 1 [.bool b0_0, .ro 1 t9n]), .at false (.int .u32 l1)]⟩
abbrev kp_i64W3 : Option (List Nat × List Nat) := some ([0, 3, 9, 10, 11], [0, 3])
noncomputable def lp_i64W3 {R : Type} (N M : Nat) (s : St) (K : X → St → Option R) : Option R := loopH 2 kp_i64W3 (fun st K => exec ty tab_i64W an_i64W N 2 (atOf [true, true, false, true, false, false] Try.f167) st K) M s K
noncomputable def bk_i64W3 {R : Type} (N M : Nat) (K : X → St → Option R) : X → St → Option R := fun x st => match x with | .norm => tidyK 2 (kp_i64W3.map (·.1)) st fun st => lp_i64W3 N M st K | x => tidyK 2 (kp_i64W3.map (·.2)) st fun st => K x st
noncomputable def kt_i64W3 {R : Type} (N : Nat) (K : X → St → Option R) : X → St → Option R := kBlkR 0 (kSeqR tab_i64W an_i64W N 2 (atOf [true, true, true] Try.f167) (K))
def en_i64W3_0 (u3 : Int) (rw0 : Bool) (b0_0 : Bool) (b0_1n : Nat) (l1 : List Int) : St := ⟨[.ptr 0 0, .any, .any, .int .u64 u3, .any, .any, .any, .any, .any, .any, .any, .any, .any, .any, .any, .any, .any, .any, .any, .any, .any, .any, .any, .any, .any, .any, .any, .any, .any, .any, .any, .any, .any, .any, .any], [.at rw0 (.as 1 [.bool b0_0, .ro 1 b0_1n]), .at false (.int .u32 l1)]⟩
theorem run_i64W (N : Nat) (rw : Bool) (s : Bool) (n : Nat) (A : List Int) : run ty tab_i64W an_i64W N Try.f167 [.ptr 0 0] [.at rw (.as 1 [.bool s, .ro 1 n]), .at false (.int .u32 A)]
    = lp_i64W3 N N (st_i64W3 0 n ((n : Nat) : Int) 0 rw s A) (kt_i64W3 N (kEnd Try.f167 2)) := by
  kernel_rfl
theorem step_i64W3 {R : Type} (N M : Nat) (K : X → St → Option R) (u3 : Int) (t9n : Nat) (t10 : Int) (t11 : Int) (rw0 : Bool) (b0_0 : Bool) (l1 : List Int) : lp_i64W3 N (M + 1) (st_i64W3 u3 t9n t10 t11 rw0 b0_0 l1) K
    = (match decide ((t11 : Int) < t10) with
  | true => (match decide (0 ≤ (t11 : Int) ∧ (t11 : Int) < ((t9n : Nat) : Int)) with
    | true => (match l1[0 + (t11).toNat * 1]? with
      | some e1 => (match decide ((t11 : Int) < 2) with
        | true => (match decide (IntKind.i64.wrap (32 * t11) < 0) with
          | true => none
          | false => lp_i64W3 N M (st_i64W3 (IntKind.u64.wrap (BitVec.ofInt 64 u3 ||| BitVec.ofInt 64 (IntKind.u64.wrap ((IntKind.u64.wrap e1) * 2 ^ (min (Int.toNat (IntKind.i64.wrap (32 * t11))) 64)))).toNat) t9n t10 (IntKind.i64.wrap (t11 + 1)) rw0 b0_0 l1) K)
        | false => lp_i64W3 N M (st_i64W3 u3 t9n t10 (IntKind.i64.wrap (t11 + 1)) rw0 b0_0 l1) K)
      | none => none)
    | false => none)
  | false => K (.exit 0) (en_i64W3_0 u3 rw0 b0_0 t9n l1)) := by
  kernel_rfl
theorem end_i64W3_0 (N : Nat) (u3 : Int) (rw0 : Bool) (b0_0 : Bool) (b0_1n : Nat) (l1 : List Int) : kt_i64W3 N (kEnd Try.f167 2) (.exit 0) (en_i64W3_0 u3 rw0 b0_0 b0_1n l1)
    = (match b0_0 with
  | true => some (.int .i64 (IntKind.i64.wrap (IntKind.u64.wrap (0 - u3))), [.at rw0 (.as 1 [.bool b0_0, .ro 1 b0_1n]), .at false (.int .u32 l1)])
  | false => some (.int .i64 (IntKind.i64.wrap u3), [.at rw0 (.as 1 [.bool b0_0, .ro 1 b0_1n]), .at false (.int .u32 l1)])) := by
  kernel_rfl

def low63 (v : Nat) : Bool := decide (v < 9223372036854775808)
def gI64 : GT := gCellS (fun s v => .int .i64 (sgI s v)) (fun _ v => low63 v)
theorem ok_i64 : FnT Try.prog 167 gI64 := by
  refine FnT.cellS tabok_i64W Try.func167 rfl rfl an_i64W (fun s v => .int .i64 (sgI s v)) (fun _ _ => rfl) (fun _ v => low63 v) fun r s D hD hDl hlen hp => ⟨D.length + 1, ?_⟩
  have hlow := of_decide_eq_true hp
  unfold maxLen at hlen
  have hDv := nv_lt hD
  have hn2 : D.length ≤ 2 := trim_len hD hDl (Nat.lt_of_lt_of_le hlow (by decide))
  rw [run_i64W]
  refine loop_fuel (fun M (s' : Nat × Nat) => lp_i64W3 (D.length + 1) M (st_i64W3 (s'.2 : Int) D.length (D.length : Int) (s'.1 : Int) r s D) (kt_i64W3 (D.length + 1) (kEnd Try.f167 2))) (fun s' => s'.1 ≤ D.length ∧ s'.2 = nv D % 4294967296 ^ s'.1) (fun s' => D.length - s'.1)
    (fun o => o = some (.int .i64 (sgI s (nv D)), [.at r (.as 1 [.bool s, .ro 1 D.length]), .at false (.int .u32 D)])) (fun M s' hs => ?_) (s := (0, 0)) ⟨Nat.zero_le _, by simp [Nat.mod_one]⟩ (by dsimp only; omega)
  obtain ⟨i, u⟩ := s'
  obtain ⟨hi, hu⟩ := hs
  dsimp only at hi hu ⊢
  by_cases h1 : i < D.length
  · right
    obtain ⟨x, hx, hxb, hxd⟩ := nat_get hD h1
    have hsh : ∃ y : Nat, IntKind.i64.wrap (32 * (i : Int)) = (y : Int) ∧ min (Int.toNat (y : Int)) 64 = y ∧ 4294967296 ^ i = 2 ^ y ∧ y ≤ 32 := by
      match i, h1 with
      | 0, _ => exact ⟨0, rfl, rfl, rfl, by omega⟩
      | 1, _ => exact ⟨32, rfl, rfl, rfl, by omega⟩
      | i + 2, h1 => omega
    obtain ⟨y, y1, y2, y3, y4⟩ := hsh
    have huc : u < 2 ^ y := by rw [hu, ← y3]; exact Nat.mod_lt _ (bpow_pos i)
    have hxy : x * 2 ^ y ≤ 4294967295 * 4294967296 := Nat.mul_le_mul (by omega) (Nat.pow_le_pow_right (n := 2) (by decide) y4)
    have hu32 : 2 ^ y ≤ 4294967296 := Nat.pow_le_pow_right (n := 2) (by decide) y4
    refine ⟨(i + 1, u + x * 2 ^ y), ⟨h1, ?_⟩, by dsimp only; omega, ?_⟩
    · dsimp only
      rw [mod_succ, ← hxd, hu, y3, Nat.mul_comm x]
    · obtain ⟨X, hX⟩ : ∃ X, X = x * 2 ^ y := ⟨_, rfl⟩
      obtain ⟨P, hP⟩ : ∃ P : Int, P = 2 ^ y := ⟨_, rfl⟩
      have e1 : IntKind.u64.wrap (IntKind.u64.wrap (x : Int) * P) = (X : Int) := by
        rw [hP, wrap64 (n := x) (by omega), show (x : Int) * 2 ^ y = ((x * 2 ^ y : Nat) : Int) by rw [Int.natCast_mul, Int.natCast_pow]; rfl, wrap64 (by omega), hX]
      have e2 : IntKind.u64.wrap (((BitVec.ofInt 64 (u : Int) ||| BitVec.ofInt 64 (X : Int)).toNat : Nat) : Int) = ((u + X : Nat) : Int) := by
        rw [hX, or_shift huc (by omega), wrap64 (by omega)]
      have hneg : decide ((y : Int) < 0) = false := decide_eq_false (by omega)
      have h2 : decide ((i : Int) < 2) = true := decide_eq_true (by omega)
      rw [step_i64W3, dlt h1, din h1, y1, y2, ← hP, h2, hneg, wr (show i < 2147483648 by omega)]
      rw [← hX]
      simp only [ix, hx, e1, e2]
  · left
    have e : i = D.length := by omega
    subst e
    rw [mod_all hDv (Nat.le_refl _)] at hu
    subst hu
    simp only [step_i64W3, dge (Nat.le_refl _), end_i64W3_0]
    cases s
    · have e1 : IntKind.i64.wrap ((nv D : Nat) : Int) = (nv D : Int) := wrap_s (by omega) (by omega)
      simp only [e1, sgI]
    · have e1 : IntKind.i64.wrap (IntKind.u64.wrap (0 - ((nv D : Nat) : Int))) = -(nv D : Int) := by
        generalize nv D = a at hlow
        simp only [IntKind.wrap, IntKind.signed, IntKind.bits]
        first | omega | (simp; omega) | (split <;> omega)
      simp only [e1, sgI]
def an_A_exactIntSub_0 : Ann := ⟨fun r =>  none, fun r n => if r = 1 ∧ n = 12 then .plain else if r = 1 ∧ n = 13 then .plain else .quiet⟩
def tab_A_exactIntSub_0 : Fns := tabT [(160, gPut), (150, gAddI)]
theorem tabok_A_exactIntSub_0 : ∀ f, FnT Try.prog f (tab_A_exactIntSub_0 f) := (tabT_cons (k := 160) ok_put (tabT_cons (k := 150) ok_addI tabT_nil))
theorem run_A_exactIntSub_0 (N : Nat) (b0_0 : Bool) (b0_1 : Nat) (b1_0 : Bool) (b1_1 : Nat) (r2 : Bool) (b2_0 : Bool) (b2_1 : Nat) : run ty tab_A_exactIntSub_0 an_A_exactIntSub_0 N Try.f149 [.ptr 0 0, .ptr 1 0, .ptr 2 0] [.at true (.as 1 [.bool b0_0, .big b0_1]), .at true (.as 1 [.bool b1_0, .big b1_1]), .at r2 (.as 1 [.bool b2_0, .big b2_1])]
    = (match lowB b1_1 && lowB b2_1 with
  | true => some (.ptr 0 0, [.at true (.as 1 [.bool (decide ((sgI b1_0 b1_1) + (sgI (!b2_0 && (decide (0 < b2_1))) b2_1) < 0)), .big (((sgI b1_0 b1_1) + (sgI (!b2_0 && (decide (0 < b2_1))) b2_1)).natAbs)]), .at true (.as 1 [.bool b1_0, .big b1_1]), .at r2 (.as 1 [.bool b2_0, .big b2_1])])
  | false => none) := by
  kernel_rfl

def gA_exactIntSub : GT := fun vs h => match vs, h with
  | [.ptr 0 0, .ptr 1 0, .ptr 2 0], [.at true (.as 1 [.bool b0_0, .big b0_1]), .at true (.as 1 [.bool b1_0, .big b1_1]), .at r2 (.as 1 [.bool b2_0, .big b2_1])] => .ite (lowB b1_1 && lowB b2_1) (.ret (.ptr 0 0) [.at true (.as 1 [.bool (decide ((sgI b1_0 b1_1) + (sgI (!b2_0 && (decide (0 < b2_1))) b2_1) < 0)), .big (((sgI b1_0 b1_1) + (sgI (!b2_0 && (decide (0 < b2_1))) b2_1)).natAbs)]), .at true (.as 1 [.bool b1_0, .big b1_1]), .at r2 (.as 1 [.bool b2_0, .big b2_1])]) (.no)
  | _, _ => .no
theorem okA_exactIntSub : FnT Try.prog 149 gA_exactIntSub := by
  intro vs hp v h' e
  unfold gA_exactIntSub at e
  split at e
  · exact FnT.runs tabok_A_exactIntSub_0 Try.func149 rfl rfl an_A_exactIntSub_0 0 _ _ v h' (by rw [T.run_of]; exact Eq.trans (run_A_exactIntSub_0 0 _ _ _ _ _ _ _) e)
  · exact (T.no_inv e).elim
def tab_A_exactIntSign_0 : Fns := tabT []
theorem tabok_A_exactIntSign_0 : ∀ f, FnT Try.prog f (tab_A_exactIntSign_0 f) := tabT_nil
theorem run_A_exactIntSign_0 (N : Nat) (b0_0 : Bool) (b0_1 : Nat) : run ty tab_A_exactIntSign_0 ann0 N Try.f151 [.ptr 0 0] [.at true (.as 1 [.bool b0_0, .big b0_1])]
    = (match b0_0 with
  | true => some (.int .i64 (-1), [.at true (.as 1 [.bool b0_0, .big b0_1])])
  | false => (match decide ((((ndig b0_1 : Nat) : Int) : Int) > 0) with
    | true => some (.int .i64 1, [.at true (.as 1 [.bool b0_0, .big b0_1])])
    | false => some (.int .i64 0, [.at true (.as 1 [.bool b0_0, .big b0_1])]))) := by
  kernel_rfl

def gA_exactIntSign : GT := fun vs h => match vs, h with
  | [.ptr 0 0], [.at true (.as 1 [.bool b0_0, .big b0_1])] => .ite (b0_0) (.ret (.int .i64 (-1)) [.at true (.as 1 [.bool b0_0, .big b0_1])]) (.ite (decide ((((ndig b0_1 : Nat) : Int) : Int) > 0)) (.ret (.int .i64 1) [.at true (.as 1 [.bool b0_0, .big b0_1])]) (.ret (.int .i64 0) [.at true (.as 1 [.bool b0_0, .big b0_1])]))
  | _, _ => .no
theorem okA_exactIntSign : FnT Try.prog 151 gA_exactIntSign := by
  intro vs hp v h' e
  unfold gA_exactIntSign at e
  split at e
  · exact FnT.runs tabok_A_exactIntSign_0 Try.func151 rfl rfl ann0 0 _ _ v h' (by rw [T.run_of]; exact Eq.trans (run_A_exactIntSign_0 0 _ _) e)
  · exact (T.no_inv e).elim
def tab_A_exactIntCmp_0 : Fns := tabT [(149, gA_exactIntSub), (151, gA_exactIntSign)]
theorem tabok_A_exactIntCmp_0 : ∀ f, FnT Try.prog f (tab_A_exactIntCmp_0 f) := (tabT_cons (k := 149) okA_exactIntSub (tabT_cons (k := 151) okA_exactIntSign tabT_nil))
theorem run_A_exactIntCmp_0 (N : Nat) (b0_0 : Bool) (b0_1 : Nat) (r1 : Bool) (b1_0 : Bool) (b1_1 : Nat) : run ty tab_A_exactIntCmp_0 ann0 N Try.f182 [.ptr 0 0, .ptr 1 0] [.at true (.as 1 [.bool b0_0, .big b0_1]), .at r1 (.as 1 [.bool b1_0, .big b1_1])]
    = (match lowB b0_1 && lowB b1_1 with
  | true => (match decide ((sgI b0_0 b0_1) + (sgI (!b1_0 && (decide (0 < b1_1))) b1_1) < 0) with
    | true => some (.int .i64 (-1), [.at true (.as 1 [.bool b0_0, .big b0_1]), .at r1 (.as 1 [.bool b1_0, .big b1_1])])
    | false => (match decide ((((ndig (((sgI b0_0 b0_1) + (sgI (!b1_0 && (decide (0 < b1_1))) b1_1)).natAbs) : Nat) : Int) : Int) > 0) with
      | true => some (.int .i64 1, [.at true (.as 1 [.bool b0_0, .big b0_1]), .at r1 (.as 1 [.bool b1_0, .big b1_1])])
      | false => some (.int .i64 0, [.at true (.as 1 [.bool b0_0, .big b0_1]), .at r1 (.as 1 [.bool b1_0, .big b1_1])])))
  | false => none) := by
  kernel_rfl

def gA_exactIntCmp : GT := fun vs h => match vs, h with
  | [.ptr 0 0, .ptr 1 0], [.at true (.as 1 [.bool b0_0, .big b0_1]), .at r1 (.as 1 [.bool b1_0, .big b1_1])] => .ite (lowB b0_1 && lowB b1_1) (.ite (decide ((sgI b0_0 b0_1) + (sgI (!b1_0 && (decide (0 < b1_1))) b1_1) < 0)) (.ret (.int .i64 (-1)) [.at true (.as 1 [.bool b0_0, .big b0_1]), .at r1 (.as 1 [.bool b1_0, .big b1_1])]) (.ite (decide ((((ndig (((sgI b0_0 b0_1) + (sgI (!b1_0 && (decide (0 < b1_1))) b1_1)).natAbs) : Nat) : Int) : Int) > 0)) (.ret (.int .i64 1) [.at true (.as 1 [.bool b0_0, .big b0_1]), .at r1 (.as 1 [.bool b1_0, .big b1_1])]) (.ret (.int .i64 0) [.at true (.as 1 [.bool b0_0, .big b0_1]), .at r1 (.as 1 [.bool b1_0, .big b1_1])]))) (.no)
  | _, _ => .no
theorem okA_exactIntCmp : FnT Try.prog 182 gA_exactIntCmp := by
  intro vs hp v h' e
  unfold gA_exactIntCmp at e
  split at e
  · exact FnT.runs tabok_A_exactIntCmp_0 Try.func182 rfl rfl ann0 0 _ _ v h' (by rw [T.run_of]; exact Eq.trans (run_A_exactIntCmp_0 0 _ _ _ _ _) e)
  · exact (T.no_inv e).elim
def tab_is64W : Fns := tabT [(167, gI64), (119, gNewInt), (182, gA_exactIntCmp)]
theorem tabok_is64W : ∀ f, FnT Try.prog f (tab_is64W f) := (tabT_cons (k := 167) ok_i64 (tabT_cons (k := 119) ok_newInt (tabT_cons (k := 182) okA_exactIntCmp tabT_nil)))
theorem run_is64W (N : Nat) (r : Bool) (s : Bool) (v : Nat) : run ty tab_is64W ann0 N Try.f166 [.ptr 0 0] [.at r (.as 1 [.bool s, .big v])]
    = (match low63 v with
  | true => (match inI64 (sgI s v) with
    | true => (match lowB ((sgI s v : Int).natAbs) && lowB v with
      | true => (match decide ((sgI (decide ((sgI s v : Int) < 0)) ((sgI s v : Int).natAbs)) + (sgI (!s && (decide (0 < v))) v) < 0) with
        | true => some (.bool false, [.at r (.as 1 [.bool s, .big v])])
        | false => (match decide ((((ndig (((sgI (decide ((sgI s v : Int) < 0)) ((sgI s v : Int).natAbs)) + (sgI (!s && (decide (0 < v))) v)).natAbs) : Nat) : Int) : Int) > 0) with
          | true => some (.bool false, [.at r (.as 1 [.bool s, .big v])])
          | false => some (.bool true, [.at r (.as 1 [.bool s, .big v])])))
      | false => none)
    | false => none)
  | false => none) := by
  kernel_rfl

def gIs64 : GT := fun vs h => match vs, h with | [.ptr 0 0], [.at r (.as 1 [.bool s, .big v])] => .ite (low63 v) (.ret (.bool true) [.at r (.as 1 [.bool s, .big v])]) .no | _, _ => .no
theorem sgI_abs (z : Int) : sgI (decide (z < 0)) z.natAbs = z := by
  by_cases h : z < 0
  · rw [decide_eq_true h]; show -(z.natAbs : Int) = z; omega
  · rw [decide_eq_false h]; show (z.natAbs : Int) = z; omega
theorem sgI_neg (s : Bool) (v : Nat) : sgI (!s && decide (0 < v)) v = -(sgI s v) := by
  rcases Nat.eq_zero_or_pos v with h | h
  · subst h
    cases s <;> rfl
  · rw [decide_eq_true h]
    cases s
    · rfl
    · show (v : Int) = - -(v : Int); omega
theorem low_of {v : Nat} (h : v < 9223372036854775809) : lowB v = true := decide_eq_true (Nat.lt_of_lt_of_le h (by decide))
theorem ok_is64 : FnT Try.prog 166 gIs64 := by
  refine fnT tabok_is64W Try.func166 rfl rfl ann0 fun vs h v h' e => ⟨0, ?_⟩
  unfold gIs64 at e
  split at e
  case h_2 => exact (T.no_inv e).elim
  rename_i r s v
  obtain ⟨hd, e⟩ := T.pre_inv e
  obtain ⟨rfl, rfl⟩ := T.ret_inv e
  have hv := of_decide_eq_true hd
  have hz : -9223372036854775808 ≤ sgI s v ∧ sgI s v < 9223372036854775808 := by
    cases s
    · show -9223372036854775808 ≤ (v : Int) ∧ (v : Int) < 9223372036854775808; omega
    · show -9223372036854775808 ≤ -(v : Int) ∧ -(v : Int) < 9223372036854775808; omega
  have h1 : inI64 (sgI s v) = true := decide_eq_true hz
  have h2 : (lowB (sgI s v).natAbs && lowB v) = true := by rw [low_of (show (sgI s v).natAbs < 9223372036854775809 by omega), low_of (show v < 9223372036854775809 by omega)]; rfl
  refine Eq.trans (run_is64W 0 r s v) ?_
  rw [hd, h1, h2, sgI_abs, sgI_neg, show sgI s v + -(sgI s v) = 0 by omega]
  rfl
def an_sfW : Ann := ⟨fun r => if r = 2 then some ([0, 1, 2, 7, 8], [0, 1, 2, 7]) else none, fun r n => if r = 4 ∧ n = 3 then .plain else if r = 7 ∧ n = 13 then .plain else .quiet⟩
def tab_sfW : Fns := tabT [(162, gBigQ (fun v w => lowB v && lowB w && decide (0 < w))), (160, gPut)]
theorem tabok_sfW : ∀ f, FnT Try.prog f (tab_sfW f) := (tabT_cons (k := 162) ok_dvd (tabT_cons (k := 160) ok_put tabT_nil))
def st_sfW2 (t7 : Nat) (t8 : Nat) (b0_0 : Bool) (b0_1 : Nat) (b0_2 : Nat) (rw1 : Bool) (b1_0 : Bool) (b1_1 : Nat) (rw2 : Bool) (b2_0 : Bool) (b2_1 : Nat) : St := ⟨[.ptr 0 0, .ptr 1 0, .ptr 2 0, .any, .any, .any, .any, .big t7, .big t8, .any, .any, .any, .any, .any, .any, .any, .any, .any, .any, .any, .any, .any, .any, .any, .any, .any, .any, .any, .any, .any, .any, .any, .any, .any, .any, .any, .any, .any, .any, .any, .any, .any, .any, .any, .any, .any, .any, .any, .any, .any, .any, .any, .any, .any, .any, .any, .any, .any, .any, .any, .any, .any, .any, .any, .any, .any, .any, .any, .any, .any, .any, .any, .any, .any, .any, .any, .any, .any, .any, .any, .any], [.at true (.as 1 [.bool b0_0, .big b0_1, .big b0_2]), .at rw1 (.as 1 [.bool b1_0, .big b1_1]), .at rw2 (.as 1 [.bool b2_0, .big b2_1])]⟩
abbrev kp_sfW2 : Option (List Nat × List Nat) := some ([0, 1, 2, 7, 8], [0, 1, 2, 7])
noncomputable def lp_sfW2 {R : Type} (N M : Nat) (s : St) (K : X → St → Option R) : Option R := loopH 3 kp_sfW2 (fun st K => exec ty tab_sfW an_sfW N 3 (atOf [true, true, false, false, false] Try.f122) st K) M s K
noncomputable def bk_sfW2 {R : Type} (N M : Nat) (K : X → St → Option R) : X → St → Option R := fun x st => match x with | .norm => tidyK 3 (kp_sfW2.map (·.1)) st fun st => lp_sfW2 N M st K | x => tidyK 3 (kp_sfW2.map (·.2)) st fun st => K x st
noncomputable def kt_sfW2 {R : Type} (N : Nat) (K : X → St → Option R) : X → St → Option R := kBlkR 0 (kSeqR tab_sfW an_sfW N 3 (atOf [true, true, true] Try.f122) (K))
def en_sfW2_0 (t7 : Nat) (b0_0 : Bool) (b0_1 : Nat) (b0_2 : Nat) (rw1 : Bool) (b1_0 : Bool) (b1_1 : Nat) (rw2 : Bool) (b2_0 : Bool) (b2_1 : Nat) : St := ⟨[.ptr 0 0, .ptr 1 0, .ptr 2 0, .any, .any, .any, .any, .big t7, .any, .any, .any, .any, .any, .any, .any, .any, .any, .any, .any, .any, .any, .any, .any, .any, .any, .any, .any, .any, .any, .any, .any, .any, .any, .any, .any, .any, .any, .any, .any, .any, .any, .any, .any, .any, .any, .any, .any, .any, .any, .any, .any, .any, .any, .any, .any, .any, .any, .any, .any, .any, .any, .any, .any, .any, .any, .any, .any, .any, .any, .any, .any, .any, .any, .any, .any, .any, .any, .any, .any, .any, .any], [.at true (.as 1 [.bool b0_0, .big b0_1, .big b0_2]), .at rw1 (.as 1 [.bool b1_0, .big b1_1]), .at rw2 (.as 1 [.bool b2_0, .big b2_1])]⟩
theorem run_sfW (N : Nat) (s0 : Bool) (v0 : Nat) (w0 : Nat) (r : Bool) (s : Bool) (v : Nat) (q : Bool) (t : Bool) (w : Nat) : run ty tab_sfW an_sfW N Try.f122 [.ptr 0 0, .ptr 1 0, .ptr 2 0] [.at true (.as 1 [.bool s0, .big v0, .big w0]), .at r (.as 1 [.bool s, .big v]), .at q (.as 1 [.bool t, .big w])]
    = lp_sfW2 N N (st_sfW2 v w s0 v0 w0 r s v q t w) (kt_sfW2 N (kEnd Try.f122 3)) := by
  kernel_rfl
theorem step_sfW2 {R : Type} (N M : Nat) (K : X → St → Option R) (t7 : Nat) (t8 : Nat) (b0_0 : Bool) (b0_1 : Nat) (b0_2 : Nat) (rw1 : Bool) (b1_0 : Bool) (b1_1 : Nat) (rw2 : Bool) (b2_0 : Bool) (b2_1 : Nat) : lp_sfW2 N (M + 1) (st_sfW2 t7 t8 b0_0 b0_1 b0_2 rw1 b1_0 b1_1 rw2 b2_0 b2_1) K
    = (match decide ((((ndig t8 : Nat) : Int) : Int) > 0) with
  | true => (match lowB t7 && lowB t8 && decide (0 < t8) with
    | true => lp_sfW2 N M (st_sfW2 t8 (t7 % t8) b0_0 b0_1 b0_2 rw1 b1_0 b1_1 rw2 b2_0 b2_1) K
    | false => none)
  | false => K (.exit 0) (en_sfW2_0 t7 b0_0 b0_1 b0_2 rw1 b1_0 b1_1 rw2 b2_0 b2_1)) := by
  kernel_rfl
theorem end_sfW2_0 (N : Nat) (t7 : Nat) (b0_0 : Bool) (b0_1 : Nat) (b0_2 : Nat) (rw1 : Bool) (b1_0 : Bool) (b1_1 : Nat) (rw2 : Bool) (b2_0 : Bool) (b2_1 : Nat) : kt_sfW2 N (kEnd Try.f122 3) (.exit 0) (en_sfW2_0 t7 b0_0 b0_1 b0_2 rw1 b1_0 b1_1 rw2 b2_0 b2_1)
    = (match lowB b1_1 && lowB t7 && decide (0 < t7) with
  | true => (match lowB b2_1 && lowB t7 && decide (0 < t7) with
    | true => some (.ptr 0 0, [.at true (.as 1 [.bool ((!(b1_0 == b2_0)) && (decide (0 < b1_1 / t7))), .big (b1_1 / t7), .big (b2_1 / t7)]), .at rw1 (.as 1 [.bool b1_0, .big b1_1]), .at rw2 (.as 1 [.bool b2_0, .big b2_1])])
    | false => none)
  | false => none) := by
  kernel_rfl

theorem ndig_zero {v : Nat} : decide (((ndig v : Nat) : Int) > 0) = decide (0 < v) := by
  cases v with
  | zero => rfl
  | succ k =>
    have h : 0 < ndig (k + 1) := by
      unfold ndig ndigF
      rw [if_neg (by omega)]
      omega
    rw [decide_eq_true (by omega), decide_eq_true (by omega)]
def gSetFrac : GT := fun vs h => match vs, h with
  | [.ptr 0 0, .ptr 1 0, .ptr 2 0], [.at true (.as 1 [.bool _, .big _, .big _]), .at r (.as 1 [.bool s, .big v]), .at q (.as 1 [.bool t, .big w])] =>
    .ite (lowB v && lowB w && decide (0 < w)) (.ret (.ptr 0 0) [.at true (.as 1 [.bool ((s != t) && decide (0 < v / Nat.gcd v w)), .big (v / Nat.gcd v w), .big (w / Nat.gcd v w)]), .at r (.as 1 [.bool s, .big v]), .at q (.as 1 [.bool t, .big w])]) .no
  | _, _ => .no
theorem low_le {v w : Nat} (h : lowB w = true) (hv : v ≤ w) : lowB v = true := decide_eq_true (Nat.lt_of_le_of_lt hv (of_decide_eq_true h))
theorem ok_SetFrac : FnT Try.prog 122 gSetFrac := by
  refine fnT tabok_sfW Try.func122 rfl rfl an_sfW fun vs h v h' e => ?_
  unfold gSetFrac at e
  split at e
  case h_2 => exact (T.no_inv e).elim
  rename_i s0 v0 w0 r s v q t w
  obtain ⟨hd, e⟩ := T.pre_inv e
  obtain ⟨rfl, rfl⟩ := T.ret_inv e
  have hd0 := hd
  rw [Bool.and_eq_true, Bool.and_eq_true] at hd0
  obtain ⟨⟨hv, hw⟩, h0⟩ := hd0
  have h0 := of_decide_eq_true h0
  refine ⟨w + 1, Eq.trans (run_sfW (w + 1) s0 v0 w0 r s v q t w) ?_⟩
  have hgw : Nat.gcd v w ≤ w := Nat.le_of_dvd h0 (Nat.gcd_dvd_right v w)
  have hg0 : 0 < Nat.gcd v w := Nat.gcd_pos_of_pos_right v h0
  refine loop_fuel (fun M (p : Nat × Nat) => lp_sfW2 (w + 1) M (st_sfW2 p.1 p.2 s0 v0 w0 r s v q t w) (kt_sfW2 (w + 1) (kEnd Try.f122 3))) (fun p => Nat.gcd p.1 p.2 = Nat.gcd v w ∧ lowB p.1 = true ∧ lowB p.2 = true) (fun p => p.2) (fun o => o = _) (fun M p hs => ?_) (s := (v, w)) ⟨rfl, hv, hw⟩ (Nat.lt_succ_self w)
  obtain ⟨x, y⟩ := p
  obtain ⟨hg, hx, hy⟩ := hs
  dsimp only at hg hx hy ⊢
  rcases Nat.eq_zero_or_pos y with h1 | h1
  · left
    subst h1
    rw [Nat.gcd_zero_right] at hg
    subst hg
    have e0 : decide (0 < Nat.gcd v w) = true := decide_eq_true hg0
    rw [step_sfW2, ndig_zero, decide_eq_false (Nat.lt_irrefl 0)]
    dsimp only
    rw [end_sfW2_0, hv, hw, low_le hw hgw, e0]
    rfl
  · right
    refine ⟨(y, x % y), ⟨?_, hy, low_le hy (Nat.le_of_lt (Nat.mod_lt _ h1))⟩, Nat.mod_lt _ h1, ?_⟩
    · dsimp only
      rw [← hg, Nat.gcd_comm x y, Nat.gcd_rec y x, Nat.gcd_comm]
    · rw [step_sfW2, ndig_zero, decide_eq_true h1, hx, hy]
      rfl
def tab_denW : Fns := tabT [(119, gNewInt), (160, gPut)]
theorem tabok_denW : ∀ f, FnT Try.prog f (tab_denW f) := (tabT_cons (k := 119) ok_newInt (tabT_cons (k := 160) ok_put tabT_nil))
theorem run_denW (N : Nat) (r : Bool) (s : Bool) (v : Nat) (w : Nat) : run ty tab_denW ann0 N Try.f164 [.ptr 0 0] [.at r (.as 1 [.bool s, .big v, .big w])]
    = (match ((ndig w : Nat) : Int) == 0 with
  | true => some (.ptr 1 0, [.at r (.as 1 [.bool s, .big v, .big w]), .at true (.as 1 [.bool false, .big 1])])
  | false => some (.ptr 1 0, [.at r (.as 1 [.bool s, .big v, .big w]), .at true (.as 1 [.bool false, .big w])])) := by
  kernel_rfl

def dn (w : Nat) : Nat := if w = 0 then 1 else w
def gDenom : GT := fun vs h => match vs, h with
  | [.ptr 0 0], [.at r (.as 1 [.bool s, .big v, .big w])] => .ret (.ptr 1 0) [.at r (.as 1 [.bool s, .big v, .big w]), .at true (.as 1 [.bool false, .big (dn w)])]
  | _, _ => .no
theorem ndig_eq {v : Nat} : (((ndig v : Nat) : Int) == 0) = decide (v = 0) := by
  rcases Nat.eq_zero_or_pos v with h | h
  · subst h
    rfl
  · have h1 := ndig_zero (v := v)
    rw [decide_eq_true h] at h1
    have h2 := of_decide_eq_true h1
    rw [decide_eq_false (by omega)]
    simp
    omega
theorem ok_Denom : FnT Try.prog 164 gDenom := by
  refine fnT tabok_denW Try.func164 rfl rfl ann0 fun vs h v h' e => ⟨0, ?_⟩
  unfold gDenom at e
  split at e
  case h_2 => exact (T.no_inv e).elim
  rename_i r s v w
  obtain ⟨rfl, rfl⟩ := T.ret_inv e
  refine Eq.trans (run_denW 0 r s v w) ?_
  rw [ndig_eq]
  unfold dn
  by_cases h : w = 0
  · rw [decide_eq_true h, if_pos h]
  · rw [decide_eq_false h, if_neg h]
def an_A_exactIntSet_0 : Ann := ⟨fun r =>  none, fun r n => if r = 1 ∧ n = 9 then .plain else .quiet⟩
def tab_A_exactIntSet_0 : Fns := tabT [(160, gPut)]
theorem tabok_A_exactIntSet_0 : ∀ f, FnT Try.prog f (tab_A_exactIntSet_0 f) := (tabT_cons (k := 160) ok_put tabT_nil)
theorem run_A_exactIntSet_0 (N : Nat) (b0_0 : Bool) (b0_1 : Nat) (r1 : Bool) (b1_0 : Bool) (b1_1 : Nat) (b1_2 : Nat) : run ty tab_A_exactIntSet_0 an_A_exactIntSet_0 N Try.f181 [.ptr 0 0, .ptr 1 0] [.at true (.as 1 [.bool b0_0, .big b0_1]), .at r1 (.as 1 [.bool b1_0, .big b1_1, .big b1_2])]
    = some (.ptr 0 0, [.at true (.as 1 [.bool (b1_0 && (decide (0 < b1_1))), .big b1_1]), .at r1 (.as 1 [.bool b1_0, .big b1_1, .big b1_2])]) := by
  kernel_rfl

def gA_exactIntSet : GT := fun vs h => match vs, h with
  | [.ptr 0 0, .ptr 1 0], [.at true (.as 1 [.bool b0_0, .big b0_1]), .at r1 (.as 1 [.bool b1_0, .big b1_1, .big b1_2])] => .ret (.ptr 0 0) [.at true (.as 1 [.bool (b1_0 && (decide (0 < b1_1))), .big b1_1]), .at r1 (.as 1 [.bool b1_0, .big b1_1, .big b1_2])]
  | _, _ => .no
theorem okA_exactIntSet : FnT Try.prog 181 gA_exactIntSet := by
  intro vs hp v h' e
  unfold gA_exactIntSet at e
  split at e
  · exact FnT.runs tabok_A_exactIntSet_0 Try.func181 rfl rfl an_A_exactIntSet_0 0 _ _ v h' (by rw [T.run_of]; exact Eq.trans (run_A_exactIntSet_0 0 _ _ _ _ _ _) e)
  · exact (T.no_inv e).elim
def tab_A_exactRatNum_0 : Fns := tabT [(181, gA_exactIntSet)]
theorem tabok_A_exactRatNum_0 : ∀ f, FnT Try.prog f (tab_A_exactRatNum_0 f) := (tabT_cons (k := 181) okA_exactIntSet tabT_nil)
theorem run_A_exactRatNum_0 (N : Nat) (r0 : Bool) (b0_0 : Bool) (b0_1 : Nat) (b0_2 : Nat) : run ty tab_A_exactRatNum_0 ann0 N Try.f165 [.ptr 0 0] [.at r0 (.as 1 [.bool b0_0, .big b0_1, .big b0_2])]
    = some (.ptr 1 0, [.at r0 (.as 1 [.bool b0_0, .big b0_1, .big b0_2]), .at true (.as 1 [.bool (b0_0 && (decide (0 < b0_1))), .big b0_1])]) := by
  kernel_rfl

def gA_exactRatNum : GT := fun vs h => match vs, h with
  | [.ptr 0 0], [.at r0 (.as 1 [.bool b0_0, .big b0_1, .big b0_2])] => .ret (.ptr 1 0) [.at r0 (.as 1 [.bool b0_0, .big b0_1, .big b0_2]), .at true (.as 1 [.bool (b0_0 && (decide (0 < b0_1))), .big b0_1])]
  | _, _ => .no
theorem okA_exactRatNum : FnT Try.prog 165 gA_exactRatNum := by
  intro vs hp v h' e
  unfold gA_exactRatNum at e
  split at e
  · exact FnT.runs tabok_A_exactRatNum_0 Try.func165 rfl rfl ann0 0 _ _ v h' (by rw [T.run_of]; exact Eq.trans (run_A_exactRatNum_0 0 _ _ _ _) e)
  · exact (T.no_inv e).elim
def tab_froW : Fns := tabT [(165, gA_exactRatNum), (166, gIs64), (164, gDenom), (167, gI64)]
theorem tabok_froW : ∀ f, FnT Try.prog f (tab_froW f) := (tabT_cons (k := 165) okA_exactRatNum (tabT_cons (k := 166) ok_is64 (tabT_cons (k := 164) ok_Denom (tabT_cons (k := 167) ok_i64 tabT_nil))))
theorem run_froW (N : Nat) (r : Bool) (s : Bool) (v : Nat) (w : Nat) : run ty tab_froW ann0 N Try.f127 [.ptr 0 0] [.at r (.as 1 [.bool s, .big v, .big w])]
    = (match low63 v with
  | true => (match low63 (dn w) with
    | true => (match low63 v with
      | true => (match low63 (dn w) with
        | true => some (.tup [.a (.int .i64 (sgI (s && (decide (0 < v))) v)), .a (.int .i64 (dn w : Int)), .a (.bool true)], [.at r (.as 1 [.bool s, .big v, .big w])])
        | false => none)
      | false => none)
    | false => none)
  | false => none) := by
  kernel_rfl

def gFrac : GT := fun vs h => match vs, h with
  | [.ptr 0 0], [.at r (.as 1 [.bool s, .big v, .big w])] => .ite (low63 v && low63 (dn w)) (.ret (.tup [.a (.int .i64 (sgI s v)), .a (.int .i64 (dn w : Int)), .a (.bool true)]) [.at r (.as 1 [.bool s, .big v, .big w])]) .no
  | _, _ => .no
theorem sgI_and (s : Bool) (v : Nat) : sgI (s && decide (0 < v)) v = sgI s v := by
  rcases Nat.eq_zero_or_pos v with h | h
  · subst h
    cases s <;> rfl
  · rw [decide_eq_true h]
    cases s <;> rfl
theorem ok_fractionOf : FnT Try.prog 127 gFrac := by
  refine fnT tabok_froW Try.func127 rfl rfl ann0 fun vs h v h' e => ⟨0, ?_⟩
  unfold gFrac at e
  split at e
  case h_2 => exact (T.no_inv e).elim
  rename_i r s v w
  obtain ⟨hd, e⟩ := T.pre_inv e
  obtain ⟨rfl, rfl⟩ := T.ret_inv e
  rw [Bool.and_eq_true] at hd
  refine Eq.trans (run_froW 0 r s v w) ?_
  rw [hd.1, hd.2, sgI_and]
end Go.Proofs.Ytbhfjdlhhjeknaa.Ab

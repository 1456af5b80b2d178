/- Shared weights. Only lemmas. Printed by gen_weights.py. -/
import Derived.Test.YtobbmffldbbhpaaWeights
namespace Go.Proofs.Ytobbmffldbbhpaa.Ab
set_option linter.unusedVariables false
set_option linter.unusedSimpArgs false
open Go
def gWk : G := fun vs h => match vs, h with | [.int .i64 j], [] => some (.bool (inB j 1 8), []) | _, _ => none
def tab_areWorkers : Fns := tabT [(79, gT gIn)]
theorem tabok_areWorkers : ∀ f, FnT Try.prog f (tab_areWorkers f) := (tabT_cons (k := 79) ok_within tabT_nil)
theorem run_areWorkers (N : Nat) (j : Int) : run ty tab_areWorkers ann0 N Try.f83 [.int .i64 j] []
    = some (.bool (inB j 1 8), []) := by
  kernel_rfl

theorem ok_areWorkers : FnT Try.prog 83 (gT gWk) := by
  refine fnT tabok_areWorkers Try.func83 rfl rfl ann0 fun vs h v h' e => ⟨0, ?_⟩
  rw [T.run_of] at e
  unfold gWk at e
  split at e
  case h_2 => cases e
  cases e
  exact run_areWorkers 0 _
def shE (w : Nat) (k : Int) (b : Nat) : Nat := (wD b w k.toNat).getD (k.toNat - 1) 0
def shL (l : List Nat) (w : Nat) (k : Int) : List Nat := l.map (shE w k)
def shOk (l : List Nat) (w : Nat) (k j : Int) : Bool := !decide ((l.length : Int) > 16) && (inB j 1 8 && l.all fun b => wOk b w k)
theorem shL_len (l : List Nat) (w : Nat) (k : Int) : (shL l w k).length = l.length := by simp [shL]
def g_sh : GT := fun vs h => match vs, h with
  | [.sl 0 0 n, .fl .f32 w, .int .i64 k, .int .i64 j], [.at rw (.fl .f32 l)] =>
    .ite (decide (l.length = n ∧ n < 2147483648)) (.ite (shOk l w k j) (.ret (.tup [.a (.sl 1 0 n), .a (.bool true)]) [.at rw (.fl .f32 l), .at true (.fl .f32 (shL l w k))]) (.ret nilF [.at rw (.fl .f32 l)])) .no
  | [.nil, .fl .f32 w, .int .i64 k, .int .i64 j], [] => .ite (inB j 1 8) (.ret (.tup [.a (.sl 0 0 0), .a (.bool true)]) [.at true (.fl .f32 [])]) (.ret nilF [])
  | _, _ => .no
/-- A loop over a list that appends, and is left where a test fails. -/
theorem app_scan {R α β : Type} (l : List α) (t : α → Bool) (g : α → β) (L : Nat → Nat → List β → Option R) (A : Option R) (Z : List β → Option R)
    (hs : ∀ (M i : Nat) x o, l[i]? = some x → o.length = i → L (M + 1) i o = match t x with | true => L M (i + 1) (o ++ [g x]) | false => A)
    (he : ∀ M o, o.length = l.length → L (M + 1) l.length o = Z o) :
    ∀ suf pre, l = pre ++ suf → ∀ M, L (suf.length + 1 + M) pre.length (pre.map g) = match suf.all t with | true => Z (l.map g) | false => A := by
  intro suf
  induction suf with
  | nil =>
    intro pre hl M
    have e : pre = l := by rw [hl]; simp
    subst e
    rw [show ([] : List α).length + 1 + M = M + 1 by simp; omega, he _ _ (by simp)]
    rfl
  | cons x suf ih =>
    intro pre hl M
    rw [show (x :: suf).length + 1 + M = (suf.length + 1 + M) + 1 by simp; omega, hs _ _ x _ (by rw [hl]; simp) (by simp)]
    simp only [List.all_cons]
    cases t x with
    | false => rfl
    | true =>
      have := ih (pre ++ [x]) (by rw [hl]; simp) M
      rw [List.length_append, List.map_append] at this
      simp only [Bool.true_and]
      exact this
def an_shS : Ann := ⟨fun r => if r = 5 then some ([0, 1, 2, 10, 24, 25], [8, 9, 10]) else none, fun _ _ => .quiet⟩
def tab_shS : Fns := tabT [(84, gT gIn), (76, g_w)]
theorem tabok_shS : ∀ f, FnT Try.prog f (tab_shS f) := (tabT_cons (k := 84) ok_l00In (tabT_cons (k := 76) ok_wtS tabT_nil))
def st_shS5 (bs0n : Nat) (warm1 : Nat) (count2 : Int) (out10n : Nat) (t24 : Int) (t25 : Int) (rw0 : Bool) (l0 : List Nat) (l1 : List Nat) : St := ⟨[.sl 0 0 bs0n, .fl .f32 warm1, .int .i64 count2, .any, .any, .any, .any, .any, .any, .any, .sl 1 0 out10n, .any, .any, .any, .any, .any, .any, .any, .any, .any, .any, .any, .any, .any, .int .i64 t24, .int .i64 t25, .any, .any, .any, .any, .any, .any, .any, .any, .any, .any, .any, .any, .any, .any, .any, .any, .any, .any, .any, .any, .any, .any, .any, .any], [.at rw0 (.fl .f32 l0), .at true (.fl .f32 l1)]⟩
abbrev kp_shS5 : Option (List Nat × List Nat) := some ([0, 1, 2, 10, 24, 25], [8, 9, 10])
noncomputable def lp_shS5 {R : Type} (N M : Nat) (s : St) (K : X → St → Option R) : Option R := loopH 1 kp_shS5 (fun st K => exec ty tab_shS an_shS N 1 (atOf [true, true, true, false, true, false, false] Try.f26) st K) M s K
noncomputable def bk_shS5 {R : Type} (N M : Nat) (K : X → St → Option R) : X → St → Option R := fun x st => match x with | .norm => tidyK 1 (kp_shS5.map (·.1)) st fun st => lp_shS5 N M st K | x => tidyK 1 (kp_shS5.map (·.2)) st fun st => K x st
noncomputable def kt_shS5 {R : Type} (N : Nat) (K : X → St → Option R) : X → St → Option R := kBlkR 0 (kSeqR tab_shS an_shS N 1 (atOf [true, true, true, true] Try.f26) (K))
def en_shS5_0 (out10n : Nat) (rw0 : Bool) (l0 : List Nat) (l1 : List Nat) : St := ⟨[.any, .any, .any, .any, .any, .any, .any, .any, .nil, .bool false, .sl 1 0 out10n, .any, .any, .any, .any, .any, .any, .any, .any, .any, .any, .any, .any, .any, .any, .any, .any, .any, .any, .any, .any, .any, .any, .any, .any, .any, .any, .any, .any, .any, .any, .any, .any, .any, .any, .any, .any, .any, .any, .any], [.at rw0 (.fl .f32 l0), .at true (.fl .f32 l1)]⟩
def en_shS5_1 (out10n : Nat) (rw0 : Bool) (l0 : List Nat) (l1 : List Nat) : St := ⟨[.any, .any, .any, .any, .any, .any, .any, .any, .any, .any, .sl 1 0 out10n, .any, .any, .any, .any, .any, .any, .any, .any, .any, .any, .any, .any, .any, .any, .any, .any, .any, .any, .any, .any, .any, .any, .any, .any, .any, .any, .any, .any, .any, .any, .any, .any, .any, .any, .any, .any, .any, .any, .any], [.at rw0 (.fl .f32 l0), .at true (.fl .f32 l1)]⟩
theorem run_shS (N : Nat) (n : Nat) (w : Nat) (k : Int) (j : Int) (rw : Bool) (l : List Nat) : run ty tab_shS an_shS N Try.f26 [.sl 0 0 n, .fl .f32 w, .int .i64 k, .int .i64 j] [.at rw (.fl .f32 l)]
    = (match decide ((((n : Nat) : Int) : Int) > 16) with
  | true => some (.tup [.a (.nil), .a (.bool false)], [.at rw (.fl .f32 l)])
  | false => (match !(inB j 1 8) with
    | true => some (.tup [.a (.nil), .a (.bool false)], [.at rw (.fl .f32 l)])
    | false => lp_shS5 N N (st_shS5 n w k 0 ((n : Nat) : Int) 0 rw l ([] : List Nat)) (kt_shS5 N (kEnd Try.f26 1)))) := by
  kernel_rfl
theorem step_shS5 {R : Type} (N M : Nat) (K : X → St → Option R) (bs0n : Nat) (warm1 : Nat) (count2 : Int) (out10n : Nat) (t24 : Int) (t25 : Int) (rw0 : Bool) (l0 : List Nat) (l1 : List Nat) : lp_shS5 N (M + 1) (st_shS5 bs0n warm1 count2 out10n t24 t25 rw0 l0 l1) K
    = (match decide ((t25 : Int) < t24) with
  | true => (match decide (0 ≤ (t25 : Int) ∧ (t25 : Int) < ((bs0n : Nat) : Int)) with
    | true => (match l0[0 + (t25).toNat * 1]? with
      | some e1 => (match wOk e1 warm1 count2 with
        | true => (match decide (0 ≤ (IntKind.i64.wrap (count2 - 1) : Int) ∧ (IntKind.i64.wrap (count2 - 1) : Int) < ((count2.toNat : Nat) : Int)) with
          | true => (match (wD e1 warm1 count2.toNat)[0 + (IntKind.i64.wrap (count2 - 1)).toNat * 1]? with
            | some e2 => (match apok true out10n 1 l1.length 1 (out10n + 1) 4 with
              | true => lp_shS5 N M (st_shS5 bs0n warm1 count2 (out10n + 1) t24 (IntKind.i64.wrap (t25 + 1)) rw0 l0 (l1 ++ [e2])) K
              | false => none)
            | none => none)
          | false => none)
        | false => K .ret (en_shS5_0 out10n rw0 l0 l1))
      | none => none)
    | false => none)
  | false => K (.exit 0) (en_shS5_1 out10n rw0 l0 l1)) := by
  kernel_rfl
theorem end_shS5_0 (N : Nat) (out10n : Nat) (rw0 : Bool) (l0 : List Nat) (l1 : List Nat) : kt_shS5 N (kEnd Try.f26 1) .ret (en_shS5_0 out10n rw0 l0 l1)
    = some (.tup [.a (.nil), .a (.bool false)], [.at rw0 (.fl .f32 l0)]) := by
  kernel_rfl
theorem end_shS5_1 (N : Nat) (out10n : Nat) (rw0 : Bool) (l0 : List Nat) (l1 : List Nat) : kt_shS5 N (kEnd Try.f26 1) (.exit 0) (en_shS5_1 out10n rw0 l0 l1)
    = some (.tup [.a (.sl 1 0 out10n), .a (.bool true)], [.at rw0 (.fl .f32 l0), .at true (.fl .f32 l1)]) := by
  kernel_rfl

def an_shSn : Ann := ⟨fun r => if r = 5 then some ([0, 1, 2, 10, 24, 25], [8, 9, 10]) else none, fun _ _ => .quiet⟩
abbrev tab_shSn : Fns := tab_shS
def st_shSn5 (warm1 : Nat) (count2 : Int) : St := ⟨[.nil, .fl .f32 warm1, .int .i64 count2, .any, .any, .any, .any, .any, .any, .any, .sl 0 0 0, .any, .any, .any, .any, .any, .any, .any, .any, .any, .any, .any, .any, .any, .int .i64 0, .int .i64 0, .any, .any, .any, .any, .any, .any, .any, .any, .any, .any, .any, .any, .any, .any, .any, .any, .any, .any, .any, .any, .any, .any, .any, .any], [.at true (.fl .f32 ([] : List Nat))]⟩
abbrev kp_shSn5 : Option (List Nat × List Nat) := some ([0, 1, 2, 10, 24, 25], [8, 9, 10])
noncomputable def lp_shSn5 {R : Type} (N M : Nat) (s : St) (K : X → St → Option R) : Option R := loopH 0 kp_shSn5 (fun st K => exec ty tab_shSn an_shSn N 0 (atOf [true, true, true, false, true, false, false] Try.f26) st K) M s K
noncomputable def bk_shSn5 {R : Type} (N M : Nat) (K : X → St → Option R) : X → St → Option R := fun x st => match x with | .norm => tidyK 0 (kp_shSn5.map (·.1)) st fun st => lp_shSn5 N M st K | x => tidyK 0 (kp_shSn5.map (·.2)) st fun st => K x st
noncomputable def kt_shSn5 {R : Type} (N : Nat) (K : X → St → Option R) : X → St → Option R := kBlkR 0 (kSeqR tab_shSn an_shSn N 0 (atOf [true, true, true, true] Try.f26) (K))
def en_shSn5_0  : St := ⟨[.any, .any, .any, .any, .any, .any, .any, .any, .any, .any, .sl 0 0 0, .any, .any, .any, .any, .any, .any, .any, .any, .any, .any, .any, .any, .any, .any, .any, .any, .any, .any, .any, .any, .any, .any, .any, .any, .any, .any, .any, .any, .any, .any, .any, .any, .any, .any, .any, .any, .any, .any, .any], [.at true (.fl .f32 ([] : List Nat))]⟩
theorem run_shSn (N : Nat) (w : Nat) (k : Int) (j : Int) : run ty tab_shSn an_shSn N Try.f26 [.nil, .fl .f32 w, .int .i64 k, .int .i64 j] []
    = (match !(inB j 1 8) with
  | true => some (.tup [.a (.nil), .a (.bool false)], [])
  | false => lp_shSn5 N N (st_shSn5 w k) (kt_shSn5 N (kEnd Try.f26 0))) := by
  kernel_rfl
theorem step_shSn5 {R : Type} (N M : Nat) (K : X → St → Option R) (warm1 : Nat) (count2 : Int) : lp_shSn5 N (M + 1) (st_shSn5 warm1 count2) K
    = K (.exit 0) (en_shSn5_0) := by
  kernel_rfl
theorem end_shSn5_0 (N : Nat)  : kt_shSn5 N (kEnd Try.f26 0) (.exit 0) (en_shSn5_0)
    = some (.tup [.a (.sl 0 0 0), .a (.bool true)], [.at true (.fl .f32 ([] : List Nat))]) := by
  kernel_rfl

theorem ok_shS : FnT Try.prog 26 g_sh := by
  refine fnT tabok_shS Try.func26 rfl rfl an_shS fun vs h v h' e => ?_
  unfold g_sh at e
  split at e
  · rename_i n w k j rw l
    obtain ⟨hd, e⟩ := T.pre_inv e
    obtain ⟨rfl, hb⟩ := of_decide_eq_true hd
    refine ⟨l.length + 1, Eq.trans (run_shS _ _ _ _ _ _ _) (Eq.trans ?_ e)⟩
    show _ = T.k _ _
    simp only [T.k]
    unfold shOk
    cases hL : decide ((l.length : Int) > 16)
    case true => rfl
    cases inB j 1 8
    · rfl
    simp only [Bool.not_false, Bool.true_and]
    have hc := app_scan l (fun b => wOk b w k) (shE w k) (fun M i o => lp_shS5 (l.length + 1) M (st_shS5 l.length w k o.length ((l.length : Nat) : Int) (i : Int) rw l o) (kt_shS5 (l.length + 1) (kEnd Try.f26 1)))
      (some (nilF, [.at rw (.fl .f32 l)])) (fun o => some (.tup [.a (.sl 1 0 o.length), .a (.bool true)], [.at rw (.fl .f32 l), .at true (.fl .f32 o)]))
      (fun M i x o hx ho => ?_) (fun M o ho => ?_) l [] rfl 0
    · rw [show l.length + 1 + 0 = l.length + 1 by omega] at hc
      refine Eq.trans hc ?_
      rw [show (l.map (shE w k)).length = l.length by simp]
      show _ = match l.all fun b => wOk b w k with | true => _ | false => _
      cases l.all fun b => wOk b w k <;> rfl
    · have hi := lt_of_get hx
      simp only [step_shS5, dlt hi, din hi, ix, hx]
      cases hk : wOk x w k with
      | false => simp only [end_shS5_0]
      | true =>
        have hbk := w_bound hk
        have hw : IntKind.i64.wrap (k - 1) = ((k.toNat - 1 : Nat) : Int) := by rw [wrap_s (by omega) (by omega)]; omega
        have hg : (wD x w k.toNat)[k.toNat - 1]? = some (shE w k x) := get_getD (by rw [wD_len]; omega)
        simp only [hw, din (show k.toNat - 1 < k.toNat by omega), ix, hg, apc (rfl : o.length = o.length) (show o.length < 2147483648 by omega) (show 4 ≤ 16 by omega), wr (show i < 2147483648 by omega)]
        rw [show o.length + 1 = (o ++ [shE w k x]).length by simp]
    · simp only [step_shS5, dge (Nat.le_refl _), end_shS5_1]
  · rename_i w k j
    refine ⟨1, Eq.trans (run_shSn _ _ _ _) (Eq.trans ?_ e)⟩
    show _ = T.k _ _
    simp only [T.k]
    cases inB j 1 8
    · rfl
    kernel_rfl
  · exact (T.no_inv e).elim
def an_shI : Ann := ⟨fun r => if r = 5 then some ([1, 2, 10, 24, 25, 26], [8, 9, 10]) else none, fun _ _ => .quiet⟩
def tab_shI : Fns := tabT [(83, gT gWk), (24, g_w)]
theorem tabok_shI : ∀ f, FnT Try.prog f (tab_shI f) := (tabT_cons (k := 83) ok_areWorkers (tabT_cons (k := 24) ok_wtI tabT_nil))
def st_shI5 (warm1 : Nat) (count2 : Int) (out10n : Nat) (t24n : Nat) (t25 : Int) (t26 : Int) (rw0 : Bool) (l0 : List Nat) (l1 : List Nat) : St := ⟨[.any, .fl .f32 warm1, .int .i64 count2, .any, .any, .any, .any, .any, .any, .any, .sl 1 0 out10n, .any, .any, .any, .any, .any, .any, .any, .any, .any, .any, .any, .any, .any, .sl 0 0 t24n, .int .i64 t25, .int .i64 t26, .any, .any, .any, .any, .any, .any, .any, .any, .any, .any, .any, .any, .any, .any, .any, .any, .any, .any, .any, .any, .any, .any, .any], [.at rw0 (.fl .f32 l0), .at true (.fl .f32 l1)]⟩
abbrev kp_shI5 : Option (List Nat × List Nat) := some ([1, 2, 10, 24, 25, 26], [8, 9, 10])
noncomputable def lp_shI5 {R : Type} (N M : Nat) (s : St) (K : X → St → Option R) : Option R := loopH 1 kp_shI5 (fun st K => exec ty tab_shI an_shI N 1 (atOf [true, true, true, false, true, false, false] Try.f25) st K) M s K
noncomputable def bk_shI5 {R : Type} (N M : Nat) (K : X → St → Option R) : X → St → Option R := fun x st => match x with | .norm => tidyK 1 (kp_shI5.map (·.1)) st fun st => lp_shI5 N M st K | x => tidyK 1 (kp_shI5.map (·.2)) st fun st => K x st
noncomputable def kt_shI5 {R : Type} (N : Nat) (K : X → St → Option R) : X → St → Option R := kBlkR 0 (kSeqR tab_shI an_shI N 1 (atOf [true, true, true, true] Try.f25) (K))
def en_shI5_0 (out10n : Nat) (rw0 : Bool) (l0 : List Nat) (l1 : List Nat) : St := ⟨[.any, .any, .any, .any, .any, .any, .any, .any, .nil, .bool false, .sl 1 0 out10n, .any, .any, .any, .any, .any, .any, .any, .any, .any, .any, .any, .any, .any, .any, .any, .any, .any, .any, .any, .any, .any, .any, .any, .any, .any, .any, .any, .any, .any, .any, .any, .any, .any, .any, .any, .any, .any, .any, .any], [.at rw0 (.fl .f32 l0), .at true (.fl .f32 l1)]⟩
def en_shI5_1 (out10n : Nat) (rw0 : Bool) (l0 : List Nat) (l1 : List Nat) : St := ⟨[.any, .any, .any, .any, .any, .any, .any, .any, .any, .any, .sl 1 0 out10n, .any, .any, .any, .any, .any, .any, .any, .any, .any, .any, .any, .any, .any, .any, .any, .any, .any, .any, .any, .any, .any, .any, .any, .any, .any, .any, .any, .any, .any, .any, .any, .any, .any, .any, .any, .any, .any, .any, .any], [.at rw0 (.fl .f32 l0), .at true (.fl .f32 l1)]⟩
theorem run_shI (N : Nat) (n : Nat) (w : Nat) (k : Int) (j : Int) (rw : Bool) (l : List Nat) : run ty tab_shI an_shI N Try.f25 [.sl 0 0 n, .fl .f32 w, .int .i64 k, .int .i64 j] [.at rw (.fl .f32 l)]
    = (match decide ((((n : Nat) : Int) : Int) > 16) with
  | true => some (.tup [.a (.nil), .a (.bool false)], [.at rw (.fl .f32 l)])
  | false => (match !(inB j 1 8) with
    | true => some (.tup [.a (.nil), .a (.bool false)], [.at rw (.fl .f32 l)])
    | false => lp_shI5 N N (st_shI5 w k 0 n ((n : Nat) : Int) 0 rw l ([] : List Nat)) (kt_shI5 N (kEnd Try.f25 1)))) := by
  kernel_rfl
theorem step_shI5 {R : Type} (N M : Nat) (K : X → St → Option R) (warm1 : Nat) (count2 : Int) (out10n : Nat) (t24n : Nat) (t25 : Int) (t26 : Int) (rw0 : Bool) (l0 : List Nat) (l1 : List Nat) : lp_shI5 N (M + 1) (st_shI5 warm1 count2 out10n t24n t25 t26 rw0 l0 l1) K
    = (match decide ((t26 : Int) < t25) with
  | true => (match decide (0 ≤ (t26 : Int) ∧ (t26 : Int) < ((t24n : Nat) : Int)) with
    | true => (match l0[0 + (t26).toNat * 1]? with
      | some e1 => (match wOk e1 warm1 count2 with
        | true => (match decide (0 ≤ (IntKind.i64.wrap (((count2.toNat : Nat) : Int) - 1) : Int) ∧ (IntKind.i64.wrap (((count2.toNat : Nat) : Int) - 1) : Int) < ((count2.toNat : Nat) : Int)) with
          | true => (match (wD e1 warm1 count2.toNat)[0 + (IntKind.i64.wrap (((count2.toNat : Nat) : Int) - 1)).toNat * 1]? with
            | some e2 => (match apok true out10n 1 l1.length 1 (out10n + 1) 4 with
              | true => lp_shI5 N M (st_shI5 warm1 count2 (out10n + 1) t24n t25 (IntKind.i64.wrap (t26 + 1)) rw0 l0 (l1 ++ [e2])) K
              | false => none)
            | none => none)
          | false => none)
        | false => K .ret (en_shI5_0 out10n rw0 l0 l1))
      | none => none)
    | false => none)
  | false => K (.exit 0) (en_shI5_1 out10n rw0 l0 l1)) := by
  kernel_rfl
theorem end_shI5_0 (N : Nat) (out10n : Nat) (rw0 : Bool) (l0 : List Nat) (l1 : List Nat) : kt_shI5 N (kEnd Try.f25 1) .ret (en_shI5_0 out10n rw0 l0 l1)
    = some (.tup [.a (.nil), .a (.bool false)], [.at rw0 (.fl .f32 l0)]) := by
  kernel_rfl
theorem end_shI5_1 (N : Nat) (out10n : Nat) (rw0 : Bool) (l0 : List Nat) (l1 : List Nat) : kt_shI5 N (kEnd Try.f25 1) (.exit 0) (en_shI5_1 out10n rw0 l0 l1)
    = some (.tup [.a (.sl 1 0 out10n), .a (.bool true)], [.at rw0 (.fl .f32 l0), .at true (.fl .f32 l1)]) := by
  kernel_rfl

def an_shIn : Ann := ⟨fun r => if r = 5 then some ([1, 2, 10, 24, 25, 26], [8, 9, 10]) else none, fun _ _ => .quiet⟩
abbrev tab_shIn : Fns := tab_shI
def st_shIn5 (warm1 : Nat) (count2 : Int) : St := ⟨[.any, .fl .f32 warm1, .int .i64 count2, .any, .any, .any, .any, .any, .any, .any, .sl 0 0 0, .any, .any, .any, .any, .any, .any, .any, .any, .any, .any, .any, .any, .any, .nil, .int .i64 0, .int .i64 0, .any, .any, .any, .any, .any, .any, .any, .any, .any, .any, .any, .any, .any, .any, .any, .any, .any, .any, .any, .any, .any, .any, .any], [.at true (.fl .f32 ([] : List Nat))]⟩
abbrev kp_shIn5 : Option (List Nat × List Nat) := some ([1, 2, 10, 24, 25, 26], [8, 9, 10])
noncomputable def lp_shIn5 {R : Type} (N M : Nat) (s : St) (K : X → St → Option R) : Option R := loopH 0 kp_shIn5 (fun st K => exec ty tab_shIn an_shIn N 0 (atOf [true, true, true, false, true, false, false] Try.f25) st K) M s K
noncomputable def bk_shIn5 {R : Type} (N M : Nat) (K : X → St → Option R) : X → St → Option R := fun x st => match x with | .norm => tidyK 0 (kp_shIn5.map (·.1)) st fun st => lp_shIn5 N M st K | x => tidyK 0 (kp_shIn5.map (·.2)) st fun st => K x st
noncomputable def kt_shIn5 {R : Type} (N : Nat) (K : X → St → Option R) : X → St → Option R := kBlkR 0 (kSeqR tab_shIn an_shIn N 0 (atOf [true, true, true, true] Try.f25) (K))
def en_shIn5_0  : St := ⟨[.any, .any, .any, .any, .any, .any, .any, .any, .any, .any, .sl 0 0 0, .any, .any, .any, .any, .any, .any, .any, .any, .any, .any, .any, .any, .any, .any, .any, .any, .any, .any, .any, .any, .any, .any, .any, .any, .any, .any, .any, .any, .any, .any, .any, .any, .any, .any, .any, .any, .any, .any, .any], [.at true (.fl .f32 ([] : List Nat))]⟩
theorem run_shIn (N : Nat) (w : Nat) (k : Int) (j : Int) : run ty tab_shIn an_shIn N Try.f25 [.nil, .fl .f32 w, .int .i64 k, .int .i64 j] []
    = (match !(inB j 1 8) with
  | true => some (.tup [.a (.nil), .a (.bool false)], [])
  | false => lp_shIn5 N N (st_shIn5 w k) (kt_shIn5 N (kEnd Try.f25 0))) := by
  kernel_rfl
theorem step_shIn5 {R : Type} (N M : Nat) (K : X → St → Option R) (warm1 : Nat) (count2 : Int) : lp_shIn5 N (M + 1) (st_shIn5 warm1 count2) K
    = K (.exit 0) (en_shIn5_0) := by
  kernel_rfl
theorem end_shIn5_0 (N : Nat)  : kt_shIn5 N (kEnd Try.f25 0) (.exit 0) (en_shIn5_0)
    = some (.tup [.a (.sl 0 0 0), .a (.bool true)], [.at true (.fl .f32 ([] : List Nat))]) := by
  kernel_rfl

theorem ok_shI : FnT Try.prog 25 g_sh := by
  refine fnT tabok_shI Try.func25 rfl rfl an_shI fun vs h v h' e => ?_
  unfold g_sh at e
  split at e
  · rename_i n w k j rw l
    obtain ⟨hd, e⟩ := T.pre_inv e
    obtain ⟨rfl, hb⟩ := of_decide_eq_true hd
    refine ⟨l.length + 1, Eq.trans (run_shI _ _ _ _ _ _ _) (Eq.trans ?_ e)⟩
    show _ = T.k _ _
    simp only [T.k]
    unfold shOk
    cases hL : decide ((l.length : Int) > 16)
    case true => rfl
    cases inB j 1 8
    · rfl
    simp only [Bool.not_false, Bool.true_and]
    have hc := app_scan l (fun b => wOk b w k) (shE w k) (fun M i o => lp_shI5 (l.length + 1) M (st_shI5 w k o.length l.length ((l.length : Nat) : Int) (i : Int) rw l o) (kt_shI5 (l.length + 1) (kEnd Try.f25 1)))
      (some (nilF, [.at rw (.fl .f32 l)])) (fun o => some (.tup [.a (.sl 1 0 o.length), .a (.bool true)], [.at rw (.fl .f32 l), .at true (.fl .f32 o)]))
      (fun M i x o hx ho => ?_) (fun M o ho => ?_) l [] rfl 0
    · rw [show l.length + 1 + 0 = l.length + 1 by omega] at hc
      refine Eq.trans hc ?_
      rw [show (l.map (shE w k)).length = l.length by simp]
      show _ = match l.all fun b => wOk b w k with | true => _ | false => _
      cases l.all fun b => wOk b w k <;> rfl
    · have hi := lt_of_get hx
      simp only [step_shI5, dlt hi, din hi, ix, hx]
      cases hk : wOk x w k with
      | false => simp only [end_shI5_0]
      | true =>
        have hbk := w_bound hk
        have hw : IntKind.i64.wrap (((k.toNat : Nat) : Int) - 1) = ((k.toNat - 1 : Nat) : Int) := by rw [wrap_s (by omega) (by omega)]; omega
        have hg : (wD x w k.toNat)[k.toNat - 1]? = some (shE w k x) := get_getD (by rw [wD_len]; omega)
        simp only [hw, din (show k.toNat - 1 < k.toNat by omega), ix, hg, apc (rfl : o.length = o.length) (show o.length < 2147483648 by omega) (show 4 ≤ 16 by omega), wr (show i < 2147483648 by omega)]
        rw [show o.length + 1 = (o ++ [shE w k x]).length by simp]
    · simp only [step_shI5, dge (Nat.le_refl _), end_shI5_1]
  · rename_i w k j
    refine ⟨1, Eq.trans (run_shIn _ _ _ _) (Eq.trans ?_ e)⟩
    show _ = T.k _ _
    simp only [T.k]
    cases inB j 1 8
    · rfl
    kernel_rfl
  · exact (T.no_inv e).elim
def tab_lawsh : Fns := tabT [(18, g_toF), (26, g_sh), (25, g_sh), (20, gEqT), (21, gMarkT), (22, gHeldT)]
theorem tabok_lawsh : ∀ f, FnT Try.prog f (tab_lawsh f) := (tabT_cons (k := 18) ok_toF (tabT_cons (k := 26) ok_shS (tabT_cons (k := 25) ok_shI (tabT_cons (k := 20) ok_eqF (tabT_cons (k := 21) ok_markF (tabT_cons (k := 22) ok_heldF tabT_nil))))))
theorem run_lawsh (N : Nat) (w : Nat) (k : Int) (j : Int) (l : List Nat) : run ty tab_lawsh ann0 N Try.f9 [.sl 0 0 l.length, .fl .f32 w, .int .i64 k, .int .i64 j] [.at false (.fl .f32 l)]
    = (match decide ((((l.length : Nat) : Int) : Int) > 1048576) with
  | true => some (.bool true, [.at false (.fl .f32 l)])
  | false => (match decide (l.length = l.length ∧ l.length < 2147483648) with
    | true => (match decide (l.length = l.length ∧ l.length < 2147483648) with
      | true => (match shOk l w k j with
        | true => (match decide (l.length = l.length ∧ l.length < 2147483648) with
          | true => (match decide (l.length = l.length ∧ l.length < 2147483648) with
            | true => (match shOk l w k j with
              | true => (match decide ((shL l w k).length = l.length ∧ (shL l w k).length = l.length ∧ l.length < 2147483648 ∧ l.length < 2147483648) with
                | true => (match !(eqFB (shL l w k) (shL l w k)) with
                  | true => some (.bool false, [.at false (.fl .f32 l)])
                  | false => (match decide (l.length = l.length ∧ l.length < 2147483648) with
                    | true => (match decide (l.length = l.length ∧ l.length = l.length ∧ l.length < 2147483648 ∧ l.length < 2147483648) with
                      | true => (match !(eqFB l l) with
                        | true => some (.bool false, [.at false (.fl .f32 l)])
                        | false => (match decide (l.length = l.length ∧ l.length < 2147483648 ∧ 0 ≤ (1 : Int) ∧ (1 : Int) < 2147483648) with
                          | true => (match decide ((1 + (l.length : Int) : Int) < 0) with
                            | true => some (.bool false, [.at false (.fl .f32 l)])
                            | false => (match decide ((shL l w k).length = l.length ∧ (shL l w k).length = l.length ∧ l.length < 2147483648 ∧ l.length < 2147483648) with
                              | true => (match !(eqFB (shL l w k) (shL l w k)) with
                                | true => some (.bool false, [.at false (.fl .f32 l)])
                                | false => (match decide ((shL l w k).length = l.length ∧ l.length < 2147483648 ∧ 0 ≤ (1 : Int) ∧ (1 : Int) < 2147483648) with
                                  | true => (match decide (marks 1 l.length = marks 1 l.length ∧ l.length < 2147483648 ∧ 0 ≤ (1 : Int) ∧ (1 : Int) < 2147483648) with
                                    | true => (match decide ((1 + (l.length : Int) : Int) < 0) with
                                      | true => some (.bool false, [.at false (.fl .f32 l)])
                                      | false => (match (1 + (l.length : Int)) != (1 + (l.length : Int)) with
                                        | true => some (.bool false, [.at false (.fl .f32 l)])
                                        | false => (match decide (l.length = l.length ∧ l.length < 2147483648) with
                                          | true => (match decide (l.length = l.length ∧ l.length < 2147483648) with
                                            | true => (match shOk l w k j with
                                              | true => (match decide ((shL l w k).length = l.length ∧ (shL l w k).length = l.length ∧ l.length < 2147483648 ∧ l.length < 2147483648) with
                                                | true => (match !(eqFB (shL l w k) (shL l w k)) with
                                                  | true => some (.bool false, [.at false (.fl .f32 l)])
                                                  | false => (match decide (marks 1 l.length = marks 1 l.length ∧ l.length < 2147483648 ∧ 0 ≤ (1 : Int) ∧ (1 : Int) < 2147483648) with
                                                    | true => (match decide ((1 + (l.length : Int) : Int) < 0) with
                                                      | true => some (.bool false, [.at false (.fl .f32 l)])
                                                      | false => (match (1 + (l.length : Int)) != (1 + (l.length : Int)) with
                                                        | true => some (.bool false, [.at false (.fl .f32 l)])
                                                        | false => some (.bool true, [.at false (.fl .f32 l)])))
                                                    | false => none))
                                                | false => none)
                                              | false => none)
                                            | false => none)
                                          | false => none)))
                                    | false => none)
                                  | false => none))
                              | false => none))
                          | false => none))
                      | false => none)
                    | false => none))
                | false => none)
              | false => none)
            | false => none)
          | false => none)
        | false => (match decide (l.length = l.length ∧ l.length < 2147483648) with
          | true => (match decide (l.length = l.length ∧ l.length < 2147483648) with
            | true => (match shOk l w k j with
              | true => none
              | false => (match decide (l.length = l.length ∧ l.length < 2147483648) with
                | true => (match decide (l.length = l.length ∧ l.length = l.length ∧ l.length < 2147483648 ∧ l.length < 2147483648) with
                  | true => (match !(eqFB l l) with
                    | true => some (.bool false, [.at false (.fl .f32 l)])
                    | false => (match decide (l.length = l.length ∧ l.length < 2147483648 ∧ 0 ≤ (1 : Int) ∧ (1 : Int) < 2147483648) with
                      | true => (match decide ((1 + (l.length : Int) : Int) < 0) with
                        | true => some (.bool false, [.at false (.fl .f32 l)])
                        | false => (match decide (l.length = l.length ∧ l.length < 2147483648) with
                          | true => (match decide (l.length = l.length ∧ l.length < 2147483648) with
                            | true => (match shOk l w k j with
                              | true => none
                              | false => some (.bool true, [.at false (.fl .f32 l)]))
                            | false => none)
                          | false => none))
                      | false => none))
                  | false => none)
                | false => none))
            | false => none)
          | false => none))
      | false => none)
    | false => none)) := by
  kernel_rfl

abbrev tab_lawshn : Fns := tab_lawsh
theorem run_lawshn (N : Nat) (w : Nat) (k : Int) (j : Int) : run ty tab_lawshn ann0 N Try.f9 [.nil, .fl .f32 w, .int .i64 k, .int .i64 j] []
    = (match decide (([] : List Nat).length = 0 ∧ 0 < 2147483648) with
  | true => (match shOk ([] : List Nat) w k j with
    | true => (match decide (([] : List Nat).length = 0 ∧ 0 < 2147483648) with
      | true => (match shOk ([] : List Nat) w k j with
        | true => (match decide ((shL ([] : List Nat) w k).length = 0 ∧ (shL ([] : List Nat) w k).length = 0 ∧ 0 < 2147483648 ∧ 0 < 2147483648) with
          | true => (match !(eqFB (shL ([] : List Nat) w k) (shL ([] : List Nat) w k)) with
            | true => some (.bool false, [])
            | false => (match decide (([] : List Nat).length = 0 ∧ ([] : List Nat).length = 0 ∧ 0 < 2147483648 ∧ 0 < 2147483648) with
              | true => (match !(eqFB ([] : List Nat) ([] : List Nat)) with
                | true => some (.bool false, [])
                | false => (match decide (([] : List Nat).length = 0 ∧ 0 < 2147483648 ∧ 0 ≤ (1 : Int) ∧ (1 : Int) < 2147483648) with
                  | true => (match decide ((1 + (0 : Int) : Int) < 0) with
                    | true => some (.bool false, [])
                    | false => (match decide ((shL ([] : List Nat) w k).length = 0 ∧ (shL ([] : List Nat) w k).length = 0 ∧ 0 < 2147483648 ∧ 0 < 2147483648) with
                      | true => (match !(eqFB (shL ([] : List Nat) w k) (shL ([] : List Nat) w k)) with
                        | true => some (.bool false, [])
                        | false => (match decide ((shL ([] : List Nat) w k).length = 0 ∧ 0 < 2147483648 ∧ 0 ≤ (1 : Int) ∧ (1 : Int) < 2147483648) with
                          | true => (match decide (marks 1 0 = marks 1 0 ∧ 0 < 2147483648 ∧ 0 ≤ (1 : Int) ∧ (1 : Int) < 2147483648) with
                            | true => (match decide ((1 + (0 : Int) : Int) < 0) with
                              | true => some (.bool false, [])
                              | false => (match (1 + (0 : Int)) != (1 + (0 : Int)) with
                                | true => some (.bool false, [])
                                | false => (match decide (([] : List Nat).length = 0 ∧ 0 < 2147483648) with
                                  | true => (match shOk ([] : List Nat) w k j with
                                    | true => (match decide ((shL ([] : List Nat) w k).length = 0 ∧ (shL ([] : List Nat) w k).length = 0 ∧ 0 < 2147483648 ∧ 0 < 2147483648) with
                                      | true => (match !(eqFB (shL ([] : List Nat) w k) (shL ([] : List Nat) w k)) with
                                        | true => some (.bool false, [])
                                        | false => (match decide (marks 1 0 = marks 1 0 ∧ 0 < 2147483648 ∧ 0 ≤ (1 : Int) ∧ (1 : Int) < 2147483648) with
                                          | true => (match decide ((1 + (0 : Int) : Int) < 0) with
                                            | true => some (.bool false, [])
                                            | false => (match (1 + (0 : Int)) != (1 + (0 : Int)) with
                                              | true => some (.bool false, [])
                                              | false => some (.bool true, [])))
                                          | false => none))
                                      | false => none)
                                    | false => none)
                                  | false => none)))
                            | false => none)
                          | false => none))
                      | false => none))
                  | false => none))
              | false => none))
          | false => none)
        | false => none)
      | false => none)
    | false => (match decide (([] : List Nat).length = 0 ∧ 0 < 2147483648) with
      | true => (match shOk ([] : List Nat) w k j with
        | true => none
        | false => (match decide (([] : List Nat).length = 0 ∧ ([] : List Nat).length = 0 ∧ 0 < 2147483648 ∧ 0 < 2147483648) with
          | true => (match !(eqFB ([] : List Nat) ([] : List Nat)) with
            | true => some (.bool false, [])
            | false => (match decide (([] : List Nat).length = 0 ∧ 0 < 2147483648 ∧ 0 ≤ (1 : Int) ∧ (1 : Int) < 2147483648) with
              | true => (match decide ((1 + (0 : Int) : Int) < 0) with
                | true => some (.bool false, [])
                | false => (match decide (([] : List Nat).length = 0 ∧ 0 < 2147483648) with
                  | true => (match shOk ([] : List Nat) w k j with
                    | true => none
                    | false => some (.bool true, []))
                  | false => none))
              | false => none))
          | false => none))
      | false => none))
  | false => none) := by
  kernel_rfl

def g_lawsh : G := fun vs hp => match vs, hp with
  | [.sl 0 0 n, .fl .f32 w, .int .i64 k, .int .i64 j], [.at false (.fl .f32 l)] => if n = l.length then some (.bool true, [.at false (.fl .f32 l)]) else none
  | [.nil, .fl .f32 w, .int .i64 k, .int .i64 j], [] => some (.bool true, [])
  | _, _ => none
theorem ok_lawWeightsShared : FnOk Try.prog 9 g_lawsh := by
  refine fnOk tabok_lawsh Try.func9 rfl rfl ann0 fun vs hp v h' e => ⟨0, ?_⟩
  unfold g_lawsh at e
  split at e
  · rename_i n w k j l
    split at e
    case isFalse => cases e
    rename_i hn
    subst hn
    cases e
    refine Eq.trans (run_lawsh 0 _ _ _ _) ?_
    cases hc1 : decide ((((l.length : Nat) : Int) : Int) > 1048576)
    case false =>
      have fhc1 := of_decide_eq_false hc1
      have hc2 : (decide (l.length = l.length ∧ l.length < 2147483648)) = true := decide_eq_true (by first | omega | (simp [shL_len] <;> omega))
      rw [hc2]
      cases hc3 : shOk l w k j
      case false =>
        have hc4 : (decide (l.length = l.length ∧ l.length = l.length ∧ l.length < 2147483648 ∧ l.length < 2147483648)) = true := decide_eq_true (by first | omega | (simp [shL_len] <;> omega))
        have hc5 : (!(eqFB l l)) = false := by rw [eqFB_self]; rfl
        have hc6 : (decide (l.length = l.length ∧ l.length < 2147483648 ∧ 0 ≤ (1 : Int) ∧ (1 : Int) < 2147483648)) = true := decide_eq_true (by first | omega | (simp [shL_len] <;> omega))
        have hc7 : (decide ((1 + (l.length : Int) : Int) < 0)) = false := decide_eq_false (by first | omega | (simp [shL_len] <;> omega))
        rw [hc4, hc5, hc6, hc7]
      case true =>
        have hc8 : (decide ((shL l w k).length = l.length ∧ (shL l w k).length = l.length ∧ l.length < 2147483648 ∧ l.length < 2147483648)) = true := decide_eq_true (by first | omega | (simp [shL_len] <;> omega))
        have hc9 : (!(eqFB (shL l w k) (shL l w k))) = false := by rw [eqFB_self]; rfl
        have hc10 : (decide (l.length = l.length ∧ l.length = l.length ∧ l.length < 2147483648 ∧ l.length < 2147483648)) = true := decide_eq_true (by first | omega | (simp [shL_len] <;> omega))
        have hc11 : (!(eqFB l l)) = false := by rw [eqFB_self]; rfl
        have hc12 : (decide (l.length = l.length ∧ l.length < 2147483648 ∧ 0 ≤ (1 : Int) ∧ (1 : Int) < 2147483648)) = true := decide_eq_true (by first | omega | (simp [shL_len] <;> omega))
        have hc13 : (decide ((1 + (l.length : Int) : Int) < 0)) = false := decide_eq_false (by first | omega | (simp [shL_len] <;> omega))
        have hc14 : (decide ((shL l w k).length = l.length ∧ l.length < 2147483648 ∧ 0 ≤ (1 : Int) ∧ (1 : Int) < 2147483648)) = true := decide_eq_true (by first | omega | (simp [shL_len] <;> omega))
        have hc15 : (decide (marks 1 l.length = marks 1 l.length ∧ l.length < 2147483648 ∧ 0 ≤ (1 : Int) ∧ (1 : Int) < 2147483648)) = true := decide_eq_true (by first | omega | (simp [shL_len] <;> omega))
        have hc16 : ((1 + (l.length : Int)) != (1 + (l.length : Int))) = false := by first | rfl | simp [shL_len]
        rw [hc8, hc9, hc10, hc11, hc12, hc13, hc14, hc15, hc16]
    case true =>
      have fhc1 := of_decide_eq_true hc1
      rfl
  · rename_i w k j
    cases e
    refine Eq.trans (run_lawshn 0 _ _ _) ?_
    have hc1 : (decide (([] : List Nat).length = 0 ∧ 0 < 2147483648)) = true := decide_eq_true (by first | omega | (simp [shL_len] <;> omega))
    rw [hc1]
    cases hc2 : shOk ([] : List Nat) w k j
    case false =>
      have hc3 : (decide (([] : List Nat).length = 0 ∧ ([] : List Nat).length = 0 ∧ 0 < 2147483648 ∧ 0 < 2147483648)) = true := decide_eq_true (by first | omega | (simp [shL_len] <;> omega))
      have hc4 : (!(eqFB ([] : List Nat) ([] : List Nat))) = false := by rw [eqFB_self]; rfl
      have hc5 : (decide (([] : List Nat).length = 0 ∧ 0 < 2147483648 ∧ 0 ≤ (1 : Int) ∧ (1 : Int) < 2147483648)) = true := decide_eq_true (by first | omega | (simp [shL_len] <;> omega))
      have hc6 : (decide ((1 + (0 : Int) : Int) < 0)) = false := decide_eq_false (by first | omega | (simp [shL_len] <;> omega))
      rw [hc3, hc4, hc5, hc6]
    case true =>
      have hc7 : (decide ((shL ([] : List Nat) w k).length = 0 ∧ (shL ([] : List Nat) w k).length = 0 ∧ 0 < 2147483648 ∧ 0 < 2147483648)) = true := decide_eq_true (by first | omega | (simp [shL_len] <;> omega))
      have hc8 : (!(eqFB (shL ([] : List Nat) w k) (shL ([] : List Nat) w k))) = false := by rw [eqFB_self]; rfl
      have hc9 : (decide (([] : List Nat).length = 0 ∧ ([] : List Nat).length = 0 ∧ 0 < 2147483648 ∧ 0 < 2147483648)) = true := decide_eq_true (by first | omega | (simp [shL_len] <;> omega))
      have hc10 : (!(eqFB ([] : List Nat) ([] : List Nat))) = false := by rw [eqFB_self]; rfl
      have hc11 : (decide (([] : List Nat).length = 0 ∧ 0 < 2147483648 ∧ 0 ≤ (1 : Int) ∧ (1 : Int) < 2147483648)) = true := decide_eq_true (by first | omega | (simp [shL_len] <;> omega))
      have hc12 : (decide ((1 + (0 : Int) : Int) < 0)) = false := decide_eq_false (by first | omega | (simp [shL_len] <;> omega))
      have hc13 : (decide ((shL ([] : List Nat) w k).length = 0 ∧ 0 < 2147483648 ∧ 0 ≤ (1 : Int) ∧ (1 : Int) < 2147483648)) = true := decide_eq_true (by first | omega | (simp [shL_len] <;> omega))
      have hc14 : (decide (marks 1 0 = marks 1 0 ∧ 0 < 2147483648 ∧ 0 ≤ (1 : Int) ∧ (1 : Int) < 2147483648)) = true := decide_eq_true (by first | omega | (simp [shL_len] <;> omega))
      have hc15 : ((1 + (0 : Int)) != (1 + (0 : Int))) = false := by first | rfl | simp [shL_len]
      rw [hc7, hc8, hc9, hc10, hc11, hc12, hc13, hc14, hc15]
  · cases e
end Go.Proofs.Ytobbmffldbbhpaa.Ab

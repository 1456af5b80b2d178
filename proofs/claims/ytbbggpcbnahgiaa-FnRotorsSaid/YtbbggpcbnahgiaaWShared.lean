/- Shared weights. Only lemmas. Printed by gen_weights.py. -/
import Derived.Test.YtbbggpcbnahgiaaWeights
namespace Go.Proofs.Ytbbggpcbnahgiaa.Ab
set_option linter.unusedVariables false
set_option linter.unusedSimpArgs false
open Go
def gWk : G := fun vs h => match vs, h with | [.int .i64 j], [] => some (.bool (inB j 1 8), []) | _, _ => none
def tab_areWorkers : Fns := tabT [(26, gT gIn)]
theorem tabok_areWorkers : ∀ f, FnT Try.prog f (tab_areWorkers f) := (tabT_cons (k := 26) ok_within tabT_nil)
theorem run_areWorkers (N : Nat) (j : Int) : run ty tab_areWorkers ann0 N Try.f33 [.int .i64 j] []
    = some (.bool (inB j 1 8), []) := by
  kernel_rfl

theorem ok_areWorkers : FnT Try.prog 33 (gT gWk) := by
  refine fnT tabok_areWorkers Try.func33 rfl rfl ann0 fun vs h v h' e => ⟨0, ?_⟩
  rw [T.run_of] at e
  unfold gWk at e
  split at e
  case h_2 => cases e
  cases e
  exact run_areWorkers 0 _
def shE (w : Nat) (k : Int) (b : Nat) : Nat := (wD b w k.toNat).getD (k.toNat - 1) 0
def shL (l : List Nat) (w : Nat) (k : Int) : List Nat := l.map (shE w k)
def shOk (l : List Nat) (w : Nat) (k j : Int) : Bool := !decide ((l.length : Int) > 16) && (inB j 1 8 && l.all fun b => wOk b w k)
theorem shL_len (l : List Nat) (w : Nat) (k : Int) : (shL l w k).length = l.length := by simp [shL]
def g_sh : GT := fun vs h => match vs, h with
  | [.sl 0 0 n, .fl .f32 w, .int .i64 k, .int .i64 j], [.at rw (.fl .f32 l)] =>
    .ite (decide (l.length = n ∧ n < 2147483648)) (.ite (shOk l w k j) (.ret (.tup [.a (.sl 1 0 n), .a (.bool true)]) [.at rw (.fl .f32 l), .at true (.fl .f32 (shL l w k))]) (.ret nilF [.at rw (.fl .f32 l)])) .no
  | [.nil, .fl .f32 w, .int .i64 k, .int .i64 j], [] => .ite (inB j 1 8) (.ret (.tup [.a (.sl 0 0 0), .a (.bool true)]) [.at true (.fl .f32 [])]) (.ret nilF [])
  | _, _ => .no
/-- A loop over a list that appends, and is left where a test fails. -/
theorem app_scan {R α β : Type} (l : List α) (t : α → Bool) (g : α → β) (L : Nat → Nat → List β → Option R) (A : Option R) (Z : List β → Option R)
    (hs : ∀ (M i : Nat) x o, l[i]? = some x → o.length = i → L (M + 1) i o = match t x with | true => L M (i + 1) (o ++ [g x]) | false => A)
    (he : ∀ M o, o.length = l.length → L (M + 1) l.length o = Z o) :
    ∀ suf pre, l = pre ++ suf → ∀ M, L (suf.length + 1 + M) pre.length (pre.map g) = match suf.all t with | true => Z (l.map g) | false => A := by
  intro suf
  induction suf with
  | nil =>
    intro pre hl M
    have e : pre = l := by rw [hl]; simp
    subst e
    rw [show ([] : List α).length + 1 + M = M + 1 by simp; omega, he _ _ (by simp)]
    rfl
  | cons x suf ih =>
    intro pre hl M
    rw [show (x :: suf).length + 1 + M = (suf.length + 1 + M) + 1 by simp; omega, hs _ _ x _ (by rw [hl]; simp) (by simp)]
    simp only [List.all_cons]
    cases t x with
    | false => rfl
    | true =>
      have := ih (pre ++ [x]) (by rw [hl]; simp) M
      rw [List.length_append, List.map_append] at this
      simp only [Bool.true_and]
      exact this
def an_shI : Ann := ⟨fun r => if r = 5 then some ([1, 2, 10, 24, 25, 26], [8, 9, 10]) else none, fun _ _ => .quiet⟩
def tab_shI : Fns := tabT [(33, gT gWk), (8, g_w)]
theorem tabok_shI : ∀ f, FnT Try.prog f (tab_shI f) := (tabT_cons (k := 33) ok_areWorkers (tabT_cons (k := 8) ok_wtI tabT_nil))
def st_shI5 (warm1 : Nat) (count2 : Int) (out10n : Nat) (t24n : Nat) (t25 : Int) (t26 : Int) (rw0 : Bool) (l0 : List Nat) (l1 : List Nat) : St := ⟨(.any :: .fl .f32 warm1 :: .int .i64 count2 :: (anys 7 (.sl 1 0 out10n :: (anys 13 (.sl 0 0 t24n :: .int .i64 t25 :: .int .i64 t26 :: (anys 23 [])))))), [.at rw0 (.fl .f32 l0), .at true (.fl .f32 l1)]⟩
abbrev kp_shI5 : Option (List Nat × List Nat) := some ([1, 2, 10, 24, 25, 26], [8, 9, 10])
noncomputable def lp_shI5 {R : Type} (N M : Nat) (s : St) (K : X → St → Option R) : Option R := loopH 1 kp_shI5 (fun st K => exec ty tab_shI an_shI N 1 (atOf [true, true, true, false, true, false, false] Try.f10) st K) M s K
noncomputable def bk_shI5 {R : Type} (N M : Nat) (K : X → St → Option R) : X → St → Option R := fun x st => match x with | .norm => tidyK 1 (kp_shI5.map (·.1)) st fun st => lp_shI5 N M st K | x => tidyK 1 (kp_shI5.map (·.2)) st fun st => K x st
noncomputable def kt_shI5 {R : Type} (N : Nat) (K : X → St → Option R) : X → St → Option R := kBlkR 0 (kSeqR tab_shI an_shI N 1 (atOf [true, true, true, true] Try.f10) (K))
def en_shI5_0 (out10n : Nat) (rw0 : Bool) (l0 : List Nat) (l1 : List Nat) : St := ⟨(anys 8 (.nil :: .bool false :: .sl 1 0 out10n :: (anys 39 []))), [.at rw0 (.fl .f32 l0), .at true (.fl .f32 l1)]⟩
def en_shI5_1 (out10n : Nat) (rw0 : Bool) (l0 : List Nat) (l1 : List Nat) : St := ⟨(anys 10 (.sl 1 0 out10n :: (anys 39 []))), [.at rw0 (.fl .f32 l0), .at true (.fl .f32 l1)]⟩
theorem run_shI (N : Nat) (n : Nat) (w : Nat) (k : Int) (j : Int) (rw : Bool) (l : List Nat) : run ty tab_shI an_shI N Try.f10 [.sl 0 0 n, .fl .f32 w, .int .i64 k, .int .i64 j] [.at rw (.fl .f32 l)]
    = (match decide ((((n : Nat) : Int) : Int) > 16) with | true => some (.tup [.a (.nil), .a (.bool false)], [.at rw (.fl .f32 l)]) | false => (match !(inB j 1 8) with | true => some (.tup [.a (.nil), .a (.bool false)], [.at rw (.fl .f32 l)]) | false => lp_shI5 N N (st_shI5 w k 0 n ((n : Nat) : Int) 0 rw l ([] : List Nat)) (kt_shI5 N (kEnd Try.f10 1)))) := by
  kernel_rfl
theorem step_shI5 {R : Type} (N M : Nat) (K : X → St → Option R) (warm1 : Nat) (count2 : Int) (out10n : Nat) (t24n : Nat) (t25 : Int) (t26 : Int) (rw0 : Bool) (l0 : List Nat) (l1 : List Nat) : lp_shI5 N (M + 1) (st_shI5 warm1 count2 out10n t24n t25 t26 rw0 l0 l1) K
    = (match decide ((t26 : Int) < t25) with | true => (match decide (0 ≤ (t26 : Int) ∧ (t26 : Int) < ((t24n : Nat) : Int)) with | true => (match l0[0 + (t26).toNat * 1]? with | some e1 => (match wOk e1 warm1 count2 with | true => (match decide (0 ≤ (IntKind.i64.wrap (((count2.toNat : Nat) : Int) - 1) : Int) ∧ (IntKind.i64.wrap (((count2.toNat : Nat) : Int) - 1) : Int) < ((count2.toNat : Nat) : Int)) with | true => (match (wD e1 warm1 count2.toNat)[0 + (IntKind.i64.wrap (((count2.toNat : Nat) : Int) - 1)).toNat * 1]? with | some e2 => (match apok true out10n 1 l1.length 1 (out10n + 1) 4 with | true => lp_shI5 N M (st_shI5 warm1 count2 (out10n + 1) t24n t25 (IntKind.i64.wrap (t26 + 1)) rw0 l0 (l1 ++ [e2])) K | false => none) | none => none) | false => none) | false => K .ret (en_shI5_0 out10n rw0 l0 l1)) | none => none) | false => none) | false => K (.exit 0) (en_shI5_1 out10n rw0 l0 l1)) := by
  kernel_rfl
theorem end_shI5_0 (N : Nat) (out10n : Nat) (rw0 : Bool) (l0 : List Nat) (l1 : List Nat) : kt_shI5 N (kEnd Try.f10 1) .ret (en_shI5_0 out10n rw0 l0 l1)
    = some (.tup [.a (.nil), .a (.bool false)], [.at rw0 (.fl .f32 l0)]) := by
  kernel_rfl
theorem end_shI5_1 (N : Nat) (out10n : Nat) (rw0 : Bool) (l0 : List Nat) (l1 : List Nat) : kt_shI5 N (kEnd Try.f10 1) (.exit 0) (en_shI5_1 out10n rw0 l0 l1)
    = some (.tup [.a (.sl 1 0 out10n), .a (.bool true)], [.at rw0 (.fl .f32 l0), .at true (.fl .f32 l1)]) := by
  kernel_rfl

def an_shIn : Ann := ⟨fun r => if r = 5 then some ([1, 2, 10, 24, 25, 26], [8, 9, 10]) else none, fun _ _ => .quiet⟩
abbrev tab_shIn : Fns := tab_shI
def st_shIn5 (warm1 : Nat) (count2 : Int) : St := ⟨(.any :: .fl .f32 warm1 :: .int .i64 count2 :: (anys 7 (.sl 0 0 0 :: (anys 13 (.nil :: .int .i64 0 :: .int .i64 0 :: (anys 23 [])))))), [.at true (.fl .f32 ([] : List Nat))]⟩
abbrev kp_shIn5 : Option (List Nat × List Nat) := some ([1, 2, 10, 24, 25, 26], [8, 9, 10])
noncomputable def lp_shIn5 {R : Type} (N M : Nat) (s : St) (K : X → St → Option R) : Option R := loopH 0 kp_shIn5 (fun st K => exec ty tab_shIn an_shIn N 0 (atOf [true, true, true, false, true, false, false] Try.f10) st K) M s K
noncomputable def bk_shIn5 {R : Type} (N M : Nat) (K : X → St → Option R) : X → St → Option R := fun x st => match x with | .norm => tidyK 0 (kp_shIn5.map (·.1)) st fun st => lp_shIn5 N M st K | x => tidyK 0 (kp_shIn5.map (·.2)) st fun st => K x st
noncomputable def kt_shIn5 {R : Type} (N : Nat) (K : X → St → Option R) : X → St → Option R := kBlkR 0 (kSeqR tab_shIn an_shIn N 0 (atOf [true, true, true, true] Try.f10) (K))
def en_shIn5_0  : St := ⟨(anys 10 (.sl 0 0 0 :: (anys 39 []))), [.at true (.fl .f32 ([] : List Nat))]⟩
theorem run_shIn (N : Nat) (w : Nat) (k : Int) (j : Int) : run ty tab_shIn an_shIn N Try.f10 [.nil, .fl .f32 w, .int .i64 k, .int .i64 j] []
    = (match !(inB j 1 8) with | true => some (.tup [.a (.nil), .a (.bool false)], []) | false => lp_shIn5 N N (st_shIn5 w k) (kt_shIn5 N (kEnd Try.f10 0))) := by
  kernel_rfl
theorem step_shIn5 {R : Type} (N M : Nat) (K : X → St → Option R) (warm1 : Nat) (count2 : Int) : lp_shIn5 N (M + 1) (st_shIn5 warm1 count2) K
    = K (.exit 0) (en_shIn5_0) := by
  kernel_rfl
theorem end_shIn5_0 (N : Nat)  : kt_shIn5 N (kEnd Try.f10 0) (.exit 0) (en_shIn5_0)
    = some (.tup [.a (.sl 0 0 0), .a (.bool true)], [.at true (.fl .f32 ([] : List Nat))]) := by
  kernel_rfl

theorem ok_shI : FnT Try.prog 10 g_sh := by
  refine fnT tabok_shI Try.func10 rfl rfl an_shI fun vs h v h' e => ?_
  unfold g_sh at e
  split at e
  · rename_i n w k j rw l
    obtain ⟨hd, e⟩ := T.pre_inv e
    obtain ⟨rfl, hb⟩ := of_decide_eq_true hd
    refine ⟨l.length + 1, Eq.trans (run_shI _ _ _ _ _ _ _) (Eq.trans ?_ e)⟩
    show _ = T.k _ _
    simp only [T.k]
    unfold shOk
    cases hL : decide ((l.length : Int) > 16)
    case true => rfl
    cases inB j 1 8
    · rfl
    simp only [Bool.not_false, Bool.true_and]
    have hc := app_scan l (fun b => wOk b w k) (shE w k) (fun M i o => lp_shI5 (l.length + 1) M (st_shI5 w k o.length l.length ((l.length : Nat) : Int) (i : Int) rw l o) (kt_shI5 (l.length + 1) (kEnd Try.f10 1)))
      (some (nilF, [.at rw (.fl .f32 l)])) (fun o => some (.tup [.a (.sl 1 0 o.length), .a (.bool true)], [.at rw (.fl .f32 l), .at true (.fl .f32 o)]))
      (fun M i x o hx ho => ?_) (fun M o ho => ?_) l [] rfl 0
    · rw [show l.length + 1 + 0 = l.length + 1 by omega] at hc
      refine Eq.trans hc ?_
      rw [show (l.map (shE w k)).length = l.length by simp]
      show _ = match l.all fun b => wOk b w k with | true => _ | false => _
      cases l.all fun b => wOk b w k <;> rfl
    · have hi := lt_of_get hx
      simp only [step_shI5, dlt hi, din hi, ix, hx]
      cases hk : wOk x w k with
      | false => simp only [end_shI5_0]
      | true =>
        have hbk := w_bound hk
        have hw : IntKind.i64.wrap (((k.toNat : Nat) : Int) - 1) = ((k.toNat - 1 : Nat) : Int) := by rw [wrap_s (by omega) (by omega)]; omega
        have hg : (wD x w k.toNat)[k.toNat - 1]? = some (shE w k x) := get_getD (by rw [wD_len]; omega)
        simp only [hw, din (show k.toNat - 1 < k.toNat by omega), ix, hg, apc (rfl : o.length = o.length) (show o.length < 2147483648 by omega) (show 4 ≤ 16 by omega), wr (show i < 2147483648 by omega)]
        rw [show o.length + 1 = (o ++ [shE w k x]).length by simp]
    · simp only [step_shI5, dge (Nat.le_refl _), end_shI5_1]
  · rename_i w k j
    refine ⟨1, Eq.trans (run_shIn _ _ _ _) (Eq.trans ?_ e)⟩
    show _ = T.k _ _
    simp only [T.k]
    cases inB j 1 8
    · rfl
    kernel_rfl
  · exact (T.no_inv e).elim
end Go.Proofs.Ytbbggpcbnahgiaa.Ab

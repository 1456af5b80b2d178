/- Shared weights, for any workers. Only lemmas. Printed by gen_weights.py. -/
import Derived.Test.YtobbmffldbbhpaaWShared
namespace Go.Proofs.Ytobbmffldbbhpaa.Ab
set_option linter.unusedVariables false
set_option linter.unusedSimpArgs false
open Go
def sm32 (a b : Nat) : Bool := cond (eqB a b && (!eqB a 0 || eqB (fop .quo .f32 1065353216 a) (fop .quo .f32 1065353216 b))) true (!eqB a a && !eqB b b)
theorem quo_zero {a : Nat} (h : eqB a 0 = true) : eqB (fop .quo .f32 1065353216 a) (fop .quo .f32 1065353216 a) = true := by
  have hn : isN .f32 (fop .quo .f32 1065353216 a) = false := by
    rw [← ok_iff]
    refine ok_some ?_
    unfold floatBits
    show (FloatKind.f32.format.div 1065353216 a).isSome = true
    unfold Ieee.Format.div
    unfold eqB Ieee.Format.order at h
    rw [zero32] at h
    have h1 : FloatKind.f32.format.read 1065353216 = .number false 8388608 (-23) := by decide
    rw [h1]
    cases hr : FloatKind.f32.format.read a with
    | nan s f => rw [hr] at h; exact absurd h (by show ¬ (((none : Option Ordering) == some Ordering.eq) = true); decide)
    | infinity s => rfl
    | number s m e =>
      unfold Ieee.Datum.quotient
      dsimp only
      split <;> rfl
  unfold eqB
  rw [order_self hn]
  rfl
theorem sm32_self (a : Nat) : sm32 a a = true := by
  unfold sm32
  cases h : eqB a a with
  | false => rfl
  | true =>
    cases h0 : eqB a 0 with
    | false => rfl
    | true => rw [quo_zero h0]; rfl
def gSm : G := fun vs h => match vs, h with | [.fl .f32 a, .fl .f32 b], [] => some (.bool (sm32 a b), []) | _, _ => none
theorem bne_o32 (a b : Nat) : (FloatKind.f32.format.order a b != some .eq) = !eqB a b := rfl
def tab_same32 : Fns := tabT []
theorem tabok_same32 : ∀ f, FnT Try.prog f (tab_same32 f) := tabT_nil
theorem run_same32 (N : Nat) (a : Nat) (b : Nat) : run ty tab_same32 ann0 N Try.f85 [.fl .f32 a, .fl .f32 b] []
    = (match eqB a b with
  | true => (match FloatKind.f32.format.order a 0 != some .eq with
    | true => some (.bool true, [])
    | false => (match eqB (fop .quo .f32 1065353216 a) (fop .quo .f32 1065353216 b) with
      | true => some (.bool true, [])
      | false => (match FloatKind.f32.format.order a a != some .eq with
        | true => some (.bool (FloatKind.f32.format.order b b != some .eq), [])
        | false => some (.bool false, []))))
  | false => (match FloatKind.f32.format.order a a != some .eq with
    | true => some (.bool (FloatKind.f32.format.order b b != some .eq), [])
    | false => some (.bool false, []))) := by
  kernel_rfl

theorem ok_same32 : FnT Try.prog 85 (gT gSm) := by
  refine fnT tabok_same32 Try.func85 rfl rfl ann0 fun vs h v h' e => ⟨0, ?_⟩
  rw [T.run_of] at e
  unfold gSm at e
  split at e
  case h_2 => cases e
  rename_i a b
  cases e
  refine Eq.trans (run_same32 0 a b) ?_
  unfold sm32
  simp only [bne_o32]
  cases eqB a b <;> cases eqB a 0 <;> cases eqB (fop .quo .f32 1065353216 a) (fop .quo .f32 1065353216 b) <;> cases eqB a a <;> cases eqB b b <;> rfl
def smFB (l l' : List Nat) : Bool := (l.length == l'.length) && (firstIx (fun p : Nat × Nat => !sm32 p.1 p.2) (l.zip l') 0).isNone
theorem smIx_self (l : List Nat) : ∀ i, (firstIx (fun p : Nat × Nat => !sm32 p.1 p.2) (l.zip l) i) = none := by
  induction l with
  | nil => intro i; rfl
  | cons x l ih => intro i; simp only [List.zip_cons_cons, firstIx, sm32_self, Bool.not_true]; exact ih (i + 1)
theorem smFB_self (l : List Nat) : smFB l l = true := by
  unfold smFB
  rw [smIx_self]
  simp
def gSmT : GT := fun vs h => match vs, h with
  | [.sl 0 0 n, .sl 1 0 m], [.at r1 (.fl .f32 l), .at r2 (.fl .f32 l')] => .ite (decide (l.length = n ∧ l'.length = m ∧ n < 2147483648 ∧ m < 2147483648)) (.ret (.bool (smFB l l')) [.at r1 (.fl .f32 l), .at r2 (.fl .f32 l')]) .no
  | _, _ => .no
def an_smA : Ann := ⟨fun r => if r = 4 then some ([0, 1, 5], [4]) else none, fun _ _ => .quiet⟩
def tab_smA : Fns := tabT [(85, gT gSm)]
theorem tabok_smA : ∀ f, FnT Try.prog f (tab_smA f) := (tabT_cons (k := 85) ok_same32 tabT_nil)
def st_smA4 (a0n : Nat) (b1n : Nat) (i5 : Int) (rw0 : Bool) (l0 : List Nat) (rw1 : Bool) (l1 : List Nat) : St := ⟨[.sl 0 0 a0n, .sl 1 0 b1n, .any, .any, .any, .int .i64 i5, .any, .any, .any, .any, .any, .any, .any, .any, .any, .any, .any, .any, .any, .any, .any, .any, .any, .any, .any, .any, .any], [.at rw0 (.fl .f32 l0), .at rw1 (.fl .f32 l1)]⟩
abbrev kp_smA4 : Option (List Nat × List Nat) := some ([0, 1, 5], [4])
noncomputable def lp_smA4 {R : Type} (N M : Nat) (s : St) (K : X → St → Option R) : Option R := loopH 2 kp_smA4 (fun st K => exec ty tab_smA an_smA N 2 (atOf [true, true, false, true, false, false] Try.f27) st K) M s K
noncomputable def bk_smA4 {R : Type} (N M : Nat) (K : X → St → Option R) : X → St → Option R := fun x st => match x with | .norm => tidyK 2 (kp_smA4.map (·.1)) st fun st => lp_smA4 N M st K | x => tidyK 2 (kp_smA4.map (·.2)) st fun st => K x st
noncomputable def kt_smA4 {R : Type} (N : Nat) (K : X → St → Option R) : X → St → Option R := kBlkR 0 (kSeqR tab_smA an_smA N 2 (atOf [true, true, true] Try.f27) (K))
def en_smA4_0 (rw0 : Bool) (l0 : List Nat) (rw1 : Bool) (l1 : List Nat) : St := ⟨[.any, .any, .any, .any, .bool false, .any, .any, .any, .any, .any, .any, .any, .any, .any, .any, .any, .any, .any, .any, .any, .any, .any, .any, .any, .any, .any, .any], [.at rw0 (.fl .f32 l0), .at rw1 (.fl .f32 l1)]⟩
def en_smA4_1 (rw0 : Bool) (l0 : List Nat) (rw1 : Bool) (l1 : List Nat) : St := ⟨[.any, .any, .any, .any, .any, .any, .any, .any, .any, .any, .any, .any, .any, .any, .any, .any, .any, .any, .any, .any, .any, .any, .any, .any, .any, .any, .any], [.at rw0 (.fl .f32 l0), .at rw1 (.fl .f32 l1)]⟩
theorem run_smA (N : Nat) (n : Nat) (m : Nat) (r1 : Bool) (l : List Nat) (r2 : Bool) (l' : List Nat) : run ty tab_smA an_smA N Try.f27 [.sl 0 0 n, .sl 1 0 m] [.at r1 (.fl .f32 l), .at r2 (.fl .f32 l')]
    = (match ((n : Nat) : Int) != ((m : Nat) : Int) with
  | true => some (.bool false, [.at r1 (.fl .f32 l), .at r2 (.fl .f32 l')])
  | false => lp_smA4 N N (st_smA4 n m 0 r1 l r2 l') (kt_smA4 N (kEnd Try.f27 2))) := by
  kernel_rfl
theorem step_smA4 {R : Type} (N M : Nat) (K : X → St → Option R) (a0n : Nat) (b1n : Nat) (i5 : Int) (rw0 : Bool) (l0 : List Nat) (rw1 : Bool) (l1 : List Nat) : lp_smA4 N (M + 1) (st_smA4 a0n b1n i5 rw0 l0 rw1 l1) K
    = (match decide ((i5 : Int) < ((a0n : Nat) : Int)) with
  | true => (match decide (0 ≤ (i5 : Int) ∧ (i5 : Int) < ((a0n : Nat) : Int)) with
    | true => (match l0[0 + (i5).toNat * 1]? with
      | some e1 => (match decide (0 ≤ (i5 : Int) ∧ (i5 : Int) < ((b1n : Nat) : Int)) with
        | true => (match l1[0 + (i5).toNat * 1]? with
          | some e2 => (match !(sm32 e1 e2) with
            | true => K .ret (en_smA4_0 rw0 l0 rw1 l1)
            | false => lp_smA4 N M (st_smA4 a0n b1n (IntKind.i64.wrap (i5 + 1)) rw0 l0 rw1 l1) K)
          | none => none)
        | false => none)
      | none => none)
    | false => none)
  | false => K (.exit 0) (en_smA4_1 rw0 l0 rw1 l1)) := by
  kernel_rfl
theorem end_smA4_0 (N : Nat) (rw0 : Bool) (l0 : List Nat) (rw1 : Bool) (l1 : List Nat) : kt_smA4 N (kEnd Try.f27 2) .ret (en_smA4_0 rw0 l0 rw1 l1)
    = some (.bool false, [.at rw0 (.fl .f32 l0), .at rw1 (.fl .f32 l1)]) := by
  kernel_rfl
theorem end_smA4_1 (N : Nat) (rw0 : Bool) (l0 : List Nat) (rw1 : Bool) (l1 : List Nat) : kt_smA4 N (kEnd Try.f27 2) (.exit 0) (en_smA4_1 rw0 l0 rw1 l1)
    = some (.bool true, [.at rw0 (.fl .f32 l0), .at rw1 (.fl .f32 l1)]) := by
  kernel_rfl

theorem ok_smA : FnT Try.prog 27 gSmT := by
  refine fnT tabok_smA Try.func27 rfl rfl an_smA fun vs h v h' e => ?_
  unfold gSmT at e
  split at e
  case h_2 => exact (T.no_inv e).elim
  rename_i n m r1 l r2 l'
  obtain ⟨hd, e⟩ := T.pre_inv e
  obtain ⟨rfl, rfl⟩ := T.ret_inv e
  obtain ⟨rfl, rfl, hb, hb'⟩ := of_decide_eq_true hd
  refine ⟨l.length + 1, Eq.trans (run_smA _ _ _ _ _ _ _) ?_⟩
  unfold smFB
  by_cases hl : l.length = l'.length
  · rw [show ((l.length : Int) != (l'.length : Int)) = false by simp; omega, show (l.length == l'.length) = true by simpa using hl]
    have hz : (l.zip l').length = l.length := by simp; omega
    refine Eq.trans (b := match firstIx (fun p : Nat × Nat => !sm32 p.1 p.2) (l.zip l') 0 with | some _ => some (.bool false, [.at r1 (.fl .f32 l), .at r2 (.fl .f32 l')]) | none => some (.bool true, [.at r1 (.fl .f32 l), .at r2 (.fl .f32 l')])) ?_ (by cases firstIx (fun p : Nat × Nat => !sm32 p.1 p.2) (l.zip l') 0 <;> rfl)
    have hs := scan0 (l.zip l') (fun p : Nat × Nat => !sm32 p.1 p.2) (fun M i => lp_smA4 (l.length + 1) M (st_smA4 l.length l'.length i r1 l r2 l') (kt_smA4 (l.length + 1) (kEnd Try.f27 2))) (fun _ => some (.bool false, [.at r1 (.fl .f32 l), .at r2 (.fl .f32 l')])) (some (.bool true, [.at r1 (.fl .f32 l), .at r2 (.fl .f32 l')])) (fun M i x hx => ?_) (fun M => ?_)
    · rw [hz] at hs
      exact hs
    · have hi := lt_of_get hx
      rw [hz] at hi
      obtain ⟨h1, h2⟩ := zip_get hx
      simp only [step_smA4, dlt hi, din hi, din (show i < l'.length by omega), ix, h1, h2, wr (show i < 2147483648 by omega), end_smA4_0] <;> (cases !sm32 x.1 x.2 <;> rfl)
    · rw [hz]
      simp only [step_smA4, dge (Nat.le_refl _), end_smA4_1]
  · rw [show ((l.length : Int) != (l'.length : Int)) = true by simp; omega, show (l.length == l'.length) = false by simpa using hl]
    rfl
def g_sh2 : GT := fun vs h => match vs, h with
  | [.sl 0 0 n, .fl .f32 w, .int .i64 k, .int .i64 j], [.at rw (.fl .f32 l)] =>
    .ite (decide (l.length = n ∧ n < 2147483648)) (.ite (decide ((l.length : Int) > 16)) (.ret nilF [.at rw (.fl .f32 l)]) (.ite (inB j 1 8) (.ite (l.all fun b => wOk b w k) (.ret (.tup [.a (.sl 1 0 n), .a (.bool true)]) [.at rw (.fl .f32 l), .at true (.fl .f32 (shL l w k))]) (.ret nilF [.at rw (.fl .f32 l)])) (.ret nilF [.at rw (.fl .f32 l)]))) .no
  | [.nil, .fl .f32 w, .int .i64 k, .int .i64 j], [] => .ite (inB j 1 8) (.ret (.tup [.a (.sl 0 0 0), .a (.bool true)]) [.at true (.fl .f32 [])]) (.ret nilF [])
  | _, _ => .no
theorem sh2_run (vs : List V) (h : H) : (g_sh2 vs h).run = (g_sh vs h).run := by
  unfold g_sh2 g_sh
  split
  · rename_i n w k j rw l
    show T.k _ _ = T.k _ _
    simp only [T.k]
    unfold shOk
    cases decide (l.length = n ∧ n < 2147483648) <;> cases decide ((l.length : Int) > 16) <;> cases inB j 1 8 <;> cases (l.all fun b => wOk b w k) <;> rfl
  · rfl
  · rename_i hx1 hx2
    split
    · exact (hx1 _ _ _ _ _ _ rfl rfl).elim
    · exact (hx2 _ _ _ rfl rfl).elim
    · rfl
theorem inB_not {n lo hi : Int} (h : inB n lo hi = false) : ¬ (lo ≤ n ∧ n ≤ hi) := by
  intro hh
  unfold inB at h
  rw [decide_eq_true (show n ≥ lo from hh.1), decide_eq_true (show n ≤ hi from hh.2)] at h
  cases h
def tab_lawsa : Fns := tabT [(25, g_sh2), (26, g_sh2), (27, gSmT)]
theorem tabok_lawsa : ∀ f, FnT Try.prog f (tab_lawsa f) := (tabT_cons (k := 25) (ok_shI.as sh2_run) (tabT_cons (k := 26) (ok_shS.as sh2_run) (tabT_cons (k := 27) ok_smA tabT_nil)))
theorem run_lawsa (N : Nat) (w : Nat) (k : Int) (j : Int) (i : Int) (l : List Nat) : run ty tab_lawsa ann0 N Try.f6 [.sl 0 0 l.length, .fl .f32 w, .int .i64 k, .int .i64 j, .int .i64 i] [.at false (.fl .f32 l)]
    = (match decide ((((l.length : Nat) : Int) : Int) > 10000) with
  | true => some (.bool true, [.at false (.fl .f32 l)])
  | false => (match decide (l.length = l.length ∧ l.length < 2147483648) with
    | true => (match decide ((l.length : Int) > 16) with
      | true => (match decide (l.length = l.length ∧ l.length < 2147483648) with
        | true => (match decide ((l.length : Int) > 16) with
          | true => (match decide (l.length = l.length ∧ l.length < 2147483648) with
            | true => (match decide ((l.length : Int) > 16) with
              | true => (match decide ((j : Int) < 1) with
                | true => some (.bool true, [.at false (.fl .f32 l)])
                | false => (match decide ((j : Int) > 8) with
                  | true => some (.bool true, [.at false (.fl .f32 l)])
                  | false => (match decide ((i : Int) < 1) with
                    | true => some (.bool true, [.at false (.fl .f32 l)])
                    | false => (match decide ((i : Int) > 8) with
                      | true => some (.bool true, [.at false (.fl .f32 l)])
                      | false => some (.bool true, [.at false (.fl .f32 l)])))))
              | false => (match inB j 1 8 with
                | true => (match l.all fun b => wOk b w k with
                  | true => some (.bool false, [.at false (.fl .f32 l)])
                  | false => (match decide ((j : Int) < 1) with
                    | true => some (.bool true, [.at false (.fl .f32 l)])
                    | false => (match decide ((j : Int) > 8) with
                      | true => some (.bool true, [.at false (.fl .f32 l)])
                      | false => (match decide ((i : Int) < 1) with
                        | true => some (.bool true, [.at false (.fl .f32 l)])
                        | false => (match decide ((i : Int) > 8) with
                          | true => some (.bool true, [.at false (.fl .f32 l)])
                          | false => some (.bool true, [.at false (.fl .f32 l)]))))))
                | false => (match decide ((j : Int) < 1) with
                  | true => some (.bool true, [.at false (.fl .f32 l)])
                  | false => (match decide ((j : Int) > 8) with
                    | true => some (.bool true, [.at false (.fl .f32 l)])
                    | false => (match decide ((i : Int) < 1) with
                      | true => some (.bool true, [.at false (.fl .f32 l)])
                      | false => (match decide ((i : Int) > 8) with
                        | true => some (.bool true, [.at false (.fl .f32 l)])
                        | false => some (.bool true, [.at false (.fl .f32 l)])))))))
            | false => none)
          | false => (match inB i 1 8 with
            | true => (match l.all fun b => wOk b w k with
              | true => (match decide (l.length = l.length ∧ l.length < 2147483648) with
                | true => (match decide ((l.length : Int) > 16) with
                  | true => (match decide ((j : Int) < 1) with
                    | true => some (.bool true, [.at false (.fl .f32 l)])
                    | false => (match decide ((j : Int) > 8) with
                      | true => some (.bool true, [.at false (.fl .f32 l)])
                      | false => (match decide ((i : Int) < 1) with
                        | true => some (.bool true, [.at false (.fl .f32 l)])
                        | false => (match decide ((i : Int) > 8) with
                          | true => some (.bool true, [.at false (.fl .f32 l)])
                          | false => some (.bool false, [.at false (.fl .f32 l)])))))
                  | false => (match inB j 1 8 with
                    | true => (match l.all fun b => wOk b w k with
                      | true => some (.bool false, [.at false (.fl .f32 l)])
                      | false => (match decide ((j : Int) < 1) with
                        | true => some (.bool true, [.at false (.fl .f32 l)])
                        | false => (match decide ((j : Int) > 8) with
                          | true => some (.bool true, [.at false (.fl .f32 l)])
                          | false => (match decide ((i : Int) < 1) with
                            | true => some (.bool true, [.at false (.fl .f32 l)])
                            | false => (match decide ((i : Int) > 8) with
                              | true => some (.bool true, [.at false (.fl .f32 l)])
                              | false => some (.bool false, [.at false (.fl .f32 l)]))))))
                    | false => (match decide ((j : Int) < 1) with
                      | true => some (.bool true, [.at false (.fl .f32 l)])
                      | false => (match decide ((j : Int) > 8) with
                        | true => some (.bool true, [.at false (.fl .f32 l)])
                        | false => (match decide ((i : Int) < 1) with
                          | true => some (.bool true, [.at false (.fl .f32 l)])
                          | false => (match decide ((i : Int) > 8) with
                            | true => some (.bool true, [.at false (.fl .f32 l)])
                            | false => some (.bool false, [.at false (.fl .f32 l)])))))))
                | false => none)
              | false => (match decide (l.length = l.length ∧ l.length < 2147483648) with
                | true => (match decide ((l.length : Int) > 16) with
                  | true => (match decide ((j : Int) < 1) with
                    | true => some (.bool true, [.at false (.fl .f32 l)])
                    | false => (match decide ((j : Int) > 8) with
                      | true => some (.bool true, [.at false (.fl .f32 l)])
                      | false => (match decide ((i : Int) < 1) with
                        | true => some (.bool true, [.at false (.fl .f32 l)])
                        | false => (match decide ((i : Int) > 8) with
                          | true => some (.bool true, [.at false (.fl .f32 l)])
                          | false => some (.bool true, [.at false (.fl .f32 l)])))))
                  | false => (match inB j 1 8 with
                    | true => (match l.all fun b => wOk b w k with
                      | true => some (.bool false, [.at false (.fl .f32 l)])
                      | false => (match decide ((j : Int) < 1) with
                        | true => some (.bool true, [.at false (.fl .f32 l)])
                        | false => (match decide ((j : Int) > 8) with
                          | true => some (.bool true, [.at false (.fl .f32 l)])
                          | false => (match decide ((i : Int) < 1) with
                            | true => some (.bool true, [.at false (.fl .f32 l)])
                            | false => (match decide ((i : Int) > 8) with
                              | true => some (.bool true, [.at false (.fl .f32 l)])
                              | false => some (.bool true, [.at false (.fl .f32 l)]))))))
                    | false => (match decide ((j : Int) < 1) with
                      | true => some (.bool true, [.at false (.fl .f32 l)])
                      | false => (match decide ((j : Int) > 8) with
                        | true => some (.bool true, [.at false (.fl .f32 l)])
                        | false => (match decide ((i : Int) < 1) with
                          | true => some (.bool true, [.at false (.fl .f32 l)])
                          | false => (match decide ((i : Int) > 8) with
                            | true => some (.bool true, [.at false (.fl .f32 l)])
                            | false => some (.bool true, [.at false (.fl .f32 l)])))))))
                | false => none))
            | false => (match decide (l.length = l.length ∧ l.length < 2147483648) with
              | true => (match decide ((l.length : Int) > 16) with
                | true => (match decide ((j : Int) < 1) with
                  | true => some (.bool true, [.at false (.fl .f32 l)])
                  | false => (match decide ((j : Int) > 8) with
                    | true => some (.bool true, [.at false (.fl .f32 l)])
                    | false => (match decide ((i : Int) < 1) with
                      | true => some (.bool true, [.at false (.fl .f32 l)])
                      | false => (match decide ((i : Int) > 8) with
                        | true => some (.bool true, [.at false (.fl .f32 l)])
                        | false => some (.bool true, [.at false (.fl .f32 l)])))))
                | false => (match inB j 1 8 with
                  | true => (match l.all fun b => wOk b w k with
                    | true => some (.bool false, [.at false (.fl .f32 l)])
                    | false => (match decide ((j : Int) < 1) with
                      | true => some (.bool true, [.at false (.fl .f32 l)])
                      | false => (match decide ((j : Int) > 8) with
                        | true => some (.bool true, [.at false (.fl .f32 l)])
                        | false => (match decide ((i : Int) < 1) with
                          | true => some (.bool true, [.at false (.fl .f32 l)])
                          | false => (match decide ((i : Int) > 8) with
                            | true => some (.bool true, [.at false (.fl .f32 l)])
                            | false => some (.bool true, [.at false (.fl .f32 l)]))))))
                  | false => (match decide ((j : Int) < 1) with
                    | true => some (.bool true, [.at false (.fl .f32 l)])
                    | false => (match decide ((j : Int) > 8) with
                      | true => some (.bool true, [.at false (.fl .f32 l)])
                      | false => (match decide ((i : Int) < 1) with
                        | true => some (.bool true, [.at false (.fl .f32 l)])
                        | false => (match decide ((i : Int) > 8) with
                          | true => some (.bool true, [.at false (.fl .f32 l)])
                          | false => some (.bool true, [.at false (.fl .f32 l)])))))))
              | false => none)))
        | false => none)
      | false => (match inB j 1 8 with
        | true => (match l.all fun b => wOk b w k with
          | true => (match decide (l.length = l.length ∧ l.length < 2147483648) with
            | true => (match decide ((l.length : Int) > 16) with
              | true => (match decide (l.length = l.length ∧ l.length < 2147483648) with
                | true => (match decide ((l.length : Int) > 16) with
                  | true => some (.bool false, [.at false (.fl .f32 l)])
                  | false => (match inB j 1 8 with
                    | true => (match l.all fun b => wOk b w k with
                      | true => (match decide ((shL l w k).length = l.length ∧ (shL l w k).length = l.length ∧ l.length < 2147483648 ∧ l.length < 2147483648) with
                        | true => (match !(smFB (shL l w k) (shL l w k)) with
                          | true => some (.bool false, [.at false (.fl .f32 l)])
                          | false => (match decide ((j : Int) < 1) with
                            | true => some (.bool true, [.at false (.fl .f32 l)])
                            | false => (match decide ((j : Int) > 8) with
                              | true => some (.bool true, [.at false (.fl .f32 l)])
                              | false => (match decide ((i : Int) < 1) with
                                | true => some (.bool true, [.at false (.fl .f32 l)])
                                | false => (match decide ((i : Int) > 8) with
                                  | true => some (.bool true, [.at false (.fl .f32 l)])
                                  | false => some (.bool false, [.at false (.fl .f32 l)]))))))
                        | false => none)
                      | false => some (.bool false, [.at false (.fl .f32 l)]))
                    | false => some (.bool false, [.at false (.fl .f32 l)])))
                | false => none)
              | false => (match inB i 1 8 with
                | true => (match l.all fun b => wOk b w k with
                  | true => (match decide (l.length = l.length ∧ l.length < 2147483648) with
                    | true => (match decide ((l.length : Int) > 16) with
                      | true => some (.bool false, [.at false (.fl .f32 l)])
                      | false => (match inB j 1 8 with
                        | true => (match l.all fun b => wOk b w k with
                          | true => (match decide ((shL l w k).length = l.length ∧ (shL l w k).length = l.length ∧ l.length < 2147483648 ∧ l.length < 2147483648) with
                            | true => (match !(smFB (shL l w k) (shL l w k)) with
                              | true => some (.bool false, [.at false (.fl .f32 l)])
                              | false => (match decide ((j : Int) < 1) with
                                | true => some (.bool true, [.at false (.fl .f32 l)])
                                | false => (match decide ((j : Int) > 8) with
                                  | true => some (.bool true, [.at false (.fl .f32 l)])
                                  | false => (match decide ((i : Int) < 1) with
                                    | true => some (.bool true, [.at false (.fl .f32 l)])
                                    | false => (match decide ((i : Int) > 8) with
                                      | true => some (.bool true, [.at false (.fl .f32 l)])
                                      | false => (match decide ((shL l w k).length = l.length ∧ (shL l w k).length = l.length ∧ l.length < 2147483648 ∧ l.length < 2147483648) with
                                        | true => some (.bool (smFB (shL l w k) (shL l w k)), [.at false (.fl .f32 l)])
                                        | false => none))))))
                            | false => none)
                          | false => some (.bool false, [.at false (.fl .f32 l)]))
                        | false => some (.bool false, [.at false (.fl .f32 l)])))
                    | false => none)
                  | false => (match decide (l.length = l.length ∧ l.length < 2147483648) with
                    | true => (match decide ((l.length : Int) > 16) with
                      | true => some (.bool false, [.at false (.fl .f32 l)])
                      | false => (match inB j 1 8 with
                        | true => (match l.all fun b => wOk b w k with
                          | true => (match decide ((shL l w k).length = l.length ∧ (shL l w k).length = l.length ∧ l.length < 2147483648 ∧ l.length < 2147483648) with
                            | true => (match !(smFB (shL l w k) (shL l w k)) with
                              | true => some (.bool false, [.at false (.fl .f32 l)])
                              | false => (match decide ((j : Int) < 1) with
                                | true => some (.bool true, [.at false (.fl .f32 l)])
                                | false => (match decide ((j : Int) > 8) with
                                  | true => some (.bool true, [.at false (.fl .f32 l)])
                                  | false => (match decide ((i : Int) < 1) with
                                    | true => some (.bool true, [.at false (.fl .f32 l)])
                                    | false => (match decide ((i : Int) > 8) with
                                      | true => some (.bool true, [.at false (.fl .f32 l)])
                                      | false => some (.bool false, [.at false (.fl .f32 l)]))))))
                            | false => none)
                          | false => some (.bool false, [.at false (.fl .f32 l)]))
                        | false => some (.bool false, [.at false (.fl .f32 l)])))
                    | false => none))
                | false => (match decide (l.length = l.length ∧ l.length < 2147483648) with
                  | true => (match decide ((l.length : Int) > 16) with
                    | true => some (.bool false, [.at false (.fl .f32 l)])
                    | false => (match inB j 1 8 with
                      | true => (match l.all fun b => wOk b w k with
                        | true => (match decide ((shL l w k).length = l.length ∧ (shL l w k).length = l.length ∧ l.length < 2147483648 ∧ l.length < 2147483648) with
                          | true => (match !(smFB (shL l w k) (shL l w k)) with
                            | true => some (.bool false, [.at false (.fl .f32 l)])
                            | false => (match decide ((j : Int) < 1) with
                              | true => some (.bool true, [.at false (.fl .f32 l)])
                              | false => (match decide ((j : Int) > 8) with
                                | true => some (.bool true, [.at false (.fl .f32 l)])
                                | false => (match decide ((i : Int) < 1) with
                                  | true => some (.bool true, [.at false (.fl .f32 l)])
                                  | false => (match decide ((i : Int) > 8) with
                                    | true => some (.bool true, [.at false (.fl .f32 l)])
                                    | false => some (.bool false, [.at false (.fl .f32 l)]))))))
                          | false => none)
                        | false => some (.bool false, [.at false (.fl .f32 l)]))
                      | false => some (.bool false, [.at false (.fl .f32 l)])))
                  | false => none)))
            | false => none)
          | false => (match decide (l.length = l.length ∧ l.length < 2147483648) with
            | true => (match decide ((l.length : Int) > 16) with
              | true => (match decide (l.length = l.length ∧ l.length < 2147483648) with
                | true => (match decide ((l.length : Int) > 16) with
                  | true => (match decide ((j : Int) < 1) with
                    | true => some (.bool true, [.at false (.fl .f32 l)])
                    | false => (match decide ((j : Int) > 8) with
                      | true => some (.bool true, [.at false (.fl .f32 l)])
                      | false => (match decide ((i : Int) < 1) with
                        | true => some (.bool true, [.at false (.fl .f32 l)])
                        | false => (match decide ((i : Int) > 8) with
                          | true => some (.bool true, [.at false (.fl .f32 l)])
                          | false => some (.bool true, [.at false (.fl .f32 l)])))))
                  | false => (match inB j 1 8 with
                    | true => (match l.all fun b => wOk b w k with
                      | true => some (.bool false, [.at false (.fl .f32 l)])
                      | false => (match decide ((j : Int) < 1) with
                        | true => some (.bool true, [.at false (.fl .f32 l)])
                        | false => (match decide ((j : Int) > 8) with
                          | true => some (.bool true, [.at false (.fl .f32 l)])
                          | false => (match decide ((i : Int) < 1) with
                            | true => some (.bool true, [.at false (.fl .f32 l)])
                            | false => (match decide ((i : Int) > 8) with
                              | true => some (.bool true, [.at false (.fl .f32 l)])
                              | false => some (.bool true, [.at false (.fl .f32 l)]))))))
                    | false => (match decide ((j : Int) < 1) with
                      | true => some (.bool true, [.at false (.fl .f32 l)])
                      | false => (match decide ((j : Int) > 8) with
                        | true => some (.bool true, [.at false (.fl .f32 l)])
                        | false => (match decide ((i : Int) < 1) with
                          | true => some (.bool true, [.at false (.fl .f32 l)])
                          | false => (match decide ((i : Int) > 8) with
                            | true => some (.bool true, [.at false (.fl .f32 l)])
                            | false => some (.bool true, [.at false (.fl .f32 l)])))))))
                | false => none)
              | false => (match inB i 1 8 with
                | true => (match l.all fun b => wOk b w k with
                  | true => (match decide (l.length = l.length ∧ l.length < 2147483648) with
                    | true => (match decide ((l.length : Int) > 16) with
                      | true => (match decide ((j : Int) < 1) with
                        | true => some (.bool true, [.at false (.fl .f32 l)])
                        | false => (match decide ((j : Int) > 8) with
                          | true => some (.bool true, [.at false (.fl .f32 l)])
                          | false => (match decide ((i : Int) < 1) with
                            | true => some (.bool true, [.at false (.fl .f32 l)])
                            | false => (match decide ((i : Int) > 8) with
                              | true => some (.bool true, [.at false (.fl .f32 l)])
                              | false => some (.bool false, [.at false (.fl .f32 l)])))))
                      | false => (match inB j 1 8 with
                        | true => (match l.all fun b => wOk b w k with
                          | true => some (.bool false, [.at false (.fl .f32 l)])
                          | false => (match decide ((j : Int) < 1) with
                            | true => some (.bool true, [.at false (.fl .f32 l)])
                            | false => (match decide ((j : Int) > 8) with
                              | true => some (.bool true, [.at false (.fl .f32 l)])
                              | false => (match decide ((i : Int) < 1) with
                                | true => some (.bool true, [.at false (.fl .f32 l)])
                                | false => (match decide ((i : Int) > 8) with
                                  | true => some (.bool true, [.at false (.fl .f32 l)])
                                  | false => some (.bool false, [.at false (.fl .f32 l)]))))))
                        | false => (match decide ((j : Int) < 1) with
                          | true => some (.bool true, [.at false (.fl .f32 l)])
                          | false => (match decide ((j : Int) > 8) with
                            | true => some (.bool true, [.at false (.fl .f32 l)])
                            | false => (match decide ((i : Int) < 1) with
                              | true => some (.bool true, [.at false (.fl .f32 l)])
                              | false => (match decide ((i : Int) > 8) with
                                | true => some (.bool true, [.at false (.fl .f32 l)])
                                | false => some (.bool false, [.at false (.fl .f32 l)])))))))
                    | false => none)
                  | false => (match decide (l.length = l.length ∧ l.length < 2147483648) with
                    | true => (match decide ((l.length : Int) > 16) with
                      | true => (match decide ((j : Int) < 1) with
                        | true => some (.bool true, [.at false (.fl .f32 l)])
                        | false => (match decide ((j : Int) > 8) with
                          | true => some (.bool true, [.at false (.fl .f32 l)])
                          | false => (match decide ((i : Int) < 1) with
                            | true => some (.bool true, [.at false (.fl .f32 l)])
                            | false => (match decide ((i : Int) > 8) with
                              | true => some (.bool true, [.at false (.fl .f32 l)])
                              | false => some (.bool true, [.at false (.fl .f32 l)])))))
                      | false => (match inB j 1 8 with
                        | true => (match l.all fun b => wOk b w k with
                          | true => some (.bool false, [.at false (.fl .f32 l)])
                          | false => (match decide ((j : Int) < 1) with
                            | true => some (.bool true, [.at false (.fl .f32 l)])
                            | false => (match decide ((j : Int) > 8) with
                              | true => some (.bool true, [.at false (.fl .f32 l)])
                              | false => (match decide ((i : Int) < 1) with
                                | true => some (.bool true, [.at false (.fl .f32 l)])
                                | false => (match decide ((i : Int) > 8) with
                                  | true => some (.bool true, [.at false (.fl .f32 l)])
                                  | false => some (.bool true, [.at false (.fl .f32 l)]))))))
                        | false => (match decide ((j : Int) < 1) with
                          | true => some (.bool true, [.at false (.fl .f32 l)])
                          | false => (match decide ((j : Int) > 8) with
                            | true => some (.bool true, [.at false (.fl .f32 l)])
                            | false => (match decide ((i : Int) < 1) with
                              | true => some (.bool true, [.at false (.fl .f32 l)])
                              | false => (match decide ((i : Int) > 8) with
                                | true => some (.bool true, [.at false (.fl .f32 l)])
                                | false => some (.bool true, [.at false (.fl .f32 l)])))))))
                    | false => none))
                | false => (match decide (l.length = l.length ∧ l.length < 2147483648) with
                  | true => (match decide ((l.length : Int) > 16) with
                    | true => (match decide ((j : Int) < 1) with
                      | true => some (.bool true, [.at false (.fl .f32 l)])
                      | false => (match decide ((j : Int) > 8) with
                        | true => some (.bool true, [.at false (.fl .f32 l)])
                        | false => (match decide ((i : Int) < 1) with
                          | true => some (.bool true, [.at false (.fl .f32 l)])
                          | false => (match decide ((i : Int) > 8) with
                            | true => some (.bool true, [.at false (.fl .f32 l)])
                            | false => some (.bool true, [.at false (.fl .f32 l)])))))
                    | false => (match inB j 1 8 with
                      | true => (match l.all fun b => wOk b w k with
                        | true => some (.bool false, [.at false (.fl .f32 l)])
                        | false => (match decide ((j : Int) < 1) with
                          | true => some (.bool true, [.at false (.fl .f32 l)])
                          | false => (match decide ((j : Int) > 8) with
                            | true => some (.bool true, [.at false (.fl .f32 l)])
                            | false => (match decide ((i : Int) < 1) with
                              | true => some (.bool true, [.at false (.fl .f32 l)])
                              | false => (match decide ((i : Int) > 8) with
                                | true => some (.bool true, [.at false (.fl .f32 l)])
                                | false => some (.bool true, [.at false (.fl .f32 l)]))))))
                      | false => (match decide ((j : Int) < 1) with
                        | true => some (.bool true, [.at false (.fl .f32 l)])
                        | false => (match decide ((j : Int) > 8) with
                          | true => some (.bool true, [.at false (.fl .f32 l)])
                          | false => (match decide ((i : Int) < 1) with
                            | true => some (.bool true, [.at false (.fl .f32 l)])
                            | false => (match decide ((i : Int) > 8) with
                              | true => some (.bool true, [.at false (.fl .f32 l)])
                              | false => some (.bool true, [.at false (.fl .f32 l)])))))))
                  | false => none)))
            | false => none))
        | false => (match decide (l.length = l.length ∧ l.length < 2147483648) with
          | true => (match decide ((l.length : Int) > 16) with
            | true => (match decide (l.length = l.length ∧ l.length < 2147483648) with
              | true => (match decide ((l.length : Int) > 16) with
                | true => (match decide ((j : Int) < 1) with
                  | true => some (.bool true, [.at false (.fl .f32 l)])
                  | false => (match decide ((j : Int) > 8) with
                    | true => some (.bool true, [.at false (.fl .f32 l)])
                    | false => (match decide ((i : Int) < 1) with
                      | true => some (.bool true, [.at false (.fl .f32 l)])
                      | false => (match decide ((i : Int) > 8) with
                        | true => some (.bool true, [.at false (.fl .f32 l)])
                        | false => some (.bool true, [.at false (.fl .f32 l)])))))
                | false => (match inB j 1 8 with
                  | true => (match l.all fun b => wOk b w k with
                    | true => some (.bool false, [.at false (.fl .f32 l)])
                    | false => (match decide ((j : Int) < 1) with
                      | true => some (.bool true, [.at false (.fl .f32 l)])
                      | false => (match decide ((j : Int) > 8) with
                        | true => some (.bool true, [.at false (.fl .f32 l)])
                        | false => (match decide ((i : Int) < 1) with
                          | true => some (.bool true, [.at false (.fl .f32 l)])
                          | false => (match decide ((i : Int) > 8) with
                            | true => some (.bool true, [.at false (.fl .f32 l)])
                            | false => some (.bool true, [.at false (.fl .f32 l)]))))))
                  | false => (match decide ((j : Int) < 1) with
                    | true => some (.bool true, [.at false (.fl .f32 l)])
                    | false => (match decide ((j : Int) > 8) with
                      | true => some (.bool true, [.at false (.fl .f32 l)])
                      | false => (match decide ((i : Int) < 1) with
                        | true => some (.bool true, [.at false (.fl .f32 l)])
                        | false => (match decide ((i : Int) > 8) with
                          | true => some (.bool true, [.at false (.fl .f32 l)])
                          | false => some (.bool true, [.at false (.fl .f32 l)])))))))
              | false => none)
            | false => (match inB i 1 8 with
              | true => (match l.all fun b => wOk b w k with
                | true => (match decide (l.length = l.length ∧ l.length < 2147483648) with
                  | true => (match decide ((l.length : Int) > 16) with
                    | true => (match decide ((j : Int) < 1) with
                      | true => some (.bool true, [.at false (.fl .f32 l)])
                      | false => (match decide ((j : Int) > 8) with
                        | true => some (.bool true, [.at false (.fl .f32 l)])
                        | false => (match decide ((i : Int) < 1) with
                          | true => some (.bool true, [.at false (.fl .f32 l)])
                          | false => (match decide ((i : Int) > 8) with
                            | true => some (.bool true, [.at false (.fl .f32 l)])
                            | false => some (.bool false, [.at false (.fl .f32 l)])))))
                    | false => (match inB j 1 8 with
                      | true => (match l.all fun b => wOk b w k with
                        | true => some (.bool false, [.at false (.fl .f32 l)])
                        | false => (match decide ((j : Int) < 1) with
                          | true => some (.bool true, [.at false (.fl .f32 l)])
                          | false => (match decide ((j : Int) > 8) with
                            | true => some (.bool true, [.at false (.fl .f32 l)])
                            | false => (match decide ((i : Int) < 1) with
                              | true => some (.bool true, [.at false (.fl .f32 l)])
                              | false => (match decide ((i : Int) > 8) with
                                | true => some (.bool true, [.at false (.fl .f32 l)])
                                | false => some (.bool false, [.at false (.fl .f32 l)]))))))
                      | false => (match decide ((j : Int) < 1) with
                        | true => some (.bool true, [.at false (.fl .f32 l)])
                        | false => (match decide ((j : Int) > 8) with
                          | true => some (.bool true, [.at false (.fl .f32 l)])
                          | false => (match decide ((i : Int) < 1) with
                            | true => some (.bool true, [.at false (.fl .f32 l)])
                            | false => (match decide ((i : Int) > 8) with
                              | true => some (.bool true, [.at false (.fl .f32 l)])
                              | false => some (.bool false, [.at false (.fl .f32 l)])))))))
                  | false => none)
                | false => (match decide (l.length = l.length ∧ l.length < 2147483648) with
                  | true => (match decide ((l.length : Int) > 16) with
                    | true => (match decide ((j : Int) < 1) with
                      | true => some (.bool true, [.at false (.fl .f32 l)])
                      | false => (match decide ((j : Int) > 8) with
                        | true => some (.bool true, [.at false (.fl .f32 l)])
                        | false => (match decide ((i : Int) < 1) with
                          | true => some (.bool true, [.at false (.fl .f32 l)])
                          | false => (match decide ((i : Int) > 8) with
                            | true => some (.bool true, [.at false (.fl .f32 l)])
                            | false => some (.bool true, [.at false (.fl .f32 l)])))))
                    | false => (match inB j 1 8 with
                      | true => (match l.all fun b => wOk b w k with
                        | true => some (.bool false, [.at false (.fl .f32 l)])
                        | false => (match decide ((j : Int) < 1) with
                          | true => some (.bool true, [.at false (.fl .f32 l)])
                          | false => (match decide ((j : Int) > 8) with
                            | true => some (.bool true, [.at false (.fl .f32 l)])
                            | false => (match decide ((i : Int) < 1) with
                              | true => some (.bool true, [.at false (.fl .f32 l)])
                              | false => (match decide ((i : Int) > 8) with
                                | true => some (.bool true, [.at false (.fl .f32 l)])
                                | false => some (.bool true, [.at false (.fl .f32 l)]))))))
                      | false => (match decide ((j : Int) < 1) with
                        | true => some (.bool true, [.at false (.fl .f32 l)])
                        | false => (match decide ((j : Int) > 8) with
                          | true => some (.bool true, [.at false (.fl .f32 l)])
                          | false => (match decide ((i : Int) < 1) with
                            | true => some (.bool true, [.at false (.fl .f32 l)])
                            | false => (match decide ((i : Int) > 8) with
                              | true => some (.bool true, [.at false (.fl .f32 l)])
                              | false => some (.bool true, [.at false (.fl .f32 l)])))))))
                  | false => none))
              | false => (match decide (l.length = l.length ∧ l.length < 2147483648) with
                | true => (match decide ((l.length : Int) > 16) with
                  | true => (match decide ((j : Int) < 1) with
                    | true => some (.bool true, [.at false (.fl .f32 l)])
                    | false => (match decide ((j : Int) > 8) with
                      | true => some (.bool true, [.at false (.fl .f32 l)])
                      | false => (match decide ((i : Int) < 1) with
                        | true => some (.bool true, [.at false (.fl .f32 l)])
                        | false => (match decide ((i : Int) > 8) with
                          | true => some (.bool true, [.at false (.fl .f32 l)])
                          | false => some (.bool true, [.at false (.fl .f32 l)])))))
                  | false => (match inB j 1 8 with
                    | true => (match l.all fun b => wOk b w k with
                      | true => some (.bool false, [.at false (.fl .f32 l)])
                      | false => (match decide ((j : Int) < 1) with
                        | true => some (.bool true, [.at false (.fl .f32 l)])
                        | false => (match decide ((j : Int) > 8) with
                          | true => some (.bool true, [.at false (.fl .f32 l)])
                          | false => (match decide ((i : Int) < 1) with
                            | true => some (.bool true, [.at false (.fl .f32 l)])
                            | false => (match decide ((i : Int) > 8) with
                              | true => some (.bool true, [.at false (.fl .f32 l)])
                              | false => some (.bool true, [.at false (.fl .f32 l)]))))))
                    | false => (match decide ((j : Int) < 1) with
                      | true => some (.bool true, [.at false (.fl .f32 l)])
                      | false => (match decide ((j : Int) > 8) with
                        | true => some (.bool true, [.at false (.fl .f32 l)])
                        | false => (match decide ((i : Int) < 1) with
                          | true => some (.bool true, [.at false (.fl .f32 l)])
                          | false => (match decide ((i : Int) > 8) with
                            | true => some (.bool true, [.at false (.fl .f32 l)])
                            | false => some (.bool true, [.at false (.fl .f32 l)])))))))
                | false => none)))
          | false => none)))
    | false => none)) := by
  kernel_rfl

abbrev tab_lawsan : Fns := tab_lawsa
theorem run_lawsan (N : Nat) (w : Nat) (k : Int) (j : Int) (i : Int) : run ty tab_lawsan ann0 N Try.f6 [.nil, .fl .f32 w, .int .i64 k, .int .i64 j, .int .i64 i] []
    = (match inB j 1 8 with
  | true => (match inB i 1 8 with
    | true => (match inB j 1 8 with
      | true => (match decide (([] : List Nat).length = 0 ∧ ([] : List Nat).length = 0 ∧ 0 < 2147483648 ∧ 0 < 2147483648) with
        | true => (match !(smFB ([] : List Nat) ([] : List Nat)) with
          | true => some (.bool false, [])
          | false => (match decide ((j : Int) < 1) with
            | true => some (.bool true, [])
            | false => (match decide ((j : Int) > 8) with
              | true => some (.bool true, [])
              | false => (match decide ((i : Int) < 1) with
                | true => some (.bool true, [])
                | false => (match decide ((i : Int) > 8) with
                  | true => some (.bool true, [])
                  | false => (match decide (([] : List Nat).length = 0 ∧ ([] : List Nat).length = 0 ∧ 0 < 2147483648 ∧ 0 < 2147483648) with
                    | true => some (.bool (smFB ([] : List Nat) ([] : List Nat)), [])
                    | false => none))))))
        | false => none)
      | false => some (.bool false, []))
    | false => (match inB j 1 8 with
      | true => (match decide (([] : List Nat).length = 0 ∧ ([] : List Nat).length = 0 ∧ 0 < 2147483648 ∧ 0 < 2147483648) with
        | true => (match !(smFB ([] : List Nat) ([] : List Nat)) with
          | true => some (.bool false, [])
          | false => (match decide ((j : Int) < 1) with
            | true => some (.bool true, [])
            | false => (match decide ((j : Int) > 8) with
              | true => some (.bool true, [])
              | false => (match decide ((i : Int) < 1) with
                | true => some (.bool true, [])
                | false => (match decide ((i : Int) > 8) with
                  | true => some (.bool true, [])
                  | false => some (.bool false, []))))))
        | false => none)
      | false => some (.bool false, [])))
  | false => (match inB i 1 8 with
    | true => (match inB j 1 8 with
      | true => some (.bool false, [])
      | false => (match decide ((j : Int) < 1) with
        | true => some (.bool true, [])
        | false => (match decide ((j : Int) > 8) with
          | true => some (.bool true, [])
          | false => (match decide ((i : Int) < 1) with
            | true => some (.bool true, [])
            | false => (match decide ((i : Int) > 8) with
              | true => some (.bool true, [])
              | false => some (.bool false, []))))))
    | false => (match inB j 1 8 with
      | true => some (.bool false, [])
      | false => (match decide ((j : Int) < 1) with
        | true => some (.bool true, [])
        | false => (match decide ((j : Int) > 8) with
          | true => some (.bool true, [])
          | false => (match decide ((i : Int) < 1) with
            | true => some (.bool true, [])
            | false => (match decide ((i : Int) > 8) with
              | true => some (.bool true, [])
              | false => some (.bool true, [])))))))) := by
  kernel_rfl

def g_lawsa : G := fun vs hp => match vs, hp with
  | [.sl 0 0 n, .fl .f32 w, .int .i64 k, .int .i64 j, .int .i64 i], [.at false (.fl .f32 l)] => if n = l.length then some (.bool true, [.at false (.fl .f32 l)]) else none
  | [.nil, .fl .f32 w, .int .i64 k, .int .i64 j, .int .i64 i], [] => some (.bool true, [])
  | _, _ => none
theorem ok_lawSharedOfAll : FnOk Try.prog 6 g_lawsa := by
  refine fnOk tabok_lawsa Try.func6 rfl rfl ann0 fun vs hp v h' e => ⟨0, ?_⟩
  unfold g_lawsa at e
  split at e
  · rename_i n w k j i l
    split at e
    case isFalse => cases e
    rename_i hn
    subst hn
    cases e
    refine Eq.trans (run_lawsa 0 _ _ _ _ _) ?_
    cases hc1 : decide ((((l.length : Nat) : Int) : Int) > 10000)
    case false =>
      have fhc1 := of_decide_eq_false hc1
      have hc2 : (decide (l.length = l.length ∧ l.length < 2147483648)) = true := decide_eq_true (by first | omega | (simp [shL_len] <;> omega))
      rw [hc2]
      cases hc3 : decide ((l.length : Int) > 16)
      case false =>
        have fhc3 := of_decide_eq_false hc3
        cases hc4 : inB j 1 8
        case false =>
          have ghc4 := inB_not hc4
          cases hc5 : inB i 1 8
          case false =>
            have ghc5 := inB_not hc5
            cases hc6 : decide ((j : Int) < 1)
            case false =>
              have fhc6 := of_decide_eq_false hc6
              cases hc7 : decide ((j : Int) > 8)
              case false =>
                have fhc7 := of_decide_eq_false hc7
                cases hc8 : decide ((i : Int) < 1)
                case false =>
                  have fhc8 := of_decide_eq_false hc8
                  cases hc9 : decide ((i : Int) > 8)
                  case false =>
                    have fhc9 := of_decide_eq_false hc9
                    rfl
                  case true =>
                    have fhc9 := of_decide_eq_true hc9
                    rfl
                case true =>
                  have fhc8 := of_decide_eq_true hc8
                  rfl
              case true =>
                have fhc7 := of_decide_eq_true hc7
                rfl
            case true =>
              have fhc6 := of_decide_eq_true hc6
              rfl
          case true =>
            have ghc5 := inB_of hc5
            cases hc10 : l.all fun b => wOk b w k
            case false =>
              cases hc11 : decide ((j : Int) < 1)
              case false =>
                have fhc11 := of_decide_eq_false hc11
                cases hc12 : decide ((j : Int) > 8)
                case false =>
                  have fhc12 := of_decide_eq_false hc12
                  cases hc13 : decide ((i : Int) < 1)
                  case false =>
                    have fhc13 := of_decide_eq_false hc13
                    cases hc14 : decide ((i : Int) > 8)
                    case false =>
                      have fhc14 := of_decide_eq_false hc14
                      rfl
                    case true =>
                      have fhc14 := of_decide_eq_true hc14
                      rfl
                  case true =>
                    have fhc13 := of_decide_eq_true hc13
                    rfl
                case true =>
                  have fhc12 := of_decide_eq_true hc12
                  rfl
              case true =>
                have fhc11 := of_decide_eq_true hc11
                rfl
            case true =>
              cases hc15 : decide ((j : Int) < 1)
              case false =>
                have fhc15 := of_decide_eq_false hc15
                cases hc16 : decide ((j : Int) > 8)
                case false =>
                  have fhc16 := of_decide_eq_false hc16
                  cases hc17 : decide ((i : Int) < 1)
                  case false =>
                    have fhc17 := of_decide_eq_false hc17
                    have hc18 : (decide ((i : Int) > 8)) = true := decide_eq_true (by first | omega | (simp [shL_len] <;> omega))
                    rw [hc18]
                  case true =>
                    have fhc17 := of_decide_eq_true hc17
                    rfl
                case true =>
                  have fhc16 := of_decide_eq_true hc16
                  rfl
              case true =>
                have fhc15 := of_decide_eq_true hc15
                rfl
        case true =>
          have ghc4 := inB_of hc4
          cases hc19 : l.all fun b => wOk b w k
          case false =>
            cases hc20 : inB i 1 8
            case false =>
              have ghc20 := inB_not hc20
              cases hc21 : decide ((j : Int) < 1)
              case false =>
                have fhc21 := of_decide_eq_false hc21
                cases hc22 : decide ((j : Int) > 8)
                case false =>
                  have fhc22 := of_decide_eq_false hc22
                  cases hc23 : decide ((i : Int) < 1)
                  case false =>
                    have fhc23 := of_decide_eq_false hc23
                    cases hc24 : decide ((i : Int) > 8)
                    case false =>
                      have fhc24 := of_decide_eq_false hc24
                      rfl
                    case true =>
                      have fhc24 := of_decide_eq_true hc24
                      rfl
                  case true =>
                    have fhc23 := of_decide_eq_true hc23
                    rfl
                case true =>
                  have fhc22 := of_decide_eq_true hc22
                  rfl
              case true =>
                have fhc21 := of_decide_eq_true hc21
                rfl
            case true =>
              have ghc20 := inB_of hc20
              cases hc25 : decide ((j : Int) < 1)
              case false =>
                have fhc25 := of_decide_eq_false hc25
                cases hc26 : decide ((j : Int) > 8)
                case false =>
                  have fhc26 := of_decide_eq_false hc26
                  cases hc27 : decide ((i : Int) < 1)
                  case false =>
                    have fhc27 := of_decide_eq_false hc27
                    cases hc28 : decide ((i : Int) > 8)
                    case false =>
                      have fhc28 := of_decide_eq_false hc28
                      rfl
                    case true =>
                      have fhc28 := of_decide_eq_true hc28
                      rfl
                  case true =>
                    have fhc27 := of_decide_eq_true hc27
                    rfl
                case true =>
                  have fhc26 := of_decide_eq_true hc26
                  rfl
              case true =>
                have fhc25 := of_decide_eq_true hc25
                rfl
          case true =>
            cases hc29 : inB i 1 8
            case false =>
              have ghc29 := inB_not hc29
              have hc30 : (decide ((shL l w k).length = l.length ∧ (shL l w k).length = l.length ∧ l.length < 2147483648 ∧ l.length < 2147483648)) = true := decide_eq_true (by first | omega | (simp [shL_len] <;> omega))
              have hc31 : (!(smFB (shL l w k) (shL l w k))) = false := by rw [smFB_self]; rfl
              rw [hc30, hc31]
              cases hc32 : decide ((j : Int) < 1)
              case false =>
                have fhc32 := of_decide_eq_false hc32
                cases hc33 : decide ((j : Int) > 8)
                case false =>
                  have fhc33 := of_decide_eq_false hc33
                  cases hc34 : decide ((i : Int) < 1)
                  case false =>
                    have fhc34 := of_decide_eq_false hc34
                    have hc35 : (decide ((i : Int) > 8)) = true := decide_eq_true (by first | omega | (simp [shL_len] <;> omega))
                    rw [hc35]
                  case true =>
                    have fhc34 := of_decide_eq_true hc34
                    rfl
                case true =>
                  have fhc33 := of_decide_eq_true hc33
                  rfl
              case true =>
                have fhc32 := of_decide_eq_true hc32
                rfl
            case true =>
              have ghc29 := inB_of hc29
              have hc36 : (decide ((shL l w k).length = l.length ∧ (shL l w k).length = l.length ∧ l.length < 2147483648 ∧ l.length < 2147483648)) = true := decide_eq_true (by first | omega | (simp [shL_len] <;> omega))
              have hc37 : (!(smFB (shL l w k) (shL l w k))) = false := by rw [smFB_self]; rfl
              rw [hc36, hc37]
              cases hc38 : decide ((j : Int) < 1)
              case false =>
                have fhc38 := of_decide_eq_false hc38
                cases hc39 : decide ((j : Int) > 8)
                case false =>
                  have fhc39 := of_decide_eq_false hc39
                  cases hc40 : decide ((i : Int) < 1)
                  case false =>
                    have fhc40 := of_decide_eq_false hc40
                    cases hc41 : decide ((i : Int) > 8)
                    case false =>
                      have fhc41 := of_decide_eq_false hc41
                      rw [smFB_self]
                    case true =>
                      have fhc41 := of_decide_eq_true hc41
                      rfl
                  case true =>
                    have fhc40 := of_decide_eq_true hc40
                    rfl
                case true =>
                  have fhc39 := of_decide_eq_true hc39
                  rfl
              case true =>
                have fhc38 := of_decide_eq_true hc38
                rfl
      case true =>
        have fhc3 := of_decide_eq_true hc3
        cases hc42 : decide ((j : Int) < 1)
        case false =>
          have fhc42 := of_decide_eq_false hc42
          cases hc43 : decide ((j : Int) > 8)
          case false =>
            have fhc43 := of_decide_eq_false hc43
            cases hc44 : decide ((i : Int) < 1)
            case false =>
              have fhc44 := of_decide_eq_false hc44
              cases hc45 : decide ((i : Int) > 8)
              case false =>
                have fhc45 := of_decide_eq_false hc45
                rfl
              case true =>
                have fhc45 := of_decide_eq_true hc45
                rfl
            case true =>
              have fhc44 := of_decide_eq_true hc44
              rfl
          case true =>
            have fhc43 := of_decide_eq_true hc43
            rfl
        case true =>
          have fhc42 := of_decide_eq_true hc42
          rfl
    case true =>
      have fhc1 := of_decide_eq_true hc1
      rfl
  · rename_i w k j i
    cases e
    refine Eq.trans (run_lawsan 0 _ _ _ _) ?_
    cases hc1 : inB j 1 8
    case false =>
      have ghc1 := inB_not hc1
      cases hc2 : inB i 1 8
      case false =>
        have ghc2 := inB_not hc2
        cases hc3 : decide ((j : Int) < 1)
        case false =>
          have fhc3 := of_decide_eq_false hc3
          cases hc4 : decide ((j : Int) > 8)
          case false =>
            have fhc4 := of_decide_eq_false hc4
            cases hc5 : decide ((i : Int) < 1)
            case false =>
              have fhc5 := of_decide_eq_false hc5
              cases hc6 : decide ((i : Int) > 8)
              case false =>
                have fhc6 := of_decide_eq_false hc6
                rfl
              case true =>
                have fhc6 := of_decide_eq_true hc6
                rfl
            case true =>
              have fhc5 := of_decide_eq_true hc5
              rfl
          case true =>
            have fhc4 := of_decide_eq_true hc4
            rfl
        case true =>
          have fhc3 := of_decide_eq_true hc3
          rfl
      case true =>
        have ghc2 := inB_of hc2
        cases hc7 : decide ((j : Int) < 1)
        case false =>
          have fhc7 := of_decide_eq_false hc7
          cases hc8 : decide ((j : Int) > 8)
          case false =>
            have fhc8 := of_decide_eq_false hc8
            cases hc9 : decide ((i : Int) < 1)
            case false =>
              have fhc9 := of_decide_eq_false hc9
              have hc10 : (decide ((i : Int) > 8)) = true := decide_eq_true (by first | omega | (simp [shL_len] <;> omega))
              rw [hc10]
            case true =>
              have fhc9 := of_decide_eq_true hc9
              rfl
          case true =>
            have fhc8 := of_decide_eq_true hc8
            rfl
        case true =>
          have fhc7 := of_decide_eq_true hc7
          rfl
    case true =>
      have ghc1 := inB_of hc1
      cases hc11 : inB i 1 8
      case false =>
        have ghc11 := inB_not hc11
        have hc12 : (decide (([] : List Nat).length = 0 ∧ ([] : List Nat).length = 0 ∧ 0 < 2147483648 ∧ 0 < 2147483648)) = true := decide_eq_true (by first | omega | (simp [shL_len] <;> omega))
        have hc13 : (!(smFB ([] : List Nat) ([] : List Nat))) = false := by rw [smFB_self]; rfl
        rw [hc12, hc13]
        cases hc14 : decide ((j : Int) < 1)
        case false =>
          have fhc14 := of_decide_eq_false hc14
          cases hc15 : decide ((j : Int) > 8)
          case false =>
            have fhc15 := of_decide_eq_false hc15
            cases hc16 : decide ((i : Int) < 1)
            case false =>
              have fhc16 := of_decide_eq_false hc16
              have hc17 : (decide ((i : Int) > 8)) = true := decide_eq_true (by first | omega | (simp [shL_len] <;> omega))
              rw [hc17]
            case true =>
              have fhc16 := of_decide_eq_true hc16
              rfl
          case true =>
            have fhc15 := of_decide_eq_true hc15
            rfl
        case true =>
          have fhc14 := of_decide_eq_true hc14
          rfl
      case true =>
        have ghc11 := inB_of hc11
        have hc18 : (decide (([] : List Nat).length = 0 ∧ ([] : List Nat).length = 0 ∧ 0 < 2147483648 ∧ 0 < 2147483648)) = true := decide_eq_true (by first | omega | (simp [shL_len] <;> omega))
        have hc19 : (!(smFB ([] : List Nat) ([] : List Nat))) = false := by rw [smFB_self]; rfl
        rw [hc18, hc19]
        cases hc20 : decide ((j : Int) < 1)
        case false =>
          have fhc20 := of_decide_eq_false hc20
          cases hc21 : decide ((j : Int) > 8)
          case false =>
            have fhc21 := of_decide_eq_false hc21
            cases hc22 : decide ((i : Int) < 1)
            case false =>
              have fhc22 := of_decide_eq_false hc22
              cases hc23 : decide ((i : Int) > 8)
              case false =>
                have fhc23 := of_decide_eq_false hc23
                rw [smFB_self]
              case true =>
                have fhc23 := of_decide_eq_true hc23
                rfl
            case true =>
              have fhc22 := of_decide_eq_true hc22
              rfl
          case true =>
            have fhc21 := of_decide_eq_true hc21
            rfl
        case true =>
          have fhc20 := of_decide_eq_true hc20
          rfl
  · cases e
end Go.Proofs.Ytobbmffldbbhpaa.Ab

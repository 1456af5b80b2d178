/- The reference. Only lemmas. Printed by gen_join.py. -/
import Derived.Test.YtbhfjdlhhjeknaaJnB
namespace Go.Proofs.Ytbhfjdlhhjeknaa.Ab
set_option linter.unusedVariables false
set_option linter.unusedSimpArgs false
open Go
noncomputable section
def oI : Option (V × H) → Option Int
  | some (.a (.int .i64 v), []) => some v
  | _ => none
theorem oI_inv {o : Option (V × H)} {v : Int} (h : oI o = some v) : o = some (.int .i64 v, []) := by
  unfold oI at h
  split at h
  · cases h; rfl
  · cases h
def oL : Option (V × H) → Option (List Int)
  | some (.tup [], [.at true (.int .i64 l)]) => some l
  | _ => none
theorem oL_inv {o : Option (V × H)} {l : List Int} (h : oL o = some l) : o = some (.tup [], [.at true (.int .i64 l)]) := by
  unfold oL at h
  split at h
  · cases h; rfl
  · cases h
def oS : Option (V × H) → Option (Int × Int × Int × List Int)
  | some (.tup [.a (.int .i64 s), .a (.int .i64 u), .a (.int .i64 d)], [.at true (.int .i64 l)]) => some (s, u, d, l)
  | _ => none
theorem oS_inv {o : Option (V × H)} {s u d : Int} {l : List Int} (h : oS o = some (s, u, d, l)) : o = some (.tup [.a (.int .i64 s), .a (.int .i64 u), .a (.int .i64 d)], [.at true (.int .i64 l)]) := by
  unfold oS at h
  split at h
  · cases h; rfl
  · cases h
def o3 : Option (V × H) → Option (Int × Int × Int)
  | some (.tup [.a (.int .i64 s), .a (.int .i64 u), .a (.int .i64 d)], []) => some (s, u, d)
  | _ => none
theorem o3_inv {o : Option (V × H)} {s u d : Int} (h : o3 o = some (s, u, d)) : o = some (.tup [.a (.int .i64 s), .a (.int .i64 u), .a (.int .i64 d)], []) := by
  unfold o3 at h
  split at h
  · cases h; rfl
  · cases h
def an_s3 : Ann := ⟨fun r => if r = 5 then some ([0, 1, 5, 6], [5]) else none, fun _ _ => .quiet⟩
def tab_s3 : Fns := tabT []
theorem tabok_s3 : ∀ f, FnT Try.prog f (tab_s3 f) := tabT_nil
def st_s35 (n0 : Int) (k1 : Int) (out5 : Int) (i6 : Int) : St := ⟨[.int .i64 n0, .int .i64 k1, .any, .any, .any, .int .i64 out5, .int .i64 i6, .any, .any, .any, .any, .any, .any, .any, .any, .any, .any, .any, .any, .any, .any, .any, .any, .any, .any, .any, .any, .any, .any], []⟩
abbrev kp_s35 : Option (List Nat × List Nat) := some ([0, 1, 5, 6], [5])
noncomputable def lp_s35 {R : Type} (N M : Nat) (s : St) (K : X → St → Option R) : Option R := loopH 0 kp_s35 (fun st K => exec ty tab_s3 an_s3 N 0 (atOf [true, true, true, false, true, false, false] Try.f146) st K) M s K
noncomputable def bk_s35 {R : Type} (N M : Nat) (K : X → St → Option R) : X → St → Option R := fun x st => match x with | .norm => tidyK 0 (kp_s35.map (·.1)) st fun st => lp_s35 N M st K | x => tidyK 0 (kp_s35.map (·.2)) st fun st => K x st
noncomputable def kt_s35 {R : Type} (N : Nat) (K : X → St → Option R) : X → St → Option R := kBlkR 0 (kSeqR tab_s3 an_s3 N 0 (atOf [true, true, true, true] Try.f146) (K))
def en_s35_0 (out5 : Int) : St := ⟨[.any, .any, .any, .any, .any, .int .i64 out5, .any, .any, .any, .any, .any, .any, .any, .any, .any, .any, .any, .any, .any, .any, .any, .any, .any, .any, .any, .any, .any, .any, .any], []⟩
theorem run_s3 (N : Nat) (n : Int) (k : Int) : run ty tab_s3 an_s3 N Try.f146 [.int .i64 n, .int .i64 k] []
    = (match decide ((k : Int) < 0) with
  | true => some (.int .i64 0, [])
  | false => (match decide ((k : Int) > n) with
    | true => some (.int .i64 0, [])
    | false => lp_s35 N N (st_s35 n k 1 1) (kt_s35 N (kEnd Try.f146 0)))) := by
  kernel_rfl
theorem step_s35 {R : Type} (N M : Nat) (K : X → St → Option R) (n0 : Int) (k1 : Int) (out5 : Int) (i6 : Int) : lp_s35 N (M + 1) (st_s35 n0 k1 out5 i6) K
    = (match decide ((i6 : Int) ≤ k1) with
  | true => (match decide (i6 = 0) with
    | true => none
    | false => lp_s35 N M (st_s35 n0 k1 (IntKind.i64.wrap (Int.tdiv (IntKind.i64.wrap (out5 * (IntKind.i64.wrap ((IntKind.i64.wrap (n0 - k1)) + i6)))) i6)) (IntKind.i64.wrap (i6 + 1))) K)
  | false => K (.exit 0) (en_s35_0 out5)) := by
  kernel_rfl
theorem end_s35_0 (N : Nat) (out5 : Int) : kt_s35 N (kEnd Try.f146 0) (.exit 0) (en_s35_0 out5)
    = some (.int .i64 out5, []) := by
  kernel_rfl

noncomputable def ce_s35_0 (N : Nat) (out5 : Int) : Option (V × H) := some (.int .i64 out5, [])
noncomputable def mr_s35 (N : Nat) (k0 : Int → Option (V × H)) (M : Nat) : Int → Int → Int → Int → Option (V × H) := Nat.rec (motive := fun _ => Int → Int → Int → Int → Option (V × H)) (fun (_ : Int) (_ : Int) (_ : Int) (_ : Int) => none) (fun _ rq => fun (n0 : Int) (k1 : Int) (out5 : Int) (i6 : Int) => (match decide ((i6 : Int) ≤ k1) with
  | true => (match decide (i6 = 0) with
    | true => none
    | false => (rq n0 k1 (IntKind.i64.wrap (Int.tdiv (IntKind.i64.wrap (out5 * (IntKind.i64.wrap ((IntKind.i64.wrap (n0 - k1)) + i6)))) i6)) (IntKind.i64.wrap (i6 + 1))))
  | false => (k0 out5))) M
theorem mrs_s35 (N : Nat) (k0 : Int → Option (V × H)) (M : Nat) (n0 : Int) (k1 : Int) (out5 : Int) (i6 : Int) : mr_s35 N k0 (M + 1) n0 k1 out5 i6 = (match decide ((i6 : Int) ≤ k1) with
  | true => (match decide (i6 = 0) with
    | true => none
    | false => (mr_s35 N k0 M n0 k1 (IntKind.i64.wrap (Int.tdiv (IntKind.i64.wrap (out5 * (IntKind.i64.wrap ((IntKind.i64.wrap (n0 - k1)) + i6)))) i6)) (IntKind.i64.wrap (i6 + 1))))
  | false => (k0 out5)) := by kernel_rfl
theorem H_s35 (N : Nat) : ∀ (M : Nat) (n0 : Int) (k1 : Int) (out5 : Int) (i6 : Int), lp_s35 N M (st_s35 n0 k1 out5 i6) (kt_s35 N (kEnd Try.f146 0)) = mr_s35 N (ce_s35_0 N) M n0 k1 out5 i6 := by
  have he0 : ∀ (out5 : Int), kt_s35 N (kEnd Try.f146 0) (.exit 0) (en_s35_0 out5) = ce_s35_0 N out5 := by
    intro out5
    rw [end_s35_0]
    unfold ce_s35_0
    first | simp only [] | rfl
  intro M
  induction M with
  | zero => intros; rfl
  | succ M ih =>
    intro n0 k1 out5 i6
    rw [step_s35]
    rw [mrs_s35]
    first | simp only [ih, he0] | rfl
noncomputable def md_s3 (N : Nat) (n : Int) (k : Int) : Option (V × H) := (match decide ((k : Int) < 0) with
  | true => some (.int .i64 0, [])
  | false => (match decide ((k : Int) > n) with
    | true => some (.int .i64 0, [])
    | false => (mr_s35 N (ce_s35_0 N) N n k 1 1)))
theorem mdl_s3 (N : Nat) (n : Int) (k : Int) : run ty tab_s3 an_s3 N Try.f146 [.int .i64 n, .int .i64 k] [] = md_s3 N n k := by
  rw [run_s3]
  unfold md_s3
  first | simp only [H_s35 N N] | rfl

noncomputable def s3R (n : Int) (k : Int) := oI (md_s3 20 n k)
noncomputable def gS3 : GT := fun vs h => match vs, h with | [.int .i64 n, .int .i64 k], [] => .ite (s3R n k).isSome (.ret (.int .i64 ((s3R n k).getD 0)) []) .no | _, _ => .no
theorem ok_s3 : FnT Try.prog 146 gS3 := by
  refine fnT tabok_s3 Try.func146 rfl rfl an_s3 fun vs h v h' e => ⟨20, ?_⟩
  unfold gS3 at e
  split at e
  case h_2 => exact (T.no_inv e).elim
  rename_i n k
  obtain ⟨hd, e⟩ := T.pre_inv e
  obtain ⟨rfl, rfl⟩ := T.ret_inv e
  refine Eq.trans (mdl_s3 20 n k) ?_
  obtain ⟨z, hz⟩ := Option.isSome_iff_exists.mp hd
  rw [hz]
  exact oI_inv hz
def an_tm : Ann := ⟨fun r => if r = 1 then some ([0, 1, 2, 8, 9, 10], []) else if r = 3 then some ([0, 1, 2, 7, 8, 9, 10], [0, 1, 2, 8, 9, 10]) else none, fun _ _ => .quiet⟩
def tab_tm : Fns := tabT []
theorem tabok_tm : ∀ f, FnT Try.prog f (tab_tm f) := tabT_nil
def st_tm1 (n1 : Int) (times2 : Int) (t10 : Int) (l0 : List Int) : St := ⟨[.ptr 0 0, .int .i64 n1, .int .i64 times2, .any, .any, .any, .any, .any, .sl 1 0 6, .int .i64 6, .int .i64 t10, .any, .any, .any, .any, .any, .any, .any, .any, .any, .any, .any, .any, .any, .any, .any, .any, .any, .any, .any, .any, .any, .any], [.at true (.int .i64 l0), .at true (.int .i64 [2, 3, 5, 7, 11, 13])]⟩
abbrev kp_tm1 : Option (List Nat × List Nat) := some ([0, 1, 2, 8, 9, 10], [])
noncomputable def lp_tm1 {R : Type} (N M : Nat) (s : St) (K : X → St → Option R) : Option R := loopH 1 kp_tm1 (fun st K => exec ty tab_tm an_tm N 1 (atOf [true, false, false] Try.f147) st K) M s K
noncomputable def bk_tm1 {R : Type} (N M : Nat) (K : X → St → Option R) : X → St → Option R := fun x st => match x with | .norm => tidyK 1 (kp_tm1.map (·.1)) st fun st => lp_tm1 N M st K | x => tidyK 1 (kp_tm1.map (·.2)) st fun st => K x st
noncomputable def kt_tm1 {R : Type} (N : Nat) (K : X → St → Option R) : X → St → Option R := kBlkR 0 (K)
def st_tm3 (n1 : Int) (times2 : Int) (q7 : Int) (t10 : Int) (l0 : List Int) : St := ⟨[.ptr 0 0, .int .i64 n1, .int .i64 times2, .any, .any, .any, .any, .int .i64 q7, .sl 1 0 6, .int .i64 6, .int .i64 t10, .any, .any, .any, .any, .any, .any, .any, .any, .any, .any, .any, .any, .any, .any, .any, .any, .any, .any, .any, .any, .any, .any], [.at true (.int .i64 l0), .at true (.int .i64 [2, 3, 5, 7, 11, 13])]⟩
abbrev kp_tm3 : Option (List Nat × List Nat) := some ([0, 1, 2, 7, 8, 9, 10], [0, 1, 2, 8, 9, 10])
noncomputable def lp_tm3 {R : Type} (N M : Nat) (s : St) (K : X → St → Option R) : Option R := loopH 1 kp_tm3 (fun st K => exec ty tab_tm an_tm N 1 (atOf [true, false, false, true, true, false, false, true, false, false] Try.f147) st K) M s K
noncomputable def bk_tm3 {R : Type} (N M : Nat) (K : X → St → Option R) : X → St → Option R := fun x st => match x with | .norm => tidyK 1 (kp_tm3.map (·.1)) st fun st => lp_tm3 N M st K | x => tidyK 1 (kp_tm3.map (·.2)) st fun st => K x st
noncomputable def kt_tm3 {R : Type} (N : Nat) (K : X → St → Option R) : X → St → Option R := kBlkR 2 (kBlkR 1 (kSeqR tab_tm an_tm N 1 (atOf [true, false, false, true, true, true] Try.f147) (K)))
def en_tm3_0 (n1 : Int) (times2 : Int) (t10 : Int) (l0 : List Int) : St := ⟨[.ptr 0 0, .int .i64 n1, .int .i64 times2, .any, .any, .any, .any, .any, .sl 1 0 6, .int .i64 6, .int .i64 t10, .any, .any, .any, .any, .any, .any, .any, .any, .any, .any, .any, .any, .any, .any, .any, .any, .any, .any, .any, .any, .any, .any], [.at true (.int .i64 l0), .at true (.int .i64 [2, 3, 5, 7, 11, 13])]⟩
def en_tm1_0 (l0 : List Int) : St := ⟨[.any, .any, .any, .any, .any, .any, .any, .any, .any, .any, .any, .any, .any, .any, .any, .any, .any, .any, .any, .any, .any, .any, .any, .any, .any, .any, .any, .any, .any, .any, .any, .any, .any], [.at true (.int .i64 l0)]⟩
theorem run_tm (N : Nat) (n : Int) (m : Int) (p : List Int) : run ty tab_tm an_tm N Try.f147 [.ptr 0 0, .int .i64 n, .int .i64 m] [.at true (.int .i64 p)]
    = lp_tm1 N N (st_tm1 n m 0 p) (kt_tm1 N (kEnd Try.f147 1)) := by
  kernel_rfl
theorem step_tm1 {R : Type} (N M : Nat) (K : X → St → Option R) (n1 : Int) (times2 : Int) (t10 : Int) (l0 : List Int) : lp_tm1 N (M + 1) (st_tm1 n1 times2 t10 l0) K
    = (match decide ((t10 : Int) < 6) with
  | true => (match decide (0 ≤ (t10 : Int) ∧ (t10 : Int) < 6) with
    | true => (match [2, 3, 5, 7, 11, 13][0 + (t10).toNat * 1]? with
      | some e1 => lp_tm3 N N (st_tm3 n1 times2 e1 t10 l0) (kt_tm3 N (bk_tm1 N M K))
      | none => none)
    | false => none)
  | false => K (.exit 0) (en_tm1_0 l0)) := by
  kernel_rfl
theorem step_tm3 {R : Type} (N M : Nat) (K : X → St → Option R) (n1 : Int) (times2 : Int) (q7 : Int) (t10 : Int) (l0 : List Int) : lp_tm3 N (M + 1) (st_tm3 n1 times2 q7 t10 l0) K
    = (match decide (q7 = 0) with
  | true => none
  | false => (match (Int.tmod n1 q7) == 0 with
    | true => (match decide (0 ≤ (q7 : Int) ∧ (q7 : Int) < 14) with
      | true => (match l0[0 + (q7).toNat * 1]? with
        | some e1 => (match decide (0 ≤ (q7 : Int) ∧ (q7 : Int) < 14) with
          | true => (match decide (0 + (q7).toNat * 1 < l0.length) with
            | true => (match decide (q7 = 0) with
              | true => none
              | false => lp_tm3 N M (st_tm3 (IntKind.i64.wrap (Int.tdiv n1 q7)) times2 q7 t10 (l0.set (0 + (q7).toNat * 1) (IntKind.i64.wrap (e1 + times2)))) K)
            | false => none)
          | false => none)
        | none => none)
      | false => none)
    | false => K (.exit 2) (en_tm3_0 n1 times2 t10 l0))) := by
  kernel_rfl
theorem end_tm3_0 {R : Type} (N M : Nat) (K : X → St → Option R) (n1 : Int) (times2 : Int) (t10 : Int) (l0 : List Int) : kt_tm3 N (bk_tm1 N M K) (.exit 2) (en_tm3_0 n1 times2 t10 l0)
    = lp_tm1 N M (st_tm1 n1 times2 (IntKind.i64.wrap (t10 + 1)) l0) K := by
  kernel_rfl
theorem end_tm1_0 (N : Nat) (l0 : List Int) : kt_tm1 N (kEnd Try.f147 1) (.exit 0) (en_tm1_0 l0)
    = some (V.no, [.at true (.int .i64 l0)]) := by
  kernel_rfl

noncomputable def ce_tm3_0 (N : Nat) (g : Int → Int → Int → List Int → Option (V × H)) (q0 : List Int → Option (V × H)) (n1 : Int) (times2 : Int) (t10 : Int) (l0 : List Int) : Option (V × H) := (g n1 times2 (IntKind.i64.wrap (t10 + 1)) l0)
noncomputable def mr_tm3 (N : Nat) (k0 : Int → Int → Int → List Int → Option (V × H)) (M : Nat) : Int → Int → Int → Int → List Int → Option (V × H) := Nat.rec (motive := fun _ => Int → Int → Int → Int → List Int → Option (V × H)) (fun (_ : Int) (_ : Int) (_ : Int) (_ : Int) (_ : List Int) => none) (fun _ rq => fun (n1 : Int) (times2 : Int) (q7 : Int) (t10 : Int) (l0 : List Int) => (match decide (q7 = 0) with
  | true => none
  | false => (match (Int.tmod n1 q7) == 0 with
    | true => (match decide (0 ≤ (q7 : Int) ∧ (q7 : Int) < 14) with
      | true => (match l0[0 + (q7).toNat * 1]? with
        | some e1 => (match decide (0 ≤ (q7 : Int) ∧ (q7 : Int) < 14) with
          | true => (match decide (0 + (q7).toNat * 1 < l0.length) with
            | true => (match decide (q7 = 0) with
              | true => none
              | false => (rq (IntKind.i64.wrap (Int.tdiv n1 q7)) times2 q7 t10 (l0.set (0 + (q7).toNat * 1) (IntKind.i64.wrap (e1 + times2)))))
            | false => none)
          | false => none)
        | none => none)
      | false => none)
    | false => (k0 n1 times2 t10 l0)))) M
theorem mrs_tm3 (N : Nat) (k0 : Int → Int → Int → List Int → Option (V × H)) (M : Nat) (n1 : Int) (times2 : Int) (q7 : Int) (t10 : Int) (l0 : List Int) : mr_tm3 N k0 (M + 1) n1 times2 q7 t10 l0 = (match decide (q7 = 0) with
  | true => none
  | false => (match (Int.tmod n1 q7) == 0 with
    | true => (match decide (0 ≤ (q7 : Int) ∧ (q7 : Int) < 14) with
      | true => (match l0[0 + (q7).toNat * 1]? with
        | some e1 => (match decide (0 ≤ (q7 : Int) ∧ (q7 : Int) < 14) with
          | true => (match decide (0 + (q7).toNat * 1 < l0.length) with
            | true => (match decide (q7 = 0) with
              | true => none
              | false => (mr_tm3 N k0 M (IntKind.i64.wrap (Int.tdiv n1 q7)) times2 q7 t10 (l0.set (0 + (q7).toNat * 1) (IntKind.i64.wrap (e1 + times2)))))
            | false => none)
          | false => none)
        | none => none)
      | false => none)
    | false => (k0 n1 times2 t10 l0))) := by kernel_rfl
theorem H_tm3 (N : Nat) (Mp : Nat) (K : X → St → Option (V × H)) (g : Int → Int → Int → List Int → Option (V × H)) (q0 : List Int → Option (V × H)) (hg : ∀ (n1 : Int) (times2 : Int) (t10 : Int) (l0 : List Int), lp_tm1 N Mp (st_tm1 n1 times2 t10 l0) K = g n1 times2 t10 l0) (hk0 : ∀ (l0 : List Int), K (.exit 0) (en_tm1_0 l0) = q0 l0) : ∀ (M : Nat) (n1 : Int) (times2 : Int) (q7 : Int) (t10 : Int) (l0 : List Int), lp_tm3 N M (st_tm3 n1 times2 q7 t10 l0) (kt_tm3 N (bk_tm1 N Mp K)) = mr_tm3 N (ce_tm3_0 N g q0) M n1 times2 q7 t10 l0 := by
  have he0 : ∀ (n1 : Int) (times2 : Int) (t10 : Int) (l0 : List Int), kt_tm3 N (bk_tm1 N Mp K) (.exit 2) (en_tm3_0 n1 times2 t10 l0) = ce_tm3_0 N g q0 n1 times2 t10 l0 := by
    intro n1 times2 t10 l0
    rw [end_tm3_0]
    unfold ce_tm3_0
    first | simp only [hg, hk0] | rfl
  intro M
  induction M with
  | zero => intros; rfl
  | succ M ih =>
    intro n1 times2 q7 t10 l0
    rw [step_tm3]
    rw [mrs_tm3]
    first | simp only [ih, he0] | rfl
noncomputable def ce_tm1_0 (N : Nat) (l0 : List Int) : Option (V × H) := some (V.no, [.at true (.int .i64 l0)])
noncomputable def mr_tm1 (N : Nat) (k0 : List Int → Option (V × H)) (M : Nat) : Int → Int → Int → List Int → Option (V × H) := Nat.rec (motive := fun _ => Int → Int → Int → List Int → Option (V × H)) (fun (_ : Int) (_ : Int) (_ : Int) (_ : List Int) => none) (fun _ rq => fun (n1 : Int) (times2 : Int) (t10 : Int) (l0 : List Int) => (match decide ((t10 : Int) < 6) with
  | true => (match decide (0 ≤ (t10 : Int) ∧ (t10 : Int) < 6) with
    | true => (match [2, 3, 5, 7, 11, 13][0 + (t10).toNat * 1]? with
      | some e1 => (mr_tm3 N (ce_tm3_0 N (fun n1 times2 t10 l0 => rq n1 times2 t10 l0) k0) N n1 times2 e1 t10 l0)
      | none => none)
    | false => none)
  | false => (k0 l0))) M
theorem mrs_tm1 (N : Nat) (k0 : List Int → Option (V × H)) (M : Nat) (n1 : Int) (times2 : Int) (t10 : Int) (l0 : List Int) : mr_tm1 N k0 (M + 1) n1 times2 t10 l0 = (match decide ((t10 : Int) < 6) with
  | true => (match decide (0 ≤ (t10 : Int) ∧ (t10 : Int) < 6) with
    | true => (match [2, 3, 5, 7, 11, 13][0 + (t10).toNat * 1]? with
      | some e1 => (mr_tm3 N (ce_tm3_0 N (fun n1 times2 t10 l0 => mr_tm1 N k0 M n1 times2 t10 l0) k0) N n1 times2 e1 t10 l0)
      | none => none)
    | false => none)
  | false => (k0 l0)) := by kernel_rfl
theorem H_tm1 (N : Nat) : ∀ (M : Nat) (n1 : Int) (times2 : Int) (t10 : Int) (l0 : List Int), lp_tm1 N M (st_tm1 n1 times2 t10 l0) (kt_tm1 N (kEnd Try.f147 1)) = mr_tm1 N (ce_tm1_0 N) M n1 times2 t10 l0 := by
  have he0 : ∀ (l0 : List Int), kt_tm1 N (kEnd Try.f147 1) (.exit 0) (en_tm1_0 l0) = ce_tm1_0 N l0 := by
    intro l0
    rw [end_tm1_0]
    unfold ce_tm1_0
    first | simp only [] | rfl
  intro M
  induction M with
  | zero => intros; rfl
  | succ M ih =>
    intro n1 times2 t10 l0
    rw [step_tm1]
    have hc3 := H_tm3 N M (kt_tm1 N (kEnd Try.f147 1)) (fun n1 times2 t10 l0 => mr_tm1 N (ce_tm1_0 N) M n1 times2 t10 l0) (ce_tm1_0 N) (fun n1 times2 t10 l0 => ih n1 times2 t10 l0) he0
    rw [mrs_tm1]
    first | simp only [ih, he0, hc3 N] | rfl
noncomputable def md_tm (N : Nat) (n : Int) (m : Int) (p : List Int) : Option (V × H) := (mr_tm1 N (ce_tm1_0 N) N n m 0 p)
theorem mdl_tm (N : Nat) (n : Int) (m : Int) (p : List Int) : run ty tab_tm an_tm N Try.f147 [.ptr 0 0, .int .i64 n, .int .i64 m] [.at true (.int .i64 p)] = md_tm N n m p := by
  rw [run_tm]
  unfold md_tm
  first | simp only [H_tm1 N N] | rfl

noncomputable def tmR (n : Int) (m : Int) (p : List Int) := oL (md_tm 40 n m p)
noncomputable def gTm : GT := fun vs h => match vs, h with | [.ptr 0 0, .int .i64 n, .int .i64 m], [.at true (.int .i64 p)] => .ite (tmR n m p).isSome (.ret (.tup []) [.at true (.int .i64 ((tmR n m p).getD []))]) .no | _, _ => .no
theorem ok_tm : FnT Try.prog 147 gTm := by
  refine fnT tabok_tm Try.func147 rfl rfl an_tm fun vs h v h' e => ⟨40, ?_⟩
  unfold gTm at e
  split at e
  case h_2 => exact (T.no_inv e).elim
  rename_i n m p
  obtain ⟨hd, e⟩ := T.pre_inv e
  obtain ⟨rfl, rfl⟩ := T.ret_inv e
  refine Eq.trans (mdl_tm 40 n m p) ?_
  obtain ⟨z, hz⟩ := Option.isSome_iff_exists.mp hd
  rw [hz]
  exact oL_inv hz
def an_fl : Ann := ⟨fun r => if r = 1 then some ([0, 1, 2, 6], []) else none, fun _ _ => .quiet⟩
def tab_fl : Fns := tabT [(147, gTm)]
theorem tabok_fl : ∀ f, FnT Try.prog f (tab_fl f) := (tabT_cons (k := 147) ok_tm tabT_nil)
def st_fl1 (n1 : Int) (times2 : Int) (i6 : Int) (l0 : List Int) : St := ⟨[.ptr 0 0, .int .i64 n1, .int .i64 times2, .any, .any, .any, .int .i64 i6, .any, .any, .any, .any, .any, .any, .any, .any, .any], [.at true (.int .i64 l0)]⟩
abbrev kp_fl1 : Option (List Nat × List Nat) := some ([0, 1, 2, 6], [])
noncomputable def lp_fl1 {R : Type} (N M : Nat) (s : St) (K : X → St → Option R) : Option R := loopH 1 kp_fl1 (fun st K => exec ty tab_fl an_fl N 1 (atOf [true, false, false] Try.f115) st K) M s K
noncomputable def bk_fl1 {R : Type} (N M : Nat) (K : X → St → Option R) : X → St → Option R := fun x st => match x with | .norm => tidyK 1 (kp_fl1.map (·.1)) st fun st => lp_fl1 N M st K | x => tidyK 1 (kp_fl1.map (·.2)) st fun st => K x st
noncomputable def kt_fl1 {R : Type} (N : Nat) (K : X → St → Option R) : X → St → Option R := kBlkR 0 (K)
def en_fl1_0 (l0 : List Int) : St := ⟨[.any, .any, .any, .any, .any, .any, .any, .any, .any, .any, .any, .any, .any, .any, .any, .any], [.at true (.int .i64 l0)]⟩
theorem run_fl (N : Nat) (n : Int) (m : Int) (p : List Int) : run ty tab_fl an_fl N Try.f115 [.ptr 0 0, .int .i64 n, .int .i64 m] [.at true (.int .i64 p)]
    = lp_fl1 N N (st_fl1 n m 2 p) (kt_fl1 N (kEnd Try.f115 1)) := by
  kernel_rfl
theorem step_fl1 {R : Type} (N M : Nat) (K : X → St → Option R) (n1 : Int) (times2 : Int) (i6 : Int) (l0 : List Int) : lp_fl1 N (M + 1) (st_fl1 n1 times2 i6 l0) K
    = (match decide ((i6 : Int) ≤ n1) with
  | true => (match (tmR i6 times2 l0).isSome with
    | true => lp_fl1 N M (st_fl1 n1 times2 (IntKind.i64.wrap (i6 + 1)) ((tmR i6 times2 l0).getD [])) K
    | false => none)
  | false => K (.exit 0) (en_fl1_0 l0)) := by
  kernel_rfl
theorem end_fl1_0 (N : Nat) (l0 : List Int) : kt_fl1 N (kEnd Try.f115 1) (.exit 0) (en_fl1_0 l0)
    = some (V.no, [.at true (.int .i64 l0)]) := by
  kernel_rfl

noncomputable def ce_fl1_0 (N : Nat) (l0 : List Int) : Option (V × H) := some (V.no, [.at true (.int .i64 l0)])
noncomputable def mr_fl1 (N : Nat) (k0 : List Int → Option (V × H)) (M : Nat) : Int → Int → Int → List Int → Option (V × H) := Nat.rec (motive := fun _ => Int → Int → Int → List Int → Option (V × H)) (fun (_ : Int) (_ : Int) (_ : Int) (_ : List Int) => none) (fun _ rq => fun (n1 : Int) (times2 : Int) (i6 : Int) (l0 : List Int) => (match decide ((i6 : Int) ≤ n1) with
  | true => (match (tmR i6 times2 l0).isSome with
    | true => (rq n1 times2 (IntKind.i64.wrap (i6 + 1)) ((tmR i6 times2 l0).getD []))
    | false => none)
  | false => (k0 l0))) M
theorem mrs_fl1 (N : Nat) (k0 : List Int → Option (V × H)) (M : Nat) (n1 : Int) (times2 : Int) (i6 : Int) (l0 : List Int) : mr_fl1 N k0 (M + 1) n1 times2 i6 l0 = (match decide ((i6 : Int) ≤ n1) with
  | true => (match (tmR i6 times2 l0).isSome with
    | true => (mr_fl1 N k0 M n1 times2 (IntKind.i64.wrap (i6 + 1)) ((tmR i6 times2 l0).getD []))
    | false => none)
  | false => (k0 l0)) := by kernel_rfl
theorem H_fl1 (N : Nat) : ∀ (M : Nat) (n1 : Int) (times2 : Int) (i6 : Int) (l0 : List Int), lp_fl1 N M (st_fl1 n1 times2 i6 l0) (kt_fl1 N (kEnd Try.f115 1)) = mr_fl1 N (ce_fl1_0 N) M n1 times2 i6 l0 := by
  have he0 : ∀ (l0 : List Int), kt_fl1 N (kEnd Try.f115 1) (.exit 0) (en_fl1_0 l0) = ce_fl1_0 N l0 := by
    intro l0
    rw [end_fl1_0]
    unfold ce_fl1_0
    first | simp only [] | rfl
  intro M
  induction M with
  | zero => intros; rfl
  | succ M ih =>
    intro n1 times2 i6 l0
    rw [step_fl1]
    rw [mrs_fl1]
    first | simp only [ih, he0] | rfl
noncomputable def md_fl (N : Nat) (n : Int) (m : Int) (p : List Int) : Option (V × H) := (mr_fl1 N (ce_fl1_0 N) N n m 2 p)
theorem mdl_fl (N : Nat) (n : Int) (m : Int) (p : List Int) : run ty tab_fl an_fl N Try.f115 [.ptr 0 0, .int .i64 n, .int .i64 m] [.at true (.int .i64 p)] = md_fl N n m p := by
  rw [run_fl]
  unfold md_fl
  first | simp only [H_fl1 N N] | rfl

noncomputable def flR (n : Int) (m : Int) (p : List Int) := oL (md_fl 40 n m p)
noncomputable def gFl : GT := fun vs h => match vs, h with | [.ptr 0 0, .int .i64 n, .int .i64 m], [.at true (.int .i64 p)] => .ite (flR n m p).isSome (.ret (.tup []) [.at true (.int .i64 ((flR n m p).getD []))]) .no | _, _ => .no
theorem ok_fl : FnT Try.prog 115 gFl := by
  refine fnT tabok_fl Try.func115 rfl rfl an_fl fun vs h v h' e => ⟨40, ?_⟩
  unfold gFl at e
  split at e
  case h_2 => exact (T.no_inv e).elim
  rename_i n m p
  obtain ⟨hd, e⟩ := T.pre_inv e
  obtain ⟨rfl, rfl⟩ := T.ret_inv e
  refine Eq.trans (mdl_fl 40 n m p) ?_
  obtain ⟨z, hz⟩ := Option.isSome_iff_exists.mp hd
  rw [hz]
  exact oL_inv hz
def an_sq : Ann := ⟨fun r => if r = 9 then some ([0, 1, 7, 24, 25, 26], [0, 1, 7]) else if r = 11 then some ([0, 1, 7, 9, 24, 25, 26], [0, 1, 7, 24, 25, 26]) else if r = 17 then some ([0, 7, 10, 11, 41], [7, 10, 11]) else if r = 20 then some ([0, 7, 10, 11, 12, 13, 41], [0, 7, 10, 11, 12, 41]) else if r = 24 then some ([0, 7, 10, 11, 12, 14, 41], [0, 7, 10, 11, 41]) else none, fun _ _ => .quiet⟩
def tab_sq : Fns := tabT [(147, gTm)]
theorem tabok_sq : ∀ f, FnT Try.prog f (tab_sq f) := (tabT_cons (k := 147) ok_tm tabT_nil)
def st_sq9 (t1 : Int) (t7 : Int) (t26 : Int) (l0 : List Int) : St := ⟨[.ptr 0 0, .int .i64 t1, .any, .any, .any, .any, .any, .int .i64 t7, .any, .any, .any, .any, .any, .any, .any, .any, .any, .any, .any, .any, .any, .any, .any, .any, .sl 1 0 6, .int .i64 6, .int .i64 t26, .any, .any, .any, .any, .any, .any, .any, .any, .any, .any, .any, .any, .any, .any, .any, .any, .any, .any, .any, .any, .any, .any, .any, .any, .any, .any, .any, .any, .any, .any, .any, .any, .any, .any, .any, .any, .any, .any, .any, .any, .any, .any, .any, .any, .any, .any, .any], [.at true (.int .i64 l0), .at true (.int .i64 [2, 3, 5, 7, 11, 13])]⟩
abbrev kp_sq9 : Option (List Nat × List Nat) := some ([0, 1, 7, 24, 25, 26], [0, 1, 7])
noncomputable def lp_sq9 {R : Type} (N M : Nat) (s : St) (K : X → St → Option R) : Option R := loopH 1 kp_sq9 (fun st K => exec ty tab_sq an_sq N 1 (atOf [true, true, true, true, true, false, true, false, false] Try.f117) st K) M s K
noncomputable def bk_sq9 {R : Type} (N M : Nat) (K : X → St → Option R) : X → St → Option R := fun x st => match x with | .norm => tidyK 1 (kp_sq9.map (·.1)) st fun st => lp_sq9 N M st K | x => tidyK 1 (kp_sq9.map (·.2)) st fun st => K x st
noncomputable def kt_sq9 {R : Type} (N : Nat) (K : X → St → Option R) : X → St → Option R := kBlkR 0 (kSeqR tab_sq an_sq N 1 (atOf [true, true, true, true, true, true] Try.f117) (K))
def st_sq11 (t1 : Int) (t7 : Int) (t9 : Int) (t26 : Int) (l0 : List Int) : St := ⟨[.ptr 0 0, .int .i64 t1, .any, .any, .any, .any, .any, .int .i64 t7, .any, .int .i64 t9, .any, .any, .any, .any, .any, .any, .any, .any, .any, .any, .any, .any, .any, .any, .sl 1 0 6, .int .i64 6, .int .i64 t26, .any, .any, .any, .any, .any, .any, .any, .any, .any, .any, .any, .any, .any, .any, .any, .any, .any, .any, .any, .any, .any, .any, .any, .any, .any, .any, .any, .any, .any, .any, .any, .any, .any, .any, .any, .any, .any, .any, .any, .any, .any, .any, .any, .any, .any, .any, .any], [.at true (.int .i64 l0), .at true (.int .i64 [2, 3, 5, 7, 11, 13])]⟩
abbrev kp_sq11 : Option (List Nat × List Nat) := some ([0, 1, 7, 9, 24, 25, 26], [0, 1, 7, 24, 25, 26])
noncomputable def lp_sq11 {R : Type} (N M : Nat) (s : St) (K : X → St → Option R) : Option R := loopH 1 kp_sq11 (fun st K => exec ty tab_sq an_sq N 1 (atOf [true, true, true, true, true, false, true, false, false, true, true, false, false, true, false, false] Try.f117) st K) M s K
noncomputable def bk_sq11 {R : Type} (N M : Nat) (K : X → St → Option R) : X → St → Option R := fun x st => match x with | .norm => tidyK 1 (kp_sq11.map (·.1)) st fun st => lp_sq11 N M st K | x => tidyK 1 (kp_sq11.map (·.2)) st fun st => K x st
noncomputable def kt_sq11 {R : Type} (N : Nat) (K : X → St → Option R) : X → St → Option R := kBlkR 2 (kBlkR 1 (kSeqR tab_sq an_sq N 1 (atOf [true, true, true, true, true, false, true, false, false, true, true, true] Try.f117) (K)))
def st_sq17 (t7 : Int) (t10 : Int) (t11 : Int) (t41 : Int) (l0 : List Int) : St := ⟨[.ptr 0 0, .any, .any, .any, .any, .any, .any, .int .i64 t7, .any, .any, .int .i64 t10, .int .i64 t11, .any, .any, .any, .any, .any, .any, .any, .any, .any, .any, .any, .any, .any, .any, .any, .any, .any, .any, .any, .any, .any, .any, .any, .any, .any, .any, .any, .any, .any, .int .i64 t41, .any, .any, .any, .any, .any, .any, .any, .any, .any, .any, .any, .any, .any, .any, .any, .any, .any, .any, .any, .any, .any, .any, .any, .any, .any, .any, .any, .any, .any, .any, .any, .any], [.at true (.int .i64 l0)]⟩
abbrev kp_sq17 : Option (List Nat × List Nat) := some ([0, 7, 10, 11, 41], [7, 10, 11])
noncomputable def lp_sq17 {R : Type} (N M : Nat) (s : St) (K : X → St → Option R) : Option R := loopH 1 kp_sq17 (fun st K => exec ty tab_sq an_sq N 1 (atOf [true, true, true, true, true, true, true, true, false, true, false, false] Try.f117) st K) M s K
noncomputable def bk_sq17 {R : Type} (N M : Nat) (K : X → St → Option R) : X → St → Option R := fun x st => match x with | .norm => tidyK 1 (kp_sq17.map (·.1)) st fun st => lp_sq17 N M st K | x => tidyK 1 (kp_sq17.map (·.2)) st fun st => K x st
noncomputable def kt_sq17 {R : Type} (N : Nat) (K : X → St → Option R) : X → St → Option R := kBlkR 4 (kSeqR tab_sq an_sq N 1 (atOf [true, true, true, true, true, true, true, true, true] Try.f117) (K))
def st_sq20 (t7 : Int) (t10 : Int) (t11 : Int) (t12 : Int) (t13 : Int) (l0 : List Int) : St := ⟨[.ptr 0 0, .any, .any, .any, .any, .any, .any, .int .i64 t7, .any, .any, .int .i64 t10, .int .i64 t11, .int .i64 t12, .int .i64 t13, .any, .any, .any, .any, .any, .any, .any, .any, .any, .any, .any, .any, .any, .any, .any, .any, .any, .any, .any, .any, .any, .any, .any, .any, .any, .any, .any, .int .i64 t12, .any, .any, .any, .any, .any, .any, .any, .any, .any, .any, .any, .any, .any, .any, .any, .any, .any, .any, .any, .any, .any, .any, .any, .any, .any, .any, .any, .any, .any, .any, .any, .any], [.at true (.int .i64 l0)]⟩
abbrev kp_sq20 : Option (List Nat × List Nat) := some ([0, 7, 10, 11, 12, 13, 41], [0, 7, 10, 11, 12, 41])
noncomputable def lp_sq20 {R : Type} (N M : Nat) (s : St) (K : X → St → Option R) : Option R := loopH 1 kp_sq20 (fun st K => exec ty tab_sq an_sq N 1 (atOf [true, true, true, true, true, true, true, true, false, true, false, false, true, true, false, false, true, false, true, false, false] Try.f117) st K) M s K
noncomputable def bk_sq20 {R : Type} (N M : Nat) (K : X → St → Option R) : X → St → Option R := fun x st => match x with | .norm => tidyK 1 (kp_sq20.map (·.1)) st fun st => lp_sq20 N M st K | x => tidyK 1 (kp_sq20.map (·.2)) st fun st => K x st
noncomputable def kt_sq20 {R : Type} (N : Nat) (K : X → St → Option R) : X → St → Option R := kBlkR 6 (kSeqR tab_sq an_sq N 1 (atOf [true, true, true, true, true, true, true, true, false, true, false, false, true, true, false, false, true, true] Try.f117) (kBlkR 5 (kSeqR tab_sq an_sq N 1 (atOf [true, true, true, true, true, true, true, true, false, true, false, false, true, true, true] Try.f117) (K))))
def st_sq24 (t7 : Int) (t10 : Int) (t11 : Int) (t12 : Int) (t14 : Int) (l0 : List Int) : St := ⟨[.ptr 0 0, .any, .any, .any, .any, .any, .any, .int .i64 t7, .any, .any, .int .i64 t10, .int .i64 t11, .int .i64 t12, .any, .int .i64 t14, .any, .any, .any, .any, .any, .any, .any, .any, .any, .any, .any, .any, .any, .any, .any, .any, .any, .any, .any, .any, .any, .any, .any, .any, .any, .any, .int .i64 t12, .any, .any, .any, .any, .any, .any, .any, .any, .any, .any, .any, .any, .any, .any, .any, .any, .any, .any, .any, .any, .any, .any, .any, .any, .any, .any, .any, .any, .any, .any, .any, .any], [.at true (.int .i64 l0)]⟩
abbrev kp_sq24 : Option (List Nat × List Nat) := some ([0, 7, 10, 11, 12, 14, 41], [0, 7, 10, 11, 41])
noncomputable def lp_sq24 {R : Type} (N M : Nat) (s : St) (K : X → St → Option R) : Option R := loopH 1 kp_sq24 (fun st K => exec ty tab_sq an_sq N 1 (atOf [true, true, true, true, true, true, true, true, false, true, false, false, true, true, false, false, true, true, true, false, false] Try.f117) st K) M s K
noncomputable def bk_sq24 {R : Type} (N M : Nat) (K : X → St → Option R) : X → St → Option R := fun x st => match x with | .norm => tidyK 1 (kp_sq24.map (·.1)) st fun st => lp_sq24 N M st K | x => tidyK 1 (kp_sq24.map (·.2)) st fun st => K x st
noncomputable def kt_sq24 {R : Type} (N : Nat) (K : X → St → Option R) : X → St → Option R := kBlkR 8 (kBlkR 5 (kSeqR tab_sq an_sq N 1 (atOf [true, true, true, true, true, true, true, true, false, true, false, false, true, true, true] Try.f117) (K)))
def en_sq11_0 (t1 : Int) (t7 : Int) (t26 : Int) (l0 : List Int) : St := ⟨[.ptr 0 0, .int .i64 t1, .any, .any, .any, .any, .any, .int .i64 t7, .any, .any, .any, .any, .any, .any, .any, .any, .any, .any, .any, .any, .any, .any, .any, .any, .sl 1 0 6, .int .i64 6, .int .i64 t26, .any, .any, .any, .any, .any, .any, .any, .any, .any, .any, .any, .any, .any, .any, .any, .any, .any, .any, .any, .any, .any, .any, .any, .any, .any, .any, .any, .any, .any, .any, .any, .any, .any, .any, .any, .any, .any, .any, .any, .any, .any, .any, .any, .any, .any, .any, .any], [.at true (.int .i64 l0), .at true (.int .i64 [2, 3, 5, 7, 11, 13])]⟩
def en_sq9_0 (t1 : Int) (t7 : Int) (l0 : List Int) : St := ⟨[.ptr 0 0, .int .i64 t1, .any, .any, .any, .any, .any, .int .i64 t7, .any, .any, .any, .any, .any, .any, .any, .any, .any, .any, .any, .any, .any, .any, .any, .any, .any, .any, .any, .any, .any, .any, .any, .any, .any, .any, .any, .any, .any, .any, .any, .any, .any, .any, .any, .any, .any, .any, .any, .any, .any, .any, .any, .any, .any, .any, .any, .any, .any, .any, .any, .any, .any, .any, .any, .any, .any, .any, .any, .any, .any, .any, .any, .any, .any, .any], [.at true (.int .i64 l0)]⟩
def en_sq20_0 (t7 : Int) (t10 : Int) (t11 : Int) (t12 : Int) (l0 : List Int) : St := ⟨[.ptr 0 0, .any, .any, .any, .any, .any, .any, .int .i64 t7, .any, .any, .int .i64 t10, .int .i64 t11, .int .i64 t12, .any, .any, .any, .any, .any, .any, .any, .any, .any, .any, .any, .any, .any, .any, .any, .any, .any, .any, .any, .any, .any, .any, .any, .any, .any, .any, .any, .any, .int .i64 t12, .any, .any, .any, .any, .any, .any, .any, .any, .any, .any, .any, .any, .any, .any, .any, .any, .any, .any, .any, .any, .any, .any, .any, .any, .any, .any, .any, .any, .any, .any, .any, .any], [.at true (.int .i64 l0)]⟩
def en_sq24_0 (t7 : Int) (t10 : Int) (t11 : Int) (t41 : Int) (l0 : List Int) : St := ⟨[.ptr 0 0, .any, .any, .any, .any, .any, .any, .int .i64 t7, .any, .any, .int .i64 t10, .int .i64 t11, .any, .any, .any, .any, .any, .any, .any, .any, .any, .any, .any, .any, .any, .any, .any, .any, .any, .any, .any, .any, .any, .any, .any, .any, .any, .any, .any, .any, .any, .int .i64 t41, .any, .any, .any, .any, .any, .any, .any, .any, .any, .any, .any, .any, .any, .any, .any, .any, .any, .any, .any, .any, .any, .any, .any, .any, .any, .any, .any, .any, .any, .any, .any, .any], [.at true (.int .i64 l0)]⟩
def en_sq17_0 (t7 : Int) (t10 : Int) (t11 : Int) (l0 : List Int) : St := ⟨[.any, .any, .any, .any, .any, .any, .any, .int .i64 t7, .any, .any, .int .i64 t10, .int .i64 t11, .any, .any, .any, .any, .any, .any, .any, .any, .any, .any, .any, .any, .any, .any, .any, .any, .any, .any, .any, .any, .any, .any, .any, .any, .any, .any, .any, .any, .any, .any, .any, .any, .any, .any, .any, .any, .any, .any, .any, .any, .any, .any, .any, .any, .any, .any, .any, .any, .any, .any, .any, .any, .any, .any, .any, .any, .any, .any, .any, .any, .any, .any], [.at true (.int .i64 l0)]⟩
theorem run_sq (N : Nat) (n : Int) (p : List Int) : run ty tab_sq an_sq N Try.f117 [.ptr 0 0, .int .i64 n] [.at true (.int .i64 p)]
    = (match n == 0 with
  | true => some (.tup [.a (.int .i64 0), .a (.int .i64 0), .a (.int .i64 1)], [.at true (.int .i64 p)])
  | false => (match decide ((n : Int) < 0) with
    | true => (match (tmR (IntKind.i64.wrap (0 - n)) 2 p).isSome with
      | true => lp_sq9 N N (st_sq9 (IntKind.i64.wrap (0 - n)) (-1) 0 ((tmR (IntKind.i64.wrap (0 - n)) 2 p).getD [])) (kt_sq9 N (kEnd Try.f117 1))
      | false => none)
    | false => (match (tmR n 2 p).isSome with
      | true => lp_sq9 N N (st_sq9 n 1 0 ((tmR n 2 p).getD [])) (kt_sq9 N (kEnd Try.f117 1))
      | false => none))) := by
  kernel_rfl
theorem step_sq9 {R : Type} (N M : Nat) (K : X → St → Option R) (t1 : Int) (t7 : Int) (t26 : Int) (l0 : List Int) : lp_sq9 N (M + 1) (st_sq9 t1 t7 t26 l0) K
    = (match decide ((t26 : Int) < 6) with
  | true => (match decide (0 ≤ (t26 : Int) ∧ (t26 : Int) < 6) with
    | true => (match [2, 3, 5, 7, 11, 13][0 + (t26).toNat * 1]? with
      | some e1 => lp_sq11 N N (st_sq11 t1 t7 e1 t26 l0) (kt_sq11 N (bk_sq9 N M K))
      | none => none)
    | false => none)
  | false => K (.exit 0) (en_sq9_0 t1 t7 l0)) := by
  kernel_rfl
theorem step_sq11 {R : Type} (N M : Nat) (K : X → St → Option R) (t1 : Int) (t7 : Int) (t9 : Int) (t26 : Int) (l0 : List Int) : lp_sq11 N (M + 1) (st_sq11 t1 t7 t9 t26 l0) K
    = (match decide (t9 = 0) with
  | true => none
  | false => (match (Int.tmod t1 t9) == 0 with
    | true => (match decide (t9 = 0) with
      | true => none
      | false => lp_sq11 N M (st_sq11 (IntKind.i64.wrap (Int.tdiv t1 t9)) t7 t9 t26 l0) K)
    | false => K (.exit 2) (en_sq11_0 t1 t7 t26 l0))) := by
  kernel_rfl
theorem step_sq17 {R : Type} (N M : Nat) (K : X → St → Option R) (t7 : Int) (t10 : Int) (t11 : Int) (t41 : Int) (l0 : List Int) : lp_sq17 N (M + 1) (st_sq17 t7 t10 t11 t41 l0) K
    = (match decide ((t41 : Int) < 14) with
  | true => (match decide (0 ≤ (t41 : Int) ∧ (t41 : Int) < 14) with
    | true => (match l0[0 + (t41).toNat * 1]? with
      | some e1 => lp_sq20 N N (st_sq20 t7 t10 t11 t41 e1 l0) (kt_sq20 N (bk_sq17 N M K))
      | none => none)
    | false => none)
  | false => K (.exit 4) (en_sq17_0 t7 t10 t11 l0)) := by
  kernel_rfl
theorem step_sq20 {R : Type} (N M : Nat) (K : X → St → Option R) (t7 : Int) (t10 : Int) (t11 : Int) (t12 : Int) (t13 : Int) (l0 : List Int) : lp_sq20 N (M + 1) (st_sq20 t7 t10 t11 t12 t13 l0) K
    = (match decide ((t13 : Int) > 0) with
  | true => lp_sq20 N M (st_sq20 t7 (IntKind.i64.wrap (t10 * t12)) t11 t12 (IntKind.i64.wrap (t13 - 1)) l0) K
  | false => K (.exit 6) (en_sq20_0 t7 t10 t11 t12 l0)) := by
  kernel_rfl
theorem step_sq24 {R : Type} (N M : Nat) (K : X → St → Option R) (t7 : Int) (t10 : Int) (t11 : Int) (t12 : Int) (t14 : Int) (l0 : List Int) : lp_sq24 N (M + 1) (st_sq24 t7 t10 t11 t12 t14 l0) K
    = (match decide ((t14 : Int) < 0) with
  | true => lp_sq24 N M (st_sq24 t7 t10 (IntKind.i64.wrap (t11 * t12)) t12 (IntKind.i64.wrap (t14 + 1)) l0) K
  | false => K (.exit 8) (en_sq24_0 t7 t10 t11 t12 l0)) := by
  kernel_rfl
theorem end_sq11_0 {R : Type} (N M : Nat) (K : X → St → Option R) (t1 : Int) (t7 : Int) (t26 : Int) (l0 : List Int) : kt_sq11 N (bk_sq9 N M K) (.exit 2) (en_sq11_0 t1 t7 t26 l0)
    = lp_sq9 N M (st_sq9 t1 t7 (IntKind.i64.wrap (t26 + 1)) l0) K := by
  kernel_rfl
theorem end_sq9_0 (N : Nat) (t1 : Int) (t7 : Int) (l0 : List Int) : kt_sq9 N (kEnd Try.f117 1) (.exit 0) (en_sq9_0 t1 t7 l0)
    = lp_sq17 N N (st_sq17 t7 (IntKind.i64.wrap (t1 * t1)) 1 0 l0) (kt_sq17 N (kEnd Try.f117 1)) := by
  kernel_rfl
theorem end_sq20_0 {R : Type} (N M : Nat) (K : X → St → Option R) (t7 : Int) (t10 : Int) (t11 : Int) (t12 : Int) (l0 : List Int) : kt_sq20 N (bk_sq17 N M K) (.exit 6) (en_sq20_0 t7 t10 t11 t12 l0)
    = (match decide (0 ≤ (t12 : Int) ∧ (t12 : Int) < 14) with
  | true => (match l0[0 + (t12).toNat * 1]? with
    | some e1 => lp_sq24 N N (st_sq24 t7 t10 t11 t12 e1 l0) (kt_sq24 N (bk_sq17 N M K))
    | none => none)
  | false => none) := by
  kernel_rfl
theorem end_sq24_0 {R : Type} (N M : Nat) (K : X → St → Option R) (t7 : Int) (t10 : Int) (t11 : Int) (t41 : Int) (l0 : List Int) : kt_sq24 N (bk_sq17 N M K) (.exit 8) (en_sq24_0 t7 t10 t11 t41 l0)
    = lp_sq17 N M (st_sq17 t7 t10 t11 (IntKind.i64.wrap (t41 + 1)) l0) K := by
  kernel_rfl
theorem end_sq17_0 (N : Nat) (t7 : Int) (t10 : Int) (t11 : Int) (l0 : List Int) : kt_sq17 N (kEnd Try.f117 1) (.exit 4) (en_sq17_0 t7 t10 t11 l0)
    = some (.tup [.a (.int .i64 t7), .a (.int .i64 t10), .a (.int .i64 t11)], [.at true (.int .i64 l0)]) := by
  kernel_rfl

noncomputable def ce_sq11_0 (N : Nat) (g : Int → Int → Int → List Int → Option (V × H)) (q0 : Int → Int → List Int → Option (V × H)) (t1 : Int) (t7 : Int) (t26 : Int) (l0 : List Int) : Option (V × H) := (g t1 t7 (IntKind.i64.wrap (t26 + 1)) l0)
noncomputable def mr_sq11 (N : Nat) (k0 : Int → Int → Int → List Int → Option (V × H)) (M : Nat) : Int → Int → Int → Int → List Int → Option (V × H) := Nat.rec (motive := fun _ => Int → Int → Int → Int → List Int → Option (V × H)) (fun (_ : Int) (_ : Int) (_ : Int) (_ : Int) (_ : List Int) => none) (fun _ rq => fun (t1 : Int) (t7 : Int) (t9 : Int) (t26 : Int) (l0 : List Int) => (match decide (t9 = 0) with
  | true => none
  | false => (match (Int.tmod t1 t9) == 0 with
    | true => (match decide (t9 = 0) with
      | true => none
      | false => (rq (IntKind.i64.wrap (Int.tdiv t1 t9)) t7 t9 t26 l0))
    | false => (k0 t1 t7 t26 l0)))) M
theorem mrs_sq11 (N : Nat) (k0 : Int → Int → Int → List Int → Option (V × H)) (M : Nat) (t1 : Int) (t7 : Int) (t9 : Int) (t26 : Int) (l0 : List Int) : mr_sq11 N k0 (M + 1) t1 t7 t9 t26 l0 = (match decide (t9 = 0) with
  | true => none
  | false => (match (Int.tmod t1 t9) == 0 with
    | true => (match decide (t9 = 0) with
      | true => none
      | false => (mr_sq11 N k0 M (IntKind.i64.wrap (Int.tdiv t1 t9)) t7 t9 t26 l0))
    | false => (k0 t1 t7 t26 l0))) := by kernel_rfl
theorem H_sq11 (N : Nat) (Mp : Nat) (K : X → St → Option (V × H)) (g : Int → Int → Int → List Int → Option (V × H)) (q0 : Int → Int → List Int → Option (V × H)) (hg : ∀ (t1 : Int) (t7 : Int) (t26 : Int) (l0 : List Int), lp_sq9 N Mp (st_sq9 t1 t7 t26 l0) K = g t1 t7 t26 l0) (hk0 : ∀ (t1 : Int) (t7 : Int) (l0 : List Int), K (.exit 0) (en_sq9_0 t1 t7 l0) = q0 t1 t7 l0) : ∀ (M : Nat) (t1 : Int) (t7 : Int) (t9 : Int) (t26 : Int) (l0 : List Int), lp_sq11 N M (st_sq11 t1 t7 t9 t26 l0) (kt_sq11 N (bk_sq9 N Mp K)) = mr_sq11 N (ce_sq11_0 N g q0) M t1 t7 t9 t26 l0 := by
  have he0 : ∀ (t1 : Int) (t7 : Int) (t26 : Int) (l0 : List Int), kt_sq11 N (bk_sq9 N Mp K) (.exit 2) (en_sq11_0 t1 t7 t26 l0) = ce_sq11_0 N g q0 t1 t7 t26 l0 := by
    intro t1 t7 t26 l0
    rw [end_sq11_0]
    unfold ce_sq11_0
    first | simp only [hg, hk0] | rfl
  intro M
  induction M with
  | zero => intros; rfl
  | succ M ih =>
    intro t1 t7 t9 t26 l0
    rw [step_sq11]
    rw [mrs_sq11]
    first | simp only [ih, he0] | rfl
noncomputable def ce_sq24_0 (N : Nat) (g : Int → Int → Int → Int → List Int → Option (V × H)) (q0 : Int → Int → Int → List Int → Option (V × H)) (t7 : Int) (t10 : Int) (t11 : Int) (t41 : Int) (l0 : List Int) : Option (V × H) := (g t7 t10 t11 (IntKind.i64.wrap (t41 + 1)) l0)
noncomputable def mr_sq24 (N : Nat) (k0 : Int → Int → Int → Int → List Int → Option (V × H)) (M : Nat) : Int → Int → Int → Int → Int → List Int → Option (V × H) := Nat.rec (motive := fun _ => Int → Int → Int → Int → Int → List Int → Option (V × H)) (fun (_ : Int) (_ : Int) (_ : Int) (_ : Int) (_ : Int) (_ : List Int) => none) (fun _ rq => fun (t7 : Int) (t10 : Int) (t11 : Int) (t12 : Int) (t14 : Int) (l0 : List Int) => (match decide ((t14 : Int) < 0) with
  | true => (rq t7 t10 (IntKind.i64.wrap (t11 * t12)) t12 (IntKind.i64.wrap (t14 + 1)) l0)
  | false => (k0 t7 t10 t11 t12 l0))) M
theorem mrs_sq24 (N : Nat) (k0 : Int → Int → Int → Int → List Int → Option (V × H)) (M : Nat) (t7 : Int) (t10 : Int) (t11 : Int) (t12 : Int) (t14 : Int) (l0 : List Int) : mr_sq24 N k0 (M + 1) t7 t10 t11 t12 t14 l0 = (match decide ((t14 : Int) < 0) with
  | true => (mr_sq24 N k0 M t7 t10 (IntKind.i64.wrap (t11 * t12)) t12 (IntKind.i64.wrap (t14 + 1)) l0)
  | false => (k0 t7 t10 t11 t12 l0)) := by kernel_rfl
theorem H_sq24 (N : Nat) (Mp : Nat) (K : X → St → Option (V × H)) (g : Int → Int → Int → Int → List Int → Option (V × H)) (q0 : Int → Int → Int → List Int → Option (V × H)) (hg : ∀ (t7 : Int) (t10 : Int) (t11 : Int) (t41 : Int) (l0 : List Int), lp_sq17 N Mp (st_sq17 t7 t10 t11 t41 l0) K = g t7 t10 t11 t41 l0) (hk0 : ∀ (t7 : Int) (t10 : Int) (t11 : Int) (l0 : List Int), K (.exit 4) (en_sq17_0 t7 t10 t11 l0) = q0 t7 t10 t11 l0) : ∀ (M : Nat) (t7 : Int) (t10 : Int) (t11 : Int) (t12 : Int) (t14 : Int) (l0 : List Int), lp_sq24 N M (st_sq24 t7 t10 t11 t12 t14 l0) (kt_sq24 N (bk_sq17 N Mp K)) = mr_sq24 N (ce_sq24_0 N g q0) M t7 t10 t11 t12 t14 l0 := by
  have he0 : ∀ (t7 : Int) (t10 : Int) (t11 : Int) (t41 : Int) (l0 : List Int), kt_sq24 N (bk_sq17 N Mp K) (.exit 8) (en_sq24_0 t7 t10 t11 t41 l0) = ce_sq24_0 N g q0 t7 t10 t11 t41 l0 := by
    intro t7 t10 t11 t41 l0
    rw [end_sq24_0]
    unfold ce_sq24_0
    first | simp only [hg, hk0] | rfl
  intro M
  induction M with
  | zero => intros; rfl
  | succ M ih =>
    intro t7 t10 t11 t12 t14 l0
    rw [step_sq24]
    rw [mrs_sq24]
    first | simp only [ih, he0] | rfl
noncomputable def ce_sq20_0 (N : Nat) (g : Int → Int → Int → Int → List Int → Option (V × H)) (q0 : Int → Int → Int → List Int → Option (V × H)) (t7 : Int) (t10 : Int) (t11 : Int) (t12 : Int) (l0 : List Int) : Option (V × H) := (match decide (0 ≤ (t12 : Int) ∧ (t12 : Int) < 14) with
  | true => (match l0[0 + (t12).toNat * 1]? with
    | some e1 => (mr_sq24 N (ce_sq24_0 N g q0) N t7 t10 t11 t12 e1 l0)
    | none => none)
  | false => none)
noncomputable def mr_sq20 (N : Nat) (k0 : Int → Int → Int → Int → List Int → Option (V × H)) (M : Nat) : Int → Int → Int → Int → Int → List Int → Option (V × H) := Nat.rec (motive := fun _ => Int → Int → Int → Int → Int → List Int → Option (V × H)) (fun (_ : Int) (_ : Int) (_ : Int) (_ : Int) (_ : Int) (_ : List Int) => none) (fun _ rq => fun (t7 : Int) (t10 : Int) (t11 : Int) (t12 : Int) (t13 : Int) (l0 : List Int) => (match decide ((t13 : Int) > 0) with
  | true => (rq t7 (IntKind.i64.wrap (t10 * t12)) t11 t12 (IntKind.i64.wrap (t13 - 1)) l0)
  | false => (k0 t7 t10 t11 t12 l0))) M
theorem mrs_sq20 (N : Nat) (k0 : Int → Int → Int → Int → List Int → Option (V × H)) (M : Nat) (t7 : Int) (t10 : Int) (t11 : Int) (t12 : Int) (t13 : Int) (l0 : List Int) : mr_sq20 N k0 (M + 1) t7 t10 t11 t12 t13 l0 = (match decide ((t13 : Int) > 0) with
  | true => (mr_sq20 N k0 M t7 (IntKind.i64.wrap (t10 * t12)) t11 t12 (IntKind.i64.wrap (t13 - 1)) l0)
  | false => (k0 t7 t10 t11 t12 l0)) := by kernel_rfl
theorem H_sq20 (N : Nat) (Mp : Nat) (K : X → St → Option (V × H)) (g : Int → Int → Int → Int → List Int → Option (V × H)) (q0 : Int → Int → Int → List Int → Option (V × H)) (hg : ∀ (t7 : Int) (t10 : Int) (t11 : Int) (t41 : Int) (l0 : List Int), lp_sq17 N Mp (st_sq17 t7 t10 t11 t41 l0) K = g t7 t10 t11 t41 l0) (hk0 : ∀ (t7 : Int) (t10 : Int) (t11 : Int) (l0 : List Int), K (.exit 4) (en_sq17_0 t7 t10 t11 l0) = q0 t7 t10 t11 l0) : ∀ (M : Nat) (t7 : Int) (t10 : Int) (t11 : Int) (t12 : Int) (t13 : Int) (l0 : List Int), lp_sq20 N M (st_sq20 t7 t10 t11 t12 t13 l0) (kt_sq20 N (bk_sq17 N Mp K)) = mr_sq20 N (ce_sq20_0 N g q0) M t7 t10 t11 t12 t13 l0 := by
  have he0 : ∀ (t7 : Int) (t10 : Int) (t11 : Int) (t12 : Int) (l0 : List Int), kt_sq20 N (bk_sq17 N Mp K) (.exit 6) (en_sq20_0 t7 t10 t11 t12 l0) = ce_sq20_0 N g q0 t7 t10 t11 t12 l0 := by
    intro t7 t10 t11 t12 l0
    rw [end_sq20_0]
    unfold ce_sq20_0
    first | simp only [hg, hk0, H_sq24 N Mp K g q0 hg hk0 N] | rfl
  intro M
  induction M with
  | zero => intros; rfl
  | succ M ih =>
    intro t7 t10 t11 t12 t13 l0
    rw [step_sq20]
    rw [mrs_sq20]
    first | simp only [ih, he0] | rfl
noncomputable def ce_sq17_0 (N : Nat) (t7 : Int) (t10 : Int) (t11 : Int) (l0 : List Int) : Option (V × H) := some (.tup [.a (.int .i64 t7), .a (.int .i64 t10), .a (.int .i64 t11)], [.at true (.int .i64 l0)])
noncomputable def mr_sq17 (N : Nat) (k0 : Int → Int → Int → List Int → Option (V × H)) (M : Nat) : Int → Int → Int → Int → List Int → Option (V × H) := Nat.rec (motive := fun _ => Int → Int → Int → Int → List Int → Option (V × H)) (fun (_ : Int) (_ : Int) (_ : Int) (_ : Int) (_ : List Int) => none) (fun _ rq => fun (t7 : Int) (t10 : Int) (t11 : Int) (t41 : Int) (l0 : List Int) => (match decide ((t41 : Int) < 14) with
  | true => (match decide (0 ≤ (t41 : Int) ∧ (t41 : Int) < 14) with
    | true => (match l0[0 + (t41).toNat * 1]? with
      | some e1 => (mr_sq20 N (ce_sq20_0 N (fun t7 t10 t11 t41 l0 => rq t7 t10 t11 t41 l0) k0) N t7 t10 t11 t41 e1 l0)
      | none => none)
    | false => none)
  | false => (k0 t7 t10 t11 l0))) M
theorem mrs_sq17 (N : Nat) (k0 : Int → Int → Int → List Int → Option (V × H)) (M : Nat) (t7 : Int) (t10 : Int) (t11 : Int) (t41 : Int) (l0 : List Int) : mr_sq17 N k0 (M + 1) t7 t10 t11 t41 l0 = (match decide ((t41 : Int) < 14) with
  | true => (match decide (0 ≤ (t41 : Int) ∧ (t41 : Int) < 14) with
    | true => (match l0[0 + (t41).toNat * 1]? with
      | some e1 => (mr_sq20 N (ce_sq20_0 N (fun t7 t10 t11 t41 l0 => mr_sq17 N k0 M t7 t10 t11 t41 l0) k0) N t7 t10 t11 t41 e1 l0)
      | none => none)
    | false => none)
  | false => (k0 t7 t10 t11 l0)) := by kernel_rfl
theorem H_sq17 (N : Nat) : ∀ (M : Nat) (t7 : Int) (t10 : Int) (t11 : Int) (t41 : Int) (l0 : List Int), lp_sq17 N M (st_sq17 t7 t10 t11 t41 l0) (kt_sq17 N (kEnd Try.f117 1)) = mr_sq17 N (ce_sq17_0 N) M t7 t10 t11 t41 l0 := by
  have he0 : ∀ (t7 : Int) (t10 : Int) (t11 : Int) (l0 : List Int), kt_sq17 N (kEnd Try.f117 1) (.exit 4) (en_sq17_0 t7 t10 t11 l0) = ce_sq17_0 N t7 t10 t11 l0 := by
    intro t7 t10 t11 l0
    rw [end_sq17_0]
    unfold ce_sq17_0
    first | simp only [] | rfl
  intro M
  induction M with
  | zero => intros; rfl
  | succ M ih =>
    intro t7 t10 t11 t41 l0
    rw [step_sq17]
    have hc20 := H_sq20 N M (kt_sq17 N (kEnd Try.f117 1)) (fun t7 t10 t11 t41 l0 => mr_sq17 N (ce_sq17_0 N) M t7 t10 t11 t41 l0) (ce_sq17_0 N) (fun t7 t10 t11 t41 l0 => ih t7 t10 t11 t41 l0) he0
    rw [mrs_sq17]
    first | simp only [ih, he0, hc20 N] | rfl
noncomputable def ce_sq9_0 (N : Nat) (t1 : Int) (t7 : Int) (l0 : List Int) : Option (V × H) := (mr_sq17 N (ce_sq17_0 N) N t7 (IntKind.i64.wrap (t1 * t1)) 1 0 l0)
noncomputable def mr_sq9 (N : Nat) (k0 : Int → Int → List Int → Option (V × H)) (M : Nat) : Int → Int → Int → List Int → Option (V × H) := Nat.rec (motive := fun _ => Int → Int → Int → List Int → Option (V × H)) (fun (_ : Int) (_ : Int) (_ : Int) (_ : List Int) => none) (fun _ rq => fun (t1 : Int) (t7 : Int) (t26 : Int) (l0 : List Int) => (match decide ((t26 : Int) < 6) with
  | true => (match decide (0 ≤ (t26 : Int) ∧ (t26 : Int) < 6) with
    | true => (match [2, 3, 5, 7, 11, 13][0 + (t26).toNat * 1]? with
      | some e1 => (mr_sq11 N (ce_sq11_0 N (fun t1 t7 t26 l0 => rq t1 t7 t26 l0) k0) N t1 t7 e1 t26 l0)
      | none => none)
    | false => none)
  | false => (k0 t1 t7 l0))) M
theorem mrs_sq9 (N : Nat) (k0 : Int → Int → List Int → Option (V × H)) (M : Nat) (t1 : Int) (t7 : Int) (t26 : Int) (l0 : List Int) : mr_sq9 N k0 (M + 1) t1 t7 t26 l0 = (match decide ((t26 : Int) < 6) with
  | true => (match decide (0 ≤ (t26 : Int) ∧ (t26 : Int) < 6) with
    | true => (match [2, 3, 5, 7, 11, 13][0 + (t26).toNat * 1]? with
      | some e1 => (mr_sq11 N (ce_sq11_0 N (fun t1 t7 t26 l0 => mr_sq9 N k0 M t1 t7 t26 l0) k0) N t1 t7 e1 t26 l0)
      | none => none)
    | false => none)
  | false => (k0 t1 t7 l0)) := by kernel_rfl
theorem H_sq9 (N : Nat) : ∀ (M : Nat) (t1 : Int) (t7 : Int) (t26 : Int) (l0 : List Int), lp_sq9 N M (st_sq9 t1 t7 t26 l0) (kt_sq9 N (kEnd Try.f117 1)) = mr_sq9 N (ce_sq9_0 N) M t1 t7 t26 l0 := by
  have he0 : ∀ (t1 : Int) (t7 : Int) (l0 : List Int), kt_sq9 N (kEnd Try.f117 1) (.exit 0) (en_sq9_0 t1 t7 l0) = ce_sq9_0 N t1 t7 l0 := by
    intro t1 t7 l0
    rw [end_sq9_0]
    unfold ce_sq9_0
    first | simp only [H_sq17 N N] | rfl
  intro M
  induction M with
  | zero => intros; rfl
  | succ M ih =>
    intro t1 t7 t26 l0
    rw [step_sq9]
    have hc11 := H_sq11 N M (kt_sq9 N (kEnd Try.f117 1)) (fun t1 t7 t26 l0 => mr_sq9 N (ce_sq9_0 N) M t1 t7 t26 l0) (ce_sq9_0 N) (fun t1 t7 t26 l0 => ih t1 t7 t26 l0) he0
    rw [mrs_sq9]
    first | simp only [ih, he0, hc11 N] | rfl
noncomputable def md_sq (N : Nat) (n : Int) (p : List Int) : Option (V × H) := (match n == 0 with
  | true => some (.tup [.a (.int .i64 0), .a (.int .i64 0), .a (.int .i64 1)], [.at true (.int .i64 p)])
  | false => (match decide ((n : Int) < 0) with
    | true => (match (tmR (IntKind.i64.wrap (0 - n)) 2 p).isSome with
      | true => (mr_sq9 N (ce_sq9_0 N) N (IntKind.i64.wrap (0 - n)) (-1) 0 ((tmR (IntKind.i64.wrap (0 - n)) 2 p).getD []))
      | false => none)
    | false => (match (tmR n 2 p).isSome with
      | true => (mr_sq9 N (ce_sq9_0 N) N n 1 0 ((tmR n 2 p).getD []))
      | false => none)))
theorem mdl_sq (N : Nat) (n : Int) (p : List Int) : run ty tab_sq an_sq N Try.f117 [.ptr 0 0, .int .i64 n] [.at true (.int .i64 p)] = md_sq N n p := by
  rw [run_sq]
  unfold md_sq
  first | simp only [H_sq9 N N] | rfl

noncomputable def sqR (n : Int) (p : List Int) := oS (md_sq 60 n p)
noncomputable def gSq : GT := fun vs h => match vs, h with | [.ptr 0 0, .int .i64 n], [.at true (.int .i64 p)] => .ite (sqR n p).isSome (.ret (.tup [.a (.int .i64 ((sqR n p).getD (0, 0, 0, [])).1), .a (.int .i64 ((sqR n p).getD (0, 0, 0, [])).2.1), .a (.int .i64 ((sqR n p).getD (0, 0, 0, [])).2.2.1)]) [.at true (.int .i64 ((sqR n p).getD (0, 0, 0, [])).2.2.2)]) .no | _, _ => .no
theorem ok_sq : FnT Try.prog 117 gSq := by
  refine fnT tabok_sq Try.func117 rfl rfl an_sq fun vs h v h' e => ⟨60, ?_⟩
  unfold gSq at e
  split at e
  case h_2 => exact (T.no_inv e).elim
  rename_i n p
  obtain ⟨hd, e⟩ := T.pre_inv e
  obtain ⟨rfl, rfl⟩ := T.ret_inv e
  refine Eq.trans (mdl_sq 60 n p) ?_
  obtain ⟨z, hz⟩ := Option.isSome_iff_exists.mp hd
  rw [hz]
  exact oS_inv hz
def an_jn : Ann := ⟨fun r => if r = 5 then some ([0, 1, 2, 3, 4, 13, 14, 15, 16], [0, 1, 2, 3, 4, 13, 15]) else if r = 14 then some ([0, 2, 4, 15, 18, 100, 101, 102], [0, 2, 4, 15, 18]) else if r = 19 then some ([15, 18, 132, 133, 134], [15, 18]) else none, fun _ _ => .quiet⟩
def tab_jn : Fns := tabT [(146, gS3), (147, gTm), (115, gFl), (117, gSq)]
theorem tabok_jn : ∀ f, FnT Try.prog f (tab_jn f) := (tabT_cons (k := 146) ok_s3 (tabT_cons (k := 147) ok_tm (tabT_cons (k := 115) ok_fl (tabT_cons (k := 117) ok_sq tabT_nil))))
def st_jn5 (t0 : Int) (t1 : Int) (t2 : Int) (t3 : Int) (t4 : Int) (t13 : Int) (t14 : Int) (t15 : Int) (t16 : Int) : St := ⟨[.int .i64 t0, .int .i64 t1, .int .i64 t2, .int .i64 t3, .int .i64 t4, .any, .any, .any, .any, .any, .any, .any, .any, .int .i64 t13, .int .i64 t14, .int .i64 t15, .int .i64 t16, .any, .any, .any, .any, .any, .any, .any, .any, .any, .any, .any, .any, .any, .any, .any, .any, .any, .any, .any, .any, .any, .any, .any, .any, .any, .any, .any, .any, .any, .any, .any, .any, .any, .any, .any, .any, .any, .any, .any, .any, .any, .any, .any, .any, .any, .any, .any, .any, .any, .any, .any, .any, .any, .any, .any, .any, .any, .any, .any, .any, .any, .any, .any, .any, .any, .any, .any, .any, .any, .any, .any, .any, .any, .any, .any, .any, .any, .any, .any, .any, .any, .any, .any, .any, .any, .any, .any, .any, .any, .any, .any, .any, .any, .any, .any, .any, .any, .any, .any, .any, .any, .any, .any, .any, .any, .any, .any, .any, .any, .any, .any, .any, .any, .any, .any, .any, .any, .any, .any, .any, .any, .any, .any, .any, .any, .any, .any, .any, .any, .any, .any, .any], []⟩
abbrev kp_jn5 : Option (List Nat × List Nat) := some ([0, 1, 2, 3, 4, 13, 14, 15, 16], [0, 1, 2, 3, 4, 13, 15])
noncomputable def lp_jn5 {R : Type} (N M : Nat) (s : St) (K : X → St → Option R) : Option R := loopH 0 kp_jn5 (fun st K => exec ty tab_jn an_jn N 0 (atOf [true, true, true, true, false, true, false, false] Try.f91) st K) M s K
noncomputable def bk_jn5 {R : Type} (N M : Nat) (K : X → St → Option R) : X → St → Option R := fun x st => match x with | .norm => tidyK 0 (kp_jn5.map (·.1)) st fun st => lp_jn5 N M st K | x => tidyK 0 (kp_jn5.map (·.2)) st fun st => K x st
noncomputable def kt_jn5 {R : Type} (N : Nat) (K : X → St → Option R) : X → St → Option R := kBlkR 0 (kSeqR tab_jn an_jn N 0 (atOf [true, true, true, true, true] Try.f91) (K))
def st_jn14 (t0 : Int) (t2 : Int) (t4 : Int) (t15 : Int) (t102 : Int) (l0 : List Int) (b1_0 : Int) (b1_1 : Int) (b1_2 : Int) (b1_3 : Int) (b1_4 : Int) (b1_5 : Int) : St := ⟨[.int .i64 t0, .any, .int .i64 t2, .any, .int .i64 t4, .any, .any, .any, .any, .any, .any, .any, .any, .any, .any, .int .i64 t15, .any, .any, .ptr 0 0, .any, .any, .any, .any, .any, .any, .any, .any, .any, .any, .any, .any, .any, .any, .any, .any, .any, .any, .any, .any, .any, .any, .any, .any, .any, .any, .any, .any, .any, .any, .any, .any, .any, .any, .any, .any, .any, .any, .any, .any, .any, .any, .any, .any, .any, .any, .any, .any, .any, .any, .any, .any, .any, .any, .any, .any, .any, .any, .any, .any, .any, .any, .any, .any, .any, .any, .any, .any, .any, .any, .any, .any, .any, .any, .any, .any, .any, .any, .any, .any, .any, .sl 1 0 6, .int .i64 6, .int .i64 t102, .any, .any, .any, .any, .any, .any, .any, .any, .any, .any, .any, .any, .any, .any, .any, .any, .any, .any, .any, .any, .any, .any, .any, .any, .any, .any, .any, .any, .any, .any, .any, .any, .any, .any, .any, .any, .any, .any, .any, .any, .any, .any, .any, .any, .any, .any], [.at true (.int .i64 l0), .at true (.int .i64 [b1_0, b1_1, b1_2, b1_3, b1_4, b1_5])]⟩
abbrev kp_jn14 : Option (List Nat × List Nat) := some ([0, 2, 4, 15, 18, 100, 101, 102], [0, 2, 4, 15, 18])
noncomputable def lp_jn14 {R : Type} (N M : Nat) (s : St) (K : X → St → Option R) : Option R := loopH 0 kp_jn14 (fun st K => exec ty tab_jn an_jn N 0 (atOf [true, true, true, true, true, true, true, false, true, false, false] Try.f91) st K) M s K
noncomputable def bk_jn14 {R : Type} (N M : Nat) (K : X → St → Option R) : X → St → Option R := fun x st => match x with | .norm => tidyK 0 (kp_jn14.map (·.1)) st fun st => lp_jn14 N M st K | x => tidyK 0 (kp_jn14.map (·.2)) st fun st => K x st
noncomputable def kt_jn14 {R : Type} (N : Nat) (K : X → St → Option R) : X → St → Option R := kBlkR 2 (kSeqR tab_jn an_jn N 0 (atOf [true, true, true, true, true, true, true, true] Try.f91) (K))
def st_jn19 (t15 : Int) (t134 : Int) (l0 : List Int) (b1_0 : Int) (b1_1 : Int) (b1_2 : Int) (b1_3 : Int) : St := ⟨[.any, .any, .any, .any, .any, .any, .any, .any, .any, .any, .any, .any, .any, .any, .any, .int .i64 t15, .any, .any, .ptr 0 0, .any, .any, .any, .any, .any, .any, .any, .any, .any, .any, .any, .any, .any, .any, .any, .any, .any, .any, .any, .any, .any, .any, .any, .any, .any, .any, .any, .any, .any, .any, .any, .any, .any, .any, .any, .any, .any, .any, .any, .any, .any, .any, .any, .any, .any, .any, .any, .any, .any, .any, .any, .any, .any, .any, .any, .any, .any, .any, .any, .any, .any, .any, .any, .any, .any, .any, .any, .any, .any, .any, .any, .any, .any, .any, .any, .any, .any, .any, .any, .any, .any, .any, .any, .any, .any, .any, .any, .any, .any, .any, .any, .any, .any, .any, .any, .any, .any, .any, .any, .any, .any, .any, .any, .any, .any, .any, .any, .any, .any, .any, .any, .any, .any, .sl 1 0 4, .int .i64 4, .int .i64 t134, .any, .any, .any, .any, .any, .any, .any, .any, .any, .any, .any, .any, .any, .any], [.at true (.int .i64 l0), .at true (.int .i64 [b1_0, b1_1, b1_2, b1_3])]⟩
abbrev kp_jn19 : Option (List Nat × List Nat) := some ([15, 18, 132, 133, 134], [15, 18])
noncomputable def lp_jn19 {R : Type} (N M : Nat) (s : St) (K : X → St → Option R) : Option R := loopH 0 kp_jn19 (fun st K => exec ty tab_jn an_jn N 0 (atOf [true, true, true, true, true, true, true, true, false, true, false, false] Try.f91) st K) M s K
noncomputable def bk_jn19 {R : Type} (N M : Nat) (K : X → St → Option R) : X → St → Option R := fun x st => match x with | .norm => tidyK 0 (kp_jn19.map (·.1)) st fun st => lp_jn19 N M st K | x => tidyK 0 (kp_jn19.map (·.2)) st fun st => K x st
noncomputable def kt_jn19 {R : Type} (N : Nat) (K : X → St → Option R) : X → St → Option R := kBlkR 4 (kSeqR tab_jn an_jn N 0 (atOf [true, true, true, true, true, true, true, true, true] Try.f91) (K))
def en_jn5_0 (t0 : Int) (t1 : Int) (t2 : Int) (t3 : Int) (t4 : Int) (t13 : Int) (t15 : Int) : St := ⟨[.int .i64 t0, .int .i64 t1, .int .i64 t2, .int .i64 t3, .int .i64 t4, .any, .any, .any, .any, .any, .any, .any, .any, .int .i64 t13, .any, .int .i64 t15, .any, .any, .any, .any, .any, .any, .any, .any, .any, .any, .any, .any, .any, .any, .any, .any, .any, .any, .any, .any, .any, .any, .any, .any, .any, .any, .any, .any, .any, .any, .any, .any, .any, .any, .any, .any, .any, .any, .any, .any, .any, .any, .any, .any, .any, .any, .any, .any, .any, .any, .any, .any, .any, .any, .any, .any, .any, .any, .any, .any, .any, .any, .any, .any, .any, .any, .any, .any, .any, .any, .any, .any, .any, .any, .any, .any, .any, .any, .any, .any, .any, .any, .any, .any, .any, .any, .any, .any, .any, .any, .any, .any, .any, .any, .any, .any, .any, .any, .any, .any, .any, .any, .any, .any, .any, .any, .any, .any, .any, .any, .any, .any, .any, .any, .any, .any, .any, .any, .any, .any, .any, .any, .any, .any, .any, .any, .any, .any, .any, .any, .any, .any, .any], []⟩
def en_jn14_0 (t0 : Int) (t2 : Int) (t4 : Int) (t15 : Int) (l0 : List Int) : St := ⟨[.int .i64 t0, .any, .int .i64 t2, .any, .int .i64 t4, .any, .any, .any, .any, .any, .any, .any, .any, .any, .any, .int .i64 t15, .any, .any, .ptr 0 0, .any, .any, .any, .any, .any, .any, .any, .any, .any, .any, .any, .any, .any, .any, .any, .any, .any, .any, .any, .any, .any, .any, .any, .any, .any, .any, .any, .any, .any, .any, .any, .any, .any, .any, .any, .any, .any, .any, .any, .any, .any, .any, .any, .any, .any, .any, .any, .any, .any, .any, .any, .any, .any, .any, .any, .any, .any, .any, .any, .any, .any, .any, .any, .any, .any, .any, .any, .any, .any, .any, .any, .any, .any, .any, .any, .any, .any, .any, .any, .any, .any, .any, .any, .any, .any, .any, .any, .any, .any, .any, .any, .any, .any, .any, .any, .any, .any, .any, .any, .any, .any, .any, .any, .any, .any, .any, .any, .any, .any, .any, .any, .any, .any, .any, .any, .any, .any, .any, .any, .any, .any, .any, .any, .any, .any, .any, .any, .any, .any, .any], [.at true (.int .i64 l0)]⟩
def en_jn19_0 (t15 : Int) (l0 : List Int) : St := ⟨[.any, .any, .any, .any, .any, .any, .any, .any, .any, .any, .any, .any, .any, .any, .any, .int .i64 t15, .any, .any, .ptr 0 0, .any, .any, .any, .any, .any, .any, .any, .any, .any, .any, .any, .any, .any, .any, .any, .any, .any, .any, .any, .any, .any, .any, .any, .any, .any, .any, .any, .any, .any, .any, .any, .any, .any, .any, .any, .any, .any, .any, .any, .any, .any, .any, .any, .any, .any, .any, .any, .any, .any, .any, .any, .any, .any, .any, .any, .any, .any, .any, .any, .any, .any, .any, .any, .any, .any, .any, .any, .any, .any, .any, .any, .any, .any, .any, .any, .any, .any, .any, .any, .any, .any, .any, .any, .any, .any, .any, .any, .any, .any, .any, .any, .any, .any, .any, .any, .any, .any, .any, .any, .any, .any, .any, .any, .any, .any, .any, .any, .any, .any, .any, .any, .any, .any, .any, .any, .any, .any, .any, .any, .any, .any, .any, .any, .any, .any, .any, .any, .any, .any, .any], [.at true (.int .i64 l0)]⟩
theorem run_jn (N : Nat) (a : Int) (x : Int) (b : Int) (y : Int) (c : Int) : run ty tab_jn an_jn N Try.f91 [.int .i64 a, .int .i64 x, .int .i64 b, .int .i64 y, .int .i64 c] []
    = lp_jn5 N N (st_jn5 a x b y c (IntKind.i64.wrap (x + y)) (IntKind.i64.wrap (Int.tdiv (IntKind.i64.wrap ((IntKind.i64.wrap (a + b)) - c)) 2)) 0 0) (kt_jn5 N (kEnd Try.f91 0)) := by
  kernel_rfl
theorem step_jn5 {R : Type} (N M : Nat) (K : X → St → Option R) (t0 : Int) (t1 : Int) (t2 : Int) (t3 : Int) (t4 : Int) (t13 : Int) (t14 : Int) (t15 : Int) (t16 : Int) : lp_jn5 N (M + 1) (st_jn5 t0 t1 t2 t3 t4 t13 t14 t15 t16) K
    = (match decide ((t16 : Int) ≤ t14) with
  | true => (match (s3R t14 t16).isSome with
    | true => (match (s3R (IntKind.i64.wrap (Int.tdiv (IntKind.i64.wrap ((IntKind.i64.wrap (t4 + t0)) - t2)) 2)) (IntKind.i64.wrap ((IntKind.i64.wrap (Int.tdiv (IntKind.i64.wrap (t0 - t1)) 2)) - t16))).isSome with
      | true => (match (s3R (IntKind.i64.wrap (Int.tdiv (IntKind.i64.wrap ((IntKind.i64.wrap (t4 + t2)) - t0)) 2)) (IntKind.i64.wrap ((IntKind.i64.wrap (Int.tdiv (IntKind.i64.wrap (t2 + t3)) 2)) - t16))).isSome with
        | true => (match (Int.tmod t16 2) == 1 with
          | true => lp_jn5 N M (st_jn5 t0 t1 t2 t3 t4 t13 t14 (IntKind.i64.wrap (t15 + (IntKind.i64.wrap (0 - (IntKind.i64.wrap ((IntKind.i64.wrap (((s3R t14 t16).getD 0) * ((s3R (IntKind.i64.wrap (Int.tdiv (IntKind.i64.wrap ((IntKind.i64.wrap (t4 + t0)) - t2)) 2)) (IntKind.i64.wrap ((IntKind.i64.wrap (Int.tdiv (IntKind.i64.wrap (t0 - t1)) 2)) - t16))).getD 0))) * ((s3R (IntKind.i64.wrap (Int.tdiv (IntKind.i64.wrap ((IntKind.i64.wrap (t4 + t2)) - t0)) 2)) (IntKind.i64.wrap ((IntKind.i64.wrap (Int.tdiv (IntKind.i64.wrap (t2 + t3)) 2)) - t16))).getD 0))))))) (IntKind.i64.wrap (t16 + 1))) K
          | false => lp_jn5 N M (st_jn5 t0 t1 t2 t3 t4 t13 t14 (IntKind.i64.wrap (t15 + (IntKind.i64.wrap ((IntKind.i64.wrap (((s3R t14 t16).getD 0) * ((s3R (IntKind.i64.wrap (Int.tdiv (IntKind.i64.wrap ((IntKind.i64.wrap (t4 + t0)) - t2)) 2)) (IntKind.i64.wrap ((IntKind.i64.wrap (Int.tdiv (IntKind.i64.wrap (t0 - t1)) 2)) - t16))).getD 0))) * ((s3R (IntKind.i64.wrap (Int.tdiv (IntKind.i64.wrap ((IntKind.i64.wrap (t4 + t2)) - t0)) 2)) (IntKind.i64.wrap ((IntKind.i64.wrap (Int.tdiv (IntKind.i64.wrap (t2 + t3)) 2)) - t16))).getD 0))))) (IntKind.i64.wrap (t16 + 1))) K)
        | false => none)
      | false => none)
    | false => none)
  | false => K (.exit 0) (en_jn5_0 t0 t1 t2 t3 t4 t13 t15)) := by
  kernel_rfl
theorem step_jn14 {R : Type} (N M : Nat) (K : X → St → Option R) (t0 : Int) (t2 : Int) (t4 : Int) (t15 : Int) (t102 : Int) (l0 : List Int) (b1_0 : Int) (b1_1 : Int) (b1_2 : Int) (b1_3 : Int) (b1_4 : Int) (b1_5 : Int) : lp_jn14 N (M + 1) (st_jn14 t0 t2 t4 t15 t102 l0 b1_0 b1_1 b1_2 b1_3 b1_4 b1_5) K
    = (match decide ((t102 : Int) < 6) with
  | true => (match decide (0 ≤ (t102 : Int) ∧ (t102 : Int) < 6) with
    | true => (match [b1_0, b1_1, b1_2, b1_3, b1_4, b1_5][0 + (t102).toNat * 1]? with
      | some e1 => (match (flR (IntKind.i64.wrap (Int.tdiv e1 2)) 1 l0).isSome with
        | true => lp_jn14 N M (st_jn14 t0 t2 t4 t15 (IntKind.i64.wrap (t102 + 1)) ((flR (IntKind.i64.wrap (Int.tdiv e1 2)) 1 l0).getD []) b1_0 b1_1 b1_2 b1_3 b1_4 b1_5) K
        | false => none)
      | none => none)
    | false => none)
  | false => K (.exit 2) (en_jn14_0 t0 t2 t4 t15 l0)) := by
  kernel_rfl
theorem step_jn19 {R : Type} (N M : Nat) (K : X → St → Option R) (t15 : Int) (t134 : Int) (l0 : List Int) (b1_0 : Int) (b1_1 : Int) (b1_2 : Int) (b1_3 : Int) : lp_jn19 N (M + 1) (st_jn19 t15 t134 l0 b1_0 b1_1 b1_2 b1_3) K
    = (match decide ((t134 : Int) < 4) with
  | true => (match decide (0 ≤ (t134 : Int) ∧ (t134 : Int) < 4) with
    | true => (match [b1_0, b1_1, b1_2, b1_3][0 + (t134).toNat * 1]? with
      | some e1 => (match (flR (IntKind.i64.wrap (Int.tdiv e1 2)) (-1) l0).isSome with
        | true => lp_jn19 N M (st_jn19 t15 (IntKind.i64.wrap (t134 + 1)) ((flR (IntKind.i64.wrap (Int.tdiv e1 2)) (-1) l0).getD []) b1_0 b1_1 b1_2 b1_3) K
        | false => none)
      | none => none)
    | false => none)
  | false => K (.exit 4) (en_jn19_0 t15 l0)) := by
  kernel_rfl
theorem end_jn5_0 (N : Nat) (t0 : Int) (t1 : Int) (t2 : Int) (t3 : Int) (t4 : Int) (t13 : Int) (t15 : Int) : kt_jn5 N (kEnd Try.f91 0) (.exit 0) (en_jn5_0 t0 t1 t2 t3 t4 t13 t15)
    = (match (tmR (IntKind.i64.wrap (t4 + 1)) 1 [0, 0, 0, 0, 0, 0, 0, 0, 0, 0, 0, 0, 0, 0]).isSome with
  | true => lp_jn14 N N (st_jn14 t0 t2 t4 t15 0 ((tmR (IntKind.i64.wrap (t4 + 1)) 1 [0, 0, 0, 0, 0, 0, 0, 0, 0, 0, 0, 0, 0, 0]).getD []) (IntKind.i64.wrap (t0 + t1)) (IntKind.i64.wrap (t0 - t1)) (IntKind.i64.wrap (t2 + t3)) (IntKind.i64.wrap (t2 - t3)) (IntKind.i64.wrap (t4 + t13)) (IntKind.i64.wrap (t4 - t13))) (kt_jn14 N (kEnd Try.f91 0))
  | false => none) := by
  kernel_rfl
theorem end_jn14_0 (N : Nat) (t0 : Int) (t2 : Int) (t4 : Int) (t15 : Int) (l0 : List Int) : kt_jn14 N (kEnd Try.f91 0) (.exit 2) (en_jn14_0 t0 t2 t4 t15 l0)
    = lp_jn19 N N (st_jn19 t15 0 l0 (IntKind.i64.wrap ((IntKind.i64.wrap ((IntKind.i64.wrap (t0 + t2)) + t4)) + 2)) (IntKind.i64.wrap ((IntKind.i64.wrap (t0 + t2)) - t4)) (IntKind.i64.wrap ((IntKind.i64.wrap (t4 + t0)) - t2)) (IntKind.i64.wrap ((IntKind.i64.wrap (t4 + t2)) - t0))) (kt_jn19 N (kEnd Try.f91 0)) := by
  kernel_rfl
theorem end_jn19_0 (N : Nat) (t15 : Int) (l0 : List Int) : kt_jn19 N (kEnd Try.f91 0) (.exit 4) (en_jn19_0 t15 l0)
    = (match (sqR t15 l0).isSome with
  | true => some (.tup [.a (.int .i64 (((sqR t15 l0).getD (0, 0, 0, [])).1)), .a (.int .i64 (((sqR t15 l0).getD (0, 0, 0, [])).2.1)), .a (.int .i64 (((sqR t15 l0).getD (0, 0, 0, [])).2.2.1))], [])
  | false => none) := by
  kernel_rfl

noncomputable def ce_jn19_0 (N : Nat) (t15 : Int) (l0 : List Int) : Option (V × H) := (match (sqR t15 l0).isSome with
  | true => some (.tup [.a (.int .i64 (((sqR t15 l0).getD (0, 0, 0, [])).1)), .a (.int .i64 (((sqR t15 l0).getD (0, 0, 0, [])).2.1)), .a (.int .i64 (((sqR t15 l0).getD (0, 0, 0, [])).2.2.1))], [])
  | false => none)
noncomputable def mr_jn19 (N : Nat) (k0 : Int → List Int → Option (V × H)) (M : Nat) : Int → Int → List Int → Int → Int → Int → Int → Option (V × H) := Nat.rec (motive := fun _ => Int → Int → List Int → Int → Int → Int → Int → Option (V × H)) (fun (_ : Int) (_ : Int) (_ : List Int) (_ : Int) (_ : Int) (_ : Int) (_ : Int) => none) (fun _ rq => fun (t15 : Int) (t134 : Int) (l0 : List Int) (b1_0 : Int) (b1_1 : Int) (b1_2 : Int) (b1_3 : Int) => (match decide ((t134 : Int) < 4) with
  | true => (match decide (0 ≤ (t134 : Int) ∧ (t134 : Int) < 4) with
    | true => (match [b1_0, b1_1, b1_2, b1_3][0 + (t134).toNat * 1]? with
      | some e1 => (match (flR (IntKind.i64.wrap (Int.tdiv e1 2)) (-1) l0).isSome with
        | true => (rq t15 (IntKind.i64.wrap (t134 + 1)) ((flR (IntKind.i64.wrap (Int.tdiv e1 2)) (-1) l0).getD []) b1_0 b1_1 b1_2 b1_3)
        | false => none)
      | none => none)
    | false => none)
  | false => (k0 t15 l0))) M
theorem mrs_jn19 (N : Nat) (k0 : Int → List Int → Option (V × H)) (M : Nat) (t15 : Int) (t134 : Int) (l0 : List Int) (b1_0 : Int) (b1_1 : Int) (b1_2 : Int) (b1_3 : Int) : mr_jn19 N k0 (M + 1) t15 t134 l0 b1_0 b1_1 b1_2 b1_3 = (match decide ((t134 : Int) < 4) with
  | true => (match decide (0 ≤ (t134 : Int) ∧ (t134 : Int) < 4) with
    | true => (match [b1_0, b1_1, b1_2, b1_3][0 + (t134).toNat * 1]? with
      | some e1 => (match (flR (IntKind.i64.wrap (Int.tdiv e1 2)) (-1) l0).isSome with
        | true => (mr_jn19 N k0 M t15 (IntKind.i64.wrap (t134 + 1)) ((flR (IntKind.i64.wrap (Int.tdiv e1 2)) (-1) l0).getD []) b1_0 b1_1 b1_2 b1_3)
        | false => none)
      | none => none)
    | false => none)
  | false => (k0 t15 l0)) := by kernel_rfl
theorem H_jn19 (N : Nat) : ∀ (M : Nat) (t15 : Int) (t134 : Int) (l0 : List Int) (b1_0 : Int) (b1_1 : Int) (b1_2 : Int) (b1_3 : Int), lp_jn19 N M (st_jn19 t15 t134 l0 b1_0 b1_1 b1_2 b1_3) (kt_jn19 N (kEnd Try.f91 0)) = mr_jn19 N (ce_jn19_0 N) M t15 t134 l0 b1_0 b1_1 b1_2 b1_3 := by
  have he0 : ∀ (t15 : Int) (l0 : List Int), kt_jn19 N (kEnd Try.f91 0) (.exit 4) (en_jn19_0 t15 l0) = ce_jn19_0 N t15 l0 := by
    intro t15 l0
    rw [end_jn19_0]
    unfold ce_jn19_0
    first | simp only [] | rfl
  intro M
  induction M with
  | zero => intros; rfl
  | succ M ih =>
    intro t15 t134 l0 b1_0 b1_1 b1_2 b1_3
    rw [step_jn19]
    rw [mrs_jn19]
    first | simp only [ih, he0] | rfl
noncomputable def ce_jn14_0 (N : Nat) (t0 : Int) (t2 : Int) (t4 : Int) (t15 : Int) (l0 : List Int) : Option (V × H) := (mr_jn19 N (ce_jn19_0 N) N t15 0 l0 (IntKind.i64.wrap ((IntKind.i64.wrap ((IntKind.i64.wrap (t0 + t2)) + t4)) + 2)) (IntKind.i64.wrap ((IntKind.i64.wrap (t0 + t2)) - t4)) (IntKind.i64.wrap ((IntKind.i64.wrap (t4 + t0)) - t2)) (IntKind.i64.wrap ((IntKind.i64.wrap (t4 + t2)) - t0)))
noncomputable def mr_jn14 (N : Nat) (k0 : Int → Int → Int → Int → List Int → Option (V × H)) (M : Nat) : Int → Int → Int → Int → Int → List Int → Int → Int → Int → Int → Int → Int → Option (V × H) := Nat.rec (motive := fun _ => Int → Int → Int → Int → Int → List Int → Int → Int → Int → Int → Int → Int → Option (V × H)) (fun (_ : Int) (_ : Int) (_ : Int) (_ : Int) (_ : Int) (_ : List Int) (_ : Int) (_ : Int) (_ : Int) (_ : Int) (_ : Int) (_ : Int) => none) (fun _ rq => fun (t0 : Int) (t2 : Int) (t4 : Int) (t15 : Int) (t102 : Int) (l0 : List Int) (b1_0 : Int) (b1_1 : Int) (b1_2 : Int) (b1_3 : Int) (b1_4 : Int) (b1_5 : Int) => (match decide ((t102 : Int) < 6) with
  | true => (match decide (0 ≤ (t102 : Int) ∧ (t102 : Int) < 6) with
    | true => (match [b1_0, b1_1, b1_2, b1_3, b1_4, b1_5][0 + (t102).toNat * 1]? with
      | some e1 => (match (flR (IntKind.i64.wrap (Int.tdiv e1 2)) 1 l0).isSome with
        | true => (rq t0 t2 t4 t15 (IntKind.i64.wrap (t102 + 1)) ((flR (IntKind.i64.wrap (Int.tdiv e1 2)) 1 l0).getD []) b1_0 b1_1 b1_2 b1_3 b1_4 b1_5)
        | false => none)
      | none => none)
    | false => none)
  | false => (k0 t0 t2 t4 t15 l0))) M
theorem mrs_jn14 (N : Nat) (k0 : Int → Int → Int → Int → List Int → Option (V × H)) (M : Nat) (t0 : Int) (t2 : Int) (t4 : Int) (t15 : Int) (t102 : Int) (l0 : List Int) (b1_0 : Int) (b1_1 : Int) (b1_2 : Int) (b1_3 : Int) (b1_4 : Int) (b1_5 : Int) : mr_jn14 N k0 (M + 1) t0 t2 t4 t15 t102 l0 b1_0 b1_1 b1_2 b1_3 b1_4 b1_5 = (match decide ((t102 : Int) < 6) with
  | true => (match decide (0 ≤ (t102 : Int) ∧ (t102 : Int) < 6) with
    | true => (match [b1_0, b1_1, b1_2, b1_3, b1_4, b1_5][0 + (t102).toNat * 1]? with
      | some e1 => (match (flR (IntKind.i64.wrap (Int.tdiv e1 2)) 1 l0).isSome with
        | true => (mr_jn14 N k0 M t0 t2 t4 t15 (IntKind.i64.wrap (t102 + 1)) ((flR (IntKind.i64.wrap (Int.tdiv e1 2)) 1 l0).getD []) b1_0 b1_1 b1_2 b1_3 b1_4 b1_5)
        | false => none)
      | none => none)
    | false => none)
  | false => (k0 t0 t2 t4 t15 l0)) := by kernel_rfl
theorem H_jn14 (N : Nat) : ∀ (M : Nat) (t0 : Int) (t2 : Int) (t4 : Int) (t15 : Int) (t102 : Int) (l0 : List Int) (b1_0 : Int) (b1_1 : Int) (b1_2 : Int) (b1_3 : Int) (b1_4 : Int) (b1_5 : Int), lp_jn14 N M (st_jn14 t0 t2 t4 t15 t102 l0 b1_0 b1_1 b1_2 b1_3 b1_4 b1_5) (kt_jn14 N (kEnd Try.f91 0)) = mr_jn14 N (ce_jn14_0 N) M t0 t2 t4 t15 t102 l0 b1_0 b1_1 b1_2 b1_3 b1_4 b1_5 := by
  have he0 : ∀ (t0 : Int) (t2 : Int) (t4 : Int) (t15 : Int) (l0 : List Int), kt_jn14 N (kEnd Try.f91 0) (.exit 2) (en_jn14_0 t0 t2 t4 t15 l0) = ce_jn14_0 N t0 t2 t4 t15 l0 := by
    intro t0 t2 t4 t15 l0
    rw [end_jn14_0]
    unfold ce_jn14_0
    first | simp only [H_jn19 N N] | rfl
  intro M
  induction M with
  | zero => intros; rfl
  | succ M ih =>
    intro t0 t2 t4 t15 t102 l0 b1_0 b1_1 b1_2 b1_3 b1_4 b1_5
    rw [step_jn14]
    rw [mrs_jn14]
    first | simp only [ih, he0] | rfl
noncomputable def ce_jn5_0 (N : Nat) (t0 : Int) (t1 : Int) (t2 : Int) (t3 : Int) (t4 : Int) (t13 : Int) (t15 : Int) : Option (V × H) := (match (tmR (IntKind.i64.wrap (t4 + 1)) 1 [0, 0, 0, 0, 0, 0, 0, 0, 0, 0, 0, 0, 0, 0]).isSome with
  | true => (mr_jn14 N (ce_jn14_0 N) N t0 t2 t4 t15 0 ((tmR (IntKind.i64.wrap (t4 + 1)) 1 [0, 0, 0, 0, 0, 0, 0, 0, 0, 0, 0, 0, 0, 0]).getD []) (IntKind.i64.wrap (t0 + t1)) (IntKind.i64.wrap (t0 - t1)) (IntKind.i64.wrap (t2 + t3)) (IntKind.i64.wrap (t2 - t3)) (IntKind.i64.wrap (t4 + t13)) (IntKind.i64.wrap (t4 - t13)))
  | false => none)
noncomputable def mr_jn5 (N : Nat) (k0 : Int → Int → Int → Int → Int → Int → Int → Option (V × H)) (M : Nat) : Int → Int → Int → Int → Int → Int → Int → Int → Int → Option (V × H) := Nat.rec (motive := fun _ => Int → Int → Int → Int → Int → Int → Int → Int → Int → Option (V × H)) (fun (_ : Int) (_ : Int) (_ : Int) (_ : Int) (_ : Int) (_ : Int) (_ : Int) (_ : Int) (_ : Int) => none) (fun _ rq => fun (t0 : Int) (t1 : Int) (t2 : Int) (t3 : Int) (t4 : Int) (t13 : Int) (t14 : Int) (t15 : Int) (t16 : Int) => (match decide ((t16 : Int) ≤ t14) with
  | true => (match (s3R t14 t16).isSome with
    | true => (match (s3R (IntKind.i64.wrap (Int.tdiv (IntKind.i64.wrap ((IntKind.i64.wrap (t4 + t0)) - t2)) 2)) (IntKind.i64.wrap ((IntKind.i64.wrap (Int.tdiv (IntKind.i64.wrap (t0 - t1)) 2)) - t16))).isSome with
      | true => (match (s3R (IntKind.i64.wrap (Int.tdiv (IntKind.i64.wrap ((IntKind.i64.wrap (t4 + t2)) - t0)) 2)) (IntKind.i64.wrap ((IntKind.i64.wrap (Int.tdiv (IntKind.i64.wrap (t2 + t3)) 2)) - t16))).isSome with
        | true => (match (Int.tmod t16 2) == 1 with
          | true => (rq t0 t1 t2 t3 t4 t13 t14 (IntKind.i64.wrap (t15 + (IntKind.i64.wrap (0 - (IntKind.i64.wrap ((IntKind.i64.wrap (((s3R t14 t16).getD 0) * ((s3R (IntKind.i64.wrap (Int.tdiv (IntKind.i64.wrap ((IntKind.i64.wrap (t4 + t0)) - t2)) 2)) (IntKind.i64.wrap ((IntKind.i64.wrap (Int.tdiv (IntKind.i64.wrap (t0 - t1)) 2)) - t16))).getD 0))) * ((s3R (IntKind.i64.wrap (Int.tdiv (IntKind.i64.wrap ((IntKind.i64.wrap (t4 + t2)) - t0)) 2)) (IntKind.i64.wrap ((IntKind.i64.wrap (Int.tdiv (IntKind.i64.wrap (t2 + t3)) 2)) - t16))).getD 0))))))) (IntKind.i64.wrap (t16 + 1)))
          | false => (rq t0 t1 t2 t3 t4 t13 t14 (IntKind.i64.wrap (t15 + (IntKind.i64.wrap ((IntKind.i64.wrap (((s3R t14 t16).getD 0) * ((s3R (IntKind.i64.wrap (Int.tdiv (IntKind.i64.wrap ((IntKind.i64.wrap (t4 + t0)) - t2)) 2)) (IntKind.i64.wrap ((IntKind.i64.wrap (Int.tdiv (IntKind.i64.wrap (t0 - t1)) 2)) - t16))).getD 0))) * ((s3R (IntKind.i64.wrap (Int.tdiv (IntKind.i64.wrap ((IntKind.i64.wrap (t4 + t2)) - t0)) 2)) (IntKind.i64.wrap ((IntKind.i64.wrap (Int.tdiv (IntKind.i64.wrap (t2 + t3)) 2)) - t16))).getD 0))))) (IntKind.i64.wrap (t16 + 1))))
        | false => none)
      | false => none)
    | false => none)
  | false => (k0 t0 t1 t2 t3 t4 t13 t15))) M
theorem mrs_jn5 (N : Nat) (k0 : Int → Int → Int → Int → Int → Int → Int → Option (V × H)) (M : Nat) (t0 : Int) (t1 : Int) (t2 : Int) (t3 : Int) (t4 : Int) (t13 : Int) (t14 : Int) (t15 : Int) (t16 : Int) : mr_jn5 N k0 (M + 1) t0 t1 t2 t3 t4 t13 t14 t15 t16 = (match decide ((t16 : Int) ≤ t14) with
  | true => (match (s3R t14 t16).isSome with
    | true => (match (s3R (IntKind.i64.wrap (Int.tdiv (IntKind.i64.wrap ((IntKind.i64.wrap (t4 + t0)) - t2)) 2)) (IntKind.i64.wrap ((IntKind.i64.wrap (Int.tdiv (IntKind.i64.wrap (t0 - t1)) 2)) - t16))).isSome with
      | true => (match (s3R (IntKind.i64.wrap (Int.tdiv (IntKind.i64.wrap ((IntKind.i64.wrap (t4 + t2)) - t0)) 2)) (IntKind.i64.wrap ((IntKind.i64.wrap (Int.tdiv (IntKind.i64.wrap (t2 + t3)) 2)) - t16))).isSome with
        | true => (match (Int.tmod t16 2) == 1 with
          | true => (mr_jn5 N k0 M t0 t1 t2 t3 t4 t13 t14 (IntKind.i64.wrap (t15 + (IntKind.i64.wrap (0 - (IntKind.i64.wrap ((IntKind.i64.wrap (((s3R t14 t16).getD 0) * ((s3R (IntKind.i64.wrap (Int.tdiv (IntKind.i64.wrap ((IntKind.i64.wrap (t4 + t0)) - t2)) 2)) (IntKind.i64.wrap ((IntKind.i64.wrap (Int.tdiv (IntKind.i64.wrap (t0 - t1)) 2)) - t16))).getD 0))) * ((s3R (IntKind.i64.wrap (Int.tdiv (IntKind.i64.wrap ((IntKind.i64.wrap (t4 + t2)) - t0)) 2)) (IntKind.i64.wrap ((IntKind.i64.wrap (Int.tdiv (IntKind.i64.wrap (t2 + t3)) 2)) - t16))).getD 0))))))) (IntKind.i64.wrap (t16 + 1)))
          | false => (mr_jn5 N k0 M t0 t1 t2 t3 t4 t13 t14 (IntKind.i64.wrap (t15 + (IntKind.i64.wrap ((IntKind.i64.wrap (((s3R t14 t16).getD 0) * ((s3R (IntKind.i64.wrap (Int.tdiv (IntKind.i64.wrap ((IntKind.i64.wrap (t4 + t0)) - t2)) 2)) (IntKind.i64.wrap ((IntKind.i64.wrap (Int.tdiv (IntKind.i64.wrap (t0 - t1)) 2)) - t16))).getD 0))) * ((s3R (IntKind.i64.wrap (Int.tdiv (IntKind.i64.wrap ((IntKind.i64.wrap (t4 + t2)) - t0)) 2)) (IntKind.i64.wrap ((IntKind.i64.wrap (Int.tdiv (IntKind.i64.wrap (t2 + t3)) 2)) - t16))).getD 0))))) (IntKind.i64.wrap (t16 + 1))))
        | false => none)
      | false => none)
    | false => none)
  | false => (k0 t0 t1 t2 t3 t4 t13 t15)) := by kernel_rfl
theorem H_jn5 (N : Nat) : ∀ (M : Nat) (t0 : Int) (t1 : Int) (t2 : Int) (t3 : Int) (t4 : Int) (t13 : Int) (t14 : Int) (t15 : Int) (t16 : Int), lp_jn5 N M (st_jn5 t0 t1 t2 t3 t4 t13 t14 t15 t16) (kt_jn5 N (kEnd Try.f91 0)) = mr_jn5 N (ce_jn5_0 N) M t0 t1 t2 t3 t4 t13 t14 t15 t16 := by
  have he0 : ∀ (t0 : Int) (t1 : Int) (t2 : Int) (t3 : Int) (t4 : Int) (t13 : Int) (t15 : Int), kt_jn5 N (kEnd Try.f91 0) (.exit 0) (en_jn5_0 t0 t1 t2 t3 t4 t13 t15) = ce_jn5_0 N t0 t1 t2 t3 t4 t13 t15 := by
    intro t0 t1 t2 t3 t4 t13 t15
    rw [end_jn5_0]
    unfold ce_jn5_0
    first | simp only [H_jn14 N N] | rfl
  intro M
  induction M with
  | zero => intros; rfl
  | succ M ih =>
    intro t0 t1 t2 t3 t4 t13 t14 t15 t16
    rw [step_jn5]
    rw [mrs_jn5]
    first | simp only [ih, he0] | rfl
noncomputable def md_jn (N : Nat) (a : Int) (x : Int) (b : Int) (y : Int) (c : Int) : Option (V × H) := (mr_jn5 N (ce_jn5_0 N) N a x b y c (IntKind.i64.wrap (x + y)) (IntKind.i64.wrap (Int.tdiv (IntKind.i64.wrap ((IntKind.i64.wrap (a + b)) - c)) 2)) 0 0)
theorem mdl_jn (N : Nat) (a : Int) (x : Int) (b : Int) (y : Int) (c : Int) : run ty tab_jn an_jn N Try.f91 [.int .i64 a, .int .i64 x, .int .i64 b, .int .i64 y, .int .i64 c] [] = md_jn N a x b y c := by
  rw [run_jn]
  unfold md_jn
  first | simp only [H_jn5 N N] | rfl

end
theorem tjs : o3 (md_jn 60 3 1 4 2 5) = some (-1, 1, 35) := by kernel_rfl
end Go.Proofs.Ytbhfjdlhhjeknaa.Ab

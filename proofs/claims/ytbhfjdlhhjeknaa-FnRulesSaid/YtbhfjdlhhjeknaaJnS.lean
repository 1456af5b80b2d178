/- Rows of shares. Only lemmas. Printed by gen_join3.py. -/
import Derived.Test.YtbhfjdlhhjeknaaJnL
namespace Go.Proofs.Ytbhfjdlhhjeknaa.Ab
set_option linter.unusedVariables false
set_option linter.unusedSimpArgs false
open Go
def srowS (a x b : Int) : Bool := turnW a x && totS a 2 b
def an_srS : Ann := ⟨fun r => if r = 6 then some ([0, 1, 2, 9, 10, 11], [9, 10]) else none, fun _ _ => .quiet⟩
def tab_srS : Fns := tabT [(108, gT gturnW), (109, gT gtotS), (110, gT gpartW), (91, gJn)]
theorem tabok_srS : ∀ f, FnT Try.prog f (tab_srS f) := (tabT_cons (k := 108) ok_l03Turn (tabT_cons (k := 109) ok_l03Total (tabT_cons (k := 110) ok_l03Part (tabT_cons (k := 91) ok_jn tabT_nil))))
def st_srS6 (t0 : Int) (t1 : Int) (t2 : Int) (t9n : Nat) (t11 : Int) (l0 : List Int) (l1 : List Int) : St := ⟨[.int .i64 t0, .int .i64 t1, .int .i64 t2, .any, .any, .any, .any, .any, .any, .sl 0 0 t9n, .sl 1 0 t9n, .int .i64 t11, .any, .any, .any, .any, .any, .any, .any, .any, .any, .any, .any, .any, .any, .any, .any, .any, .any, .any, .any, .any, .any, .any, .any, .any, .any, .any, .any, .any, .any, .any, .any, .any, .any, .any, .any, .any, .any, .any, .any, .any, .any, .any, .any, .any, .any, .any, .any, .any, .any, .any, .any, .any, .any, .any], [.at true (.int .i64 l0), .at true (.int .i64 l1)]⟩
abbrev kp_srS6 : Option (List Nat × List Nat) := some ([0, 1, 2, 9, 10, 11], [9, 10])
noncomputable def lp_srS6 {R : Type} (N M : Nat) (s : St) (K : X → St → Option R) : Option R := loopH 0 kp_srS6 (fun st K => exec ty tab_srS an_srS N 0 (atOf [true, true, true, true, false, true, false, false] Try.f46) st K) M s K
noncomputable def bk_srS6 {R : Type} (N M : Nat) (K : X → St → Option R) : X → St → Option R := fun x st => match x with | .norm => tidyK 0 (kp_srS6.map (·.1)) st fun st => lp_srS6 N M st K | x => tidyK 0 (kp_srS6.map (·.2)) st fun st => K x st
noncomputable def kt_srS6 {R : Type} (N : Nat) (K : X → St → Option R) : X → St → Option R := kBlkR 0 (kSeqR tab_srS an_srS N 0 (atOf [true, true, true, true, true] Try.f46) (K))
def en_srS6_0 (t9n : Nat) (l0 : List Int) (l1 : List Int) : St := ⟨[.any, .any, .any, .any, .any, .any, .any, .any, .any, .sl 0 0 t9n, .sl 1 0 t9n, .any, .any, .any, .any, .any, .any, .any, .any, .any, .any, .any, .any, .any, .any, .any, .any, .any, .any, .any, .any, .any, .any, .any, .any, .any, .any, .any, .any, .any, .any, .any, .any, .any, .any, .any, .any, .any, .any, .any, .any, .any, .any, .any, .any, .any, .any, .any, .any, .any, .any, .any, .any, .any, .any, .any], [.at true (.int .i64 l0), .at true (.int .i64 l1)]⟩
theorem run_srS (N : Nat) (a : Int) (x : Int) (b : Int) : run ty tab_srS an_srS N Try.f46 [.int .i64 a, .int .i64 x, .int .i64 b] []
    = (match !(turnW a x) with
  | true => some (.tup [.a (.nil), .a (.nil), .a (.bool false)], [])
  | false => (match !(totS a 2 b) with
    | true => some (.tup [.a (.nil), .a (.nil), .a (.bool false)], [])
    | false => lp_srS6 N N (st_srS6 a x b 0 (IntKind.i64.wrap (x - 2)) [] []) (kt_srS6 N (kEnd Try.f46 0)))) := by
  kernel_rfl
theorem step_srS6 {R : Type} (N M : Nat) (K : X → St → Option R) (t0 : Int) (t1 : Int) (t2 : Int) (t9n : Nat) (t11 : Int) (l0 : List Int) (l1 : List Int) : lp_srS6 N (M + 1) (st_srS6 t0 t1 t2 t9n t11 l0 l1) K
    = (match decide ((t11 : Int) ≤ (IntKind.i64.wrap (t1 + 2))) with
  | true => (match !(partW t2 t11) with
    | true => (match apok true t9n 1 l0.length 1 (t9n + 1) 8 with
      | true => (match apok true t9n 1 l1.length 1 (t9n + 1) 8 with
        | true => lp_srS6 N M (st_srS6 t0 t1 t2 (t9n + 1) (IntKind.i64.wrap (t11 + 2)) (l0 ++ [0]) (l1 ++ [1])) K
        | false => none)
      | false => none)
    | false => (match canJ t0 t1 2 (IntKind.i64.wrap (t11 - t1)) t2 with
      | true => (match apok true t9n 1 l0.length 1 (t9n + 1) 8 with
        | true => (match apok true t9n 1 l1.length 1 (t9n + 1) 8 with
          | true => lp_srS6 N M (st_srS6 t0 t1 t2 (t9n + 1) (IntKind.i64.wrap (t11 + 2)) (l0 ++ [(jV t0 t1 2 (IntKind.i64.wrap (t11 - t1)) t2).2.1]) (l1 ++ [(jV t0 t1 2 (IntKind.i64.wrap (t11 - t1)) t2).2.2])) K
          | false => none)
        | false => none)
      | false => none))
  | false => K (.exit 0) (en_srS6_0 t9n l0 l1)) := by
  kernel_rfl
theorem end_srS6_0 (N : Nat) (t9n : Nat) (l0 : List Int) (l1 : List Int) : kt_srS6 N (kEnd Try.f46 0) (.exit 0) (en_srS6_0 t9n l0 l1)
    = some (.tup [.a (.sl 0 0 t9n), .a (.sl 1 0 t9n), .a (.bool true)], [.at true (.int .i64 l0), .at true (.int .i64 l1)]) := by
  kernel_rfl

noncomputable def ce_srS6_0 (N : Nat) (t9n : Nat) (l0 : List Int) (l1 : List Int) : Option (V × H) := some (.tup [.a (.sl 0 0 t9n), .a (.sl 1 0 t9n), .a (.bool true)], [.at true (.int .i64 l0), .at true (.int .i64 l1)])
noncomputable def mr_srS6 (N : Nat) (k0 : Nat → List Int → List Int → Option (V × H)) (M : Nat) : Int → Int → Int → Nat → Int → List Int → List Int → Option (V × H) := Nat.rec (motive := fun _ => Int → Int → Int → Nat → Int → List Int → List Int → Option (V × H)) (fun (_ : Int) (_ : Int) (_ : Int) (_ : Nat) (_ : Int) (_ : List Int) (_ : List Int) => none) (fun _ rq => fun (t0 : Int) (t1 : Int) (t2 : Int) (t9n : Nat) (t11 : Int) (l0 : List Int) (l1 : List Int) => (match decide ((t11 : Int) ≤ (IntKind.i64.wrap (t1 + 2))) with
  | true => (match !(partW t2 t11) with
    | true => (match apok true t9n 1 l0.length 1 (t9n + 1) 8 with
      | true => (match apok true t9n 1 l1.length 1 (t9n + 1) 8 with
        | true => (rq t0 t1 t2 (t9n + 1) (IntKind.i64.wrap (t11 + 2)) (l0 ++ [0]) (l1 ++ [1]))
        | false => none)
      | false => none)
    | false => (match canJ t0 t1 2 (IntKind.i64.wrap (t11 - t1)) t2 with
      | true => (match apok true t9n 1 l0.length 1 (t9n + 1) 8 with
        | true => (match apok true t9n 1 l1.length 1 (t9n + 1) 8 with
          | true => (rq t0 t1 t2 (t9n + 1) (IntKind.i64.wrap (t11 + 2)) (l0 ++ [(jV t0 t1 2 (IntKind.i64.wrap (t11 - t1)) t2).2.1]) (l1 ++ [(jV t0 t1 2 (IntKind.i64.wrap (t11 - t1)) t2).2.2]))
          | false => none)
        | false => none)
      | false => none))
  | false => (k0 t9n l0 l1))) M
theorem mrs_srS6 (N : Nat) (k0 : Nat → List Int → List Int → Option (V × H)) (M : Nat) (t0 : Int) (t1 : Int) (t2 : Int) (t9n : Nat) (t11 : Int) (l0 : List Int) (l1 : List Int) : mr_srS6 N k0 (M + 1) t0 t1 t2 t9n t11 l0 l1 = (match decide ((t11 : Int) ≤ (IntKind.i64.wrap (t1 + 2))) with
  | true => (match !(partW t2 t11) with
    | true => (match apok true t9n 1 l0.length 1 (t9n + 1) 8 with
      | true => (match apok true t9n 1 l1.length 1 (t9n + 1) 8 with
        | true => (mr_srS6 N k0 M t0 t1 t2 (t9n + 1) (IntKind.i64.wrap (t11 + 2)) (l0 ++ [0]) (l1 ++ [1]))
        | false => none)
      | false => none)
    | false => (match canJ t0 t1 2 (IntKind.i64.wrap (t11 - t1)) t2 with
      | true => (match apok true t9n 1 l0.length 1 (t9n + 1) 8 with
        | true => (match apok true t9n 1 l1.length 1 (t9n + 1) 8 with
          | true => (mr_srS6 N k0 M t0 t1 t2 (t9n + 1) (IntKind.i64.wrap (t11 + 2)) (l0 ++ [(jV t0 t1 2 (IntKind.i64.wrap (t11 - t1)) t2).2.1]) (l1 ++ [(jV t0 t1 2 (IntKind.i64.wrap (t11 - t1)) t2).2.2]))
          | false => none)
        | false => none)
      | false => none))
  | false => (k0 t9n l0 l1)) := by kernel_rfl
theorem H_srS6 (N : Nat) : ∀ (M : Nat) (t0 : Int) (t1 : Int) (t2 : Int) (t9n : Nat) (t11 : Int) (l0 : List Int) (l1 : List Int), lp_srS6 N M (st_srS6 t0 t1 t2 t9n t11 l0 l1) (kt_srS6 N (kEnd Try.f46 0)) = mr_srS6 N (ce_srS6_0 N) M t0 t1 t2 t9n t11 l0 l1 := by
  have he0 : ∀ (t9n : Nat) (l0 : List Int) (l1 : List Int), kt_srS6 N (kEnd Try.f46 0) (.exit 0) (en_srS6_0 t9n l0 l1) = ce_srS6_0 N t9n l0 l1 := by
    intro t9n l0 l1
    rw [end_srS6_0]
    unfold ce_srS6_0
    first | simp only [] | rfl
  intro M
  induction M with
  | zero => intros; rfl
  | succ M ih =>
    intro t0 t1 t2 t9n t11 l0 l1
    rw [step_srS6]
    rw [mrs_srS6]
    first | simp only [ih, he0] | rfl
noncomputable def md_srS (N : Nat) (a : Int) (x : Int) (b : Int) : Option (V × H) := (match !(turnW a x) with
  | true => some (.tup [.a (.nil), .a (.nil), .a (.bool false)], [])
  | false => (match !(totS a 2 b) with
    | true => some (.tup [.a (.nil), .a (.nil), .a (.bool false)], [])
    | false => (mr_srS6 N (ce_srS6_0 N) N a x b 0 (IntKind.i64.wrap (x - 2)) [] [])))
theorem mdl_srS (N : Nat) (a : Int) (x : Int) (b : Int) : run ty tab_srS an_srS N Try.f46 [.int .i64 a, .int .i64 x, .int .i64 b] [] = md_srS N a x b := by
  rw [run_srS]
  unfold md_srS
  first | simp only [H_srS6 N N] | rfl

def an_srI : Ann := ⟨fun r => if r = 5 then some ([0, 1, 2, 9, 10, 11], [6, 7, 8, 9, 10]) else none, fun _ _ => .quiet⟩
def tab_srI : Fns := tabT [(92, gT gturnW), (93, gT gtotI), (94, gT gpartW), (95, gJs)]
theorem tabok_srI : ∀ f, FnT Try.prog f (tab_srI f) := (tabT_cons (k := 92) ok_IsTurnI (tabT_cons (k := 93) ok_isTotal (tabT_cons (k := 94) ok_isPart (tabT_cons (k := 95) ok_js tabT_nil))))
def st_srI5 (t0 : Int) (t1 : Int) (t2 : Int) (t9n : Nat) (t11 : Int) (l0 : List Int) (l1 : List Int) : St := ⟨[.int .i64 t0, .int .i64 t1, .int .i64 t2, .any, .any, .any, .any, .any, .any, .sl 0 0 t9n, .sl 1 0 t9n, .int .i64 t11, .any, .any, .any, .any, .any, .any, .any, .any, .any, .any, .any, .any, .any, .any, .any, .any, .any, .any, .any, .any, .any, .any, .any, .any, .any, .any, .any, .any, .any, .any, .any, .any, .any, .any, .any, .any, .any, .any, .any, .any, .any, .any, .any, .any, .any, .any, .any, .any, .any, .any, .any, .any, .any, .any, .any], [.at true (.int .i64 l0), .at true (.int .i64 l1)]⟩
abbrev kp_srI5 : Option (List Nat × List Nat) := some ([0, 1, 2, 9, 10, 11], [6, 7, 8, 9, 10])
noncomputable def lp_srI5 {R : Type} (N M : Nat) (s : St) (K : X → St → Option R) : Option R := loopH 0 kp_srI5 (fun st K => exec ty tab_srI an_srI N 0 (atOf [true, true, true, false, true, false, false] Try.f47) st K) M s K
noncomputable def bk_srI5 {R : Type} (N M : Nat) (K : X → St → Option R) : X → St → Option R := fun x st => match x with | .norm => tidyK 0 (kp_srI5.map (·.1)) st fun st => lp_srI5 N M st K | x => tidyK 0 (kp_srI5.map (·.2)) st fun st => K x st
noncomputable def kt_srI5 {R : Type} (N : Nat) (K : X → St → Option R) : X → St → Option R := kBlkR 0 (kSeqR tab_srI an_srI N 0 (atOf [true, true, true, true] Try.f47) (K))
def en_srI5_0 (t9n : Nat) (l0 : List Int) (l1 : List Int) : St := ⟨[.any, .any, .any, .any, .any, .any, .any, .any, .any, .sl 0 0 t9n, .sl 1 0 t9n, .any, .any, .any, .any, .any, .any, .any, .any, .any, .any, .any, .any, .any, .any, .any, .any, .any, .any, .any, .any, .any, .any, .any, .any, .any, .any, .any, .any, .any, .any, .any, .any, .any, .any, .any, .any, .any, .any, .any, .any, .any, .any, .any, .any, .any, .any, .any, .any, .any, .any, .any, .any, .any, .any, .any, .any], [.at true (.int .i64 l0), .at true (.int .i64 l1)]⟩
theorem run_srI (N : Nat) (a : Int) (x : Int) (b : Int) : run ty tab_srI an_srI N Try.f47 [.int .i64 a, .int .i64 x, .int .i64 b] []
    = (match !(turnW a x) with
  | true => some (.tup [.a (.nil), .a (.nil), .a (.bool false)], [])
  | false => (match !(totI a 2 b) with
    | true => some (.tup [.a (.nil), .a (.nil), .a (.bool false)], [])
    | false => lp_srI5 N N (st_srI5 a x b 0 (IntKind.i64.wrap (x - 2)) [] []) (kt_srI5 N (kEnd Try.f47 0)))) := by
  kernel_rfl
theorem step_srI5 {R : Type} (N M : Nat) (K : X → St → Option R) (t0 : Int) (t1 : Int) (t2 : Int) (t9n : Nat) (t11 : Int) (l0 : List Int) (l1 : List Int) : lp_srI5 N (M + 1) (st_srI5 t0 t1 t2 t9n t11 l0 l1) K
    = (match decide ((t11 : Int) ≤ (IntKind.i64.wrap (t1 + 2))) with
  | true => (match partW t2 t11 with
    | true => (match canJ t0 t1 2 (IntKind.i64.wrap (t11 - t1)) t2 with
      | true => (match apok true t9n 1 l0.length 1 (t9n + 1) 8 with
        | true => (match apok true t9n 1 l1.length 1 (t9n + 1) 8 with
          | true => lp_srI5 N M (st_srI5 t0 t1 t2 (t9n + 1) (IntKind.i64.wrap (t11 + 2)) (l0 ++ [(jV t0 t1 2 (IntKind.i64.wrap (t11 - t1)) t2).2.1]) (l1 ++ [(jV t0 t1 2 (IntKind.i64.wrap (t11 - t1)) t2).2.2])) K
          | false => none)
        | false => none)
      | false => none)
    | false => (match apok true t9n 1 l0.length 1 (t9n + 1) 8 with
      | true => (match apok true t9n 1 l1.length 1 (t9n + 1) 8 with
        | true => lp_srI5 N M (st_srI5 t0 t1 t2 (t9n + 1) (IntKind.i64.wrap (t11 + 2)) (l0 ++ [0]) (l1 ++ [1])) K
        | false => none)
      | false => none))
  | false => K (.exit 0) (en_srI5_0 t9n l0 l1)) := by
  kernel_rfl
theorem end_srI5_0 (N : Nat) (t9n : Nat) (l0 : List Int) (l1 : List Int) : kt_srI5 N (kEnd Try.f47 0) (.exit 0) (en_srI5_0 t9n l0 l1)
    = some (.tup [.a (.sl 0 0 t9n), .a (.sl 1 0 t9n), .a (.bool true)], [.at true (.int .i64 l0), .at true (.int .i64 l1)]) := by
  kernel_rfl

noncomputable def ce_srI5_0 (N : Nat) (t9n : Nat) (l0 : List Int) (l1 : List Int) : Option (V × H) := some (.tup [.a (.sl 0 0 t9n), .a (.sl 1 0 t9n), .a (.bool true)], [.at true (.int .i64 l0), .at true (.int .i64 l1)])
noncomputable def mr_srI5 (N : Nat) (k0 : Nat → List Int → List Int → Option (V × H)) (M : Nat) : Int → Int → Int → Nat → Int → List Int → List Int → Option (V × H) := Nat.rec (motive := fun _ => Int → Int → Int → Nat → Int → List Int → List Int → Option (V × H)) (fun (_ : Int) (_ : Int) (_ : Int) (_ : Nat) (_ : Int) (_ : List Int) (_ : List Int) => none) (fun _ rq => fun (t0 : Int) (t1 : Int) (t2 : Int) (t9n : Nat) (t11 : Int) (l0 : List Int) (l1 : List Int) => (match decide ((t11 : Int) ≤ (IntKind.i64.wrap (t1 + 2))) with
  | true => (match partW t2 t11 with
    | true => (match canJ t0 t1 2 (IntKind.i64.wrap (t11 - t1)) t2 with
      | true => (match apok true t9n 1 l0.length 1 (t9n + 1) 8 with
        | true => (match apok true t9n 1 l1.length 1 (t9n + 1) 8 with
          | true => (rq t0 t1 t2 (t9n + 1) (IntKind.i64.wrap (t11 + 2)) (l0 ++ [(jV t0 t1 2 (IntKind.i64.wrap (t11 - t1)) t2).2.1]) (l1 ++ [(jV t0 t1 2 (IntKind.i64.wrap (t11 - t1)) t2).2.2]))
          | false => none)
        | false => none)
      | false => none)
    | false => (match apok true t9n 1 l0.length 1 (t9n + 1) 8 with
      | true => (match apok true t9n 1 l1.length 1 (t9n + 1) 8 with
        | true => (rq t0 t1 t2 (t9n + 1) (IntKind.i64.wrap (t11 + 2)) (l0 ++ [0]) (l1 ++ [1]))
        | false => none)
      | false => none))
  | false => (k0 t9n l0 l1))) M
theorem mrs_srI5 (N : Nat) (k0 : Nat → List Int → List Int → Option (V × H)) (M : Nat) (t0 : Int) (t1 : Int) (t2 : Int) (t9n : Nat) (t11 : Int) (l0 : List Int) (l1 : List Int) : mr_srI5 N k0 (M + 1) t0 t1 t2 t9n t11 l0 l1 = (match decide ((t11 : Int) ≤ (IntKind.i64.wrap (t1 + 2))) with
  | true => (match partW t2 t11 with
    | true => (match canJ t0 t1 2 (IntKind.i64.wrap (t11 - t1)) t2 with
      | true => (match apok true t9n 1 l0.length 1 (t9n + 1) 8 with
        | true => (match apok true t9n 1 l1.length 1 (t9n + 1) 8 with
          | true => (mr_srI5 N k0 M t0 t1 t2 (t9n + 1) (IntKind.i64.wrap (t11 + 2)) (l0 ++ [(jV t0 t1 2 (IntKind.i64.wrap (t11 - t1)) t2).2.1]) (l1 ++ [(jV t0 t1 2 (IntKind.i64.wrap (t11 - t1)) t2).2.2]))
          | false => none)
        | false => none)
      | false => none)
    | false => (match apok true t9n 1 l0.length 1 (t9n + 1) 8 with
      | true => (match apok true t9n 1 l1.length 1 (t9n + 1) 8 with
        | true => (mr_srI5 N k0 M t0 t1 t2 (t9n + 1) (IntKind.i64.wrap (t11 + 2)) (l0 ++ [0]) (l1 ++ [1]))
        | false => none)
      | false => none))
  | false => (k0 t9n l0 l1)) := by kernel_rfl
theorem H_srI5 (N : Nat) : ∀ (M : Nat) (t0 : Int) (t1 : Int) (t2 : Int) (t9n : Nat) (t11 : Int) (l0 : List Int) (l1 : List Int), lp_srI5 N M (st_srI5 t0 t1 t2 t9n t11 l0 l1) (kt_srI5 N (kEnd Try.f47 0)) = mr_srI5 N (ce_srI5_0 N) M t0 t1 t2 t9n t11 l0 l1 := by
  have he0 : ∀ (t9n : Nat) (l0 : List Int) (l1 : List Int), kt_srI5 N (kEnd Try.f47 0) (.exit 0) (en_srI5_0 t9n l0 l1) = ce_srI5_0 N t9n l0 l1 := by
    intro t9n l0 l1
    rw [end_srI5_0]
    unfold ce_srI5_0
    first | simp only [] | rfl
  intro M
  induction M with
  | zero => intros; rfl
  | succ M ih =>
    intro t0 t1 t2 t9n t11 l0 l1
    rw [step_srI5]
    rw [mrs_srI5]
    first | simp only [ih, he0] | rfl
noncomputable def md_srI (N : Nat) (a : Int) (x : Int) (b : Int) : Option (V × H) := (match !(turnW a x) with
  | true => some (.tup [.a (.nil), .a (.nil), .a (.bool false)], [])
  | false => (match !(totI a 2 b) with
    | true => some (.tup [.a (.nil), .a (.nil), .a (.bool false)], [])
    | false => (mr_srI5 N (ce_srI5_0 N) N a x b 0 (IntKind.i64.wrap (x - 2)) [] [])))
theorem mdl_srI (N : Nat) (a : Int) (x : Int) (b : Int) : run ty tab_srI an_srI N Try.f47 [.int .i64 a, .int .i64 x, .int .i64 b] [] = md_srI N a x b := by
  rw [run_srI]
  unfold md_srI
  first | simp only [H_srI5 N N] | rfl

def oR2 : Option (V × H) → Option (List Int × List Int)
  | some (.tup [.a (.sl 0 0 n0), .a (.sl 1 0 n1), .a (.bool true)], [.at true (.int .i64 l0), .at true (.int .i64 l1)]) => match decide (n0 = l0.length ∧ n1 = l1.length) with | true => some (l0, l1) | false => none
  | _ => none
theorem oR2_inv {o : Option (V × H)} {l0 l1 : List Int} (h : oR2 o = some (l0, l1)) : o = some (.tup [.a (.sl 0 0 l0.length), .a (.sl 1 0 l1.length), .a (.bool true)], [.at true (.int .i64 l0), .at true (.int .i64 l1)]) := by
  unfold oR2 at h
  split at h
  · split at h
    · rename_i hd
      obtain ⟨rfl, rfl⟩ := of_decide_eq_true hd
      cases h
      rfl
    · cases h
  · cases h
def eR2 : Option (List Int × List Int) → Option (List Int × List Int) → Bool
  | some (l0, l1), some (m0, m1) => (decide (l0 = m0) && decide (l0.length < 100)) && (decide (l1 = m1) && decide (l1.length < 100))
  | _, _ => false
theorem eR2_inv {o o' : Option (List Int × List Int)} (h : eR2 o o' = true) : ∃ l0 l1, o = some (l0, l1) ∧ o' = some (l0, l1) ∧ l0.length < 100 ∧ l1.length < 100 := by
  unfold eR2 at h
  split at h
  · simp only [Bool.and_eq_true, decide_eq_true_eq] at h
    obtain ⟨⟨rfl, a⟩, ⟨rfl, b⟩⟩ := h
    exact ⟨_, _, rfl, rfl, a, b⟩
  · cases h
noncomputable def srDC (A i m : Nat) : Bool := match decide (m ≤ A) with | true => eR2 (oR2 (md_srS 20 ((A : Int)) ((A : Int) - 2 * (i : Int)) ((A : Int) + 2 - 2 * (m : Int)))) (oR2 (md_srI 20 ((A : Int)) ((A : Int) - 2 * (i : Int)) ((A : Int) + 2 - 2 * (m : Int)))) | false => true
noncomputable def srDA (A : Nat) : Bool := (List.range (A + 1)).all fun i => (List.range (2 + 1)).all fun m => srDC A i m
theorem srDA_0 : srDA 0 = true := by kernel_rfl
theorem srDA_1 : srDA 1 = true := by kernel_rfl
theorem srDA_2 : srDA 2 = true := by kernel_rfl
theorem srDA_3 : srDA 3 = true := by kernel_rfl
theorem srDA_4 : srDA 4 = true := by kernel_rfl
theorem srDA_5 : srDA 5 = true := by kernel_rfl
theorem srDA_6 : srDA 6 = true := by kernel_rfl
theorem srDA_all {a : Nat} (ha : a ≤ 6) : srDA a = true := by
  have : a = 0 ∨ a = 1 ∨ a = 2 ∨ a = 3 ∨ a = 4 ∨ a = 5 ∨ a = 6 := by omega
  rcases this with rfl | rfl | rfl | rfl | rfl | rfl | rfl
  · exact srDA_0
  · exact srDA_1
  · exact srDA_2
  · exact srDA_3
  · exact srDA_4
  · exact srDA_5
  · exact srDA_6
noncomputable def srD (a x b : Int) : List Int × List Int := (oR2 (md_srS 20 a x b)).getD ([], [])
theorem srD_ok {a x b : Int} (h : srowS a x b = true) : md_srS 20 a x b = some (.tup [.a (.sl 0 0 (srD a x b).1.length), .a (.sl 1 0 (srD a x b).2.length), .a (.bool true)], [.at true (.int .i64 (srD a x b).1), .at true (.int .i64 (srD a x b).2)]) ∧ md_srI 20 a x b = some (.tup [.a (.sl 0 0 (srD a x b).1.length), .a (.sl 1 0 (srD a x b).2.length), .a (.bool true)], [.at true (.int .i64 (srD a x b).1), .at true (.int .i64 (srD a x b).2)]) ∧ (srD a x b).1.length < 100 ∧ (srD a x b).2.length < 100 := by
  unfold srowS at h
  rw [Bool.and_eq_true] at h
  obtain ⟨h1, h3⟩ := h
  have g1 := turnW_iff.mp h1
  have g3 := (totS_iff g1.1 (by omega)).mp h3
  unfold TotP at g3
  obtain ⟨A, rfl⟩ : ∃ A : Nat, a = (A : Int) := ⟨a.toNat, by omega⟩
  obtain ⟨m, hm⟩ : ∃ m : Nat, ((A : Int) + 2 - b) / 2 = (m : Int) := ⟨(((A : Int) + 2 - b) / 2).toNat, by omega⟩
  have hb : b = (A : Int) + 2 - 2 * (m : Int) := by omega
  obtain ⟨i, hi⟩ : ∃ i : Nat, ((A : Int) - x) / 2 = (i : Int) := ⟨(((A : Int) - x) / 2).toNat, by omega⟩
  have hx : x = (A : Int) - 2 * (i : Int) := by omega
  have hr0 := List.all_eq_true.mp (List.all_eq_true.mp (srDA_all (a := A) (by omega)) i (List.mem_range.mpr (by omega))) m (List.mem_range.mpr (by omega))
  unfold srDC at hr0
  rw [decide_eq_true (show m ≤ A by omega)] at hr0
  have hr : eR2 (oR2 (md_srS 20 (A : Int) ((A : Int) - 2 * (i : Int)) ((A : Int) + 2 - 2 * (m : Int)))) (oR2 (md_srI 20 (A : Int) ((A : Int) - 2 * (i : Int)) ((A : Int) + 2 - 2 * (m : Int)))) = true := hr0
  rw [← hx, ← hb] at hr
  obtain ⟨l0, l1, e1, e2, e3⟩ := eR2_inv hr
  unfold srD
  rw [e1]
  exact ⟨oR2_inv e1, oR2_inv e2, e3⟩
noncomputable def gSr : GT := fun vs h => match vs, h with | [.int .i64 a, .int .i64 x, .int .i64 b], [] => .ite (srowS a x b) (.ret (.tup [.a (.sl 0 0 (srD a x b).1.length), .a (.sl 1 0 (srD a x b).2.length), .a (.bool true)]) [.at true (.int .i64 (srD a x b).1), .at true (.int .i64 (srD a x b).2)]) (.ret (.tup [.a .nil, .a .nil, .a (.bool false)]) []) | _, _ => .no
theorem ok_srS : FnT Try.prog 46 gSr := by
  refine fnT tabok_srS Try.func46 rfl rfl an_srS fun vs h v h' e => ⟨20, ?_⟩
  unfold gSr at e
  split at e
  case h_2 => exact (T.no_inv e).elim
  rename_i a x b
  refine Eq.trans ?_ e
  show _ = T.k _ _
  simp only [T.k]
  refine Eq.trans (mdl_srS 20 a x b) ?_
  cases hs : srowS a x b with
  | true => exact (srD_ok hs).1
  | false =>
    unfold srowS at hs
    unfold md_srS
    cases h1 : turnW a x
    · rfl
    · cases h3 : totS a 2 b
      · rfl
      · rw [h1, h3] at hs
        cases hs
theorem ok_srI : FnT Try.prog 47 gSr := by
  refine fnT tabok_srI Try.func47 rfl rfl an_srI fun vs h v h' e => ⟨20, ?_⟩
  unfold gSr at e
  split at e
  case h_2 => exact (T.no_inv e).elim
  rename_i a x b
  refine Eq.trans ?_ e
  show _ = T.k _ _
  simp only [T.k]
  refine Eq.trans (mdl_srI 20 a x b) ?_
  cases hs : srowS a x b with
  | true => exact (srD_ok hs).2.1
  | false =>
    unfold srowS at hs
    unfold md_srI
    cases h1 : turnW a x
    · rfl
    · rw [totI_S (turnW_iff.mp h1).1 (by omega)]
      cases h3 : totS a 2 b
      · rfl
      · rw [h1, h3] at hs
        cases hs
noncomputable section
def tab_lawShareRow : Fns := tabT [(46, gSr), (47, gSr), (48, gEqI), (49, gMarkI), (50, gHeldI)]
theorem tabok_lawShareRow : ∀ f, FnT Try.prog f (tab_lawShareRow f) := (tabT_cons (k := 46) ok_srS (tabT_cons (k := 47) ok_srI (tabT_cons (k := 48) ok_eqI (tabT_cons (k := 49) ok_markI (tabT_cons (k := 50) ok_heldI tabT_nil)))))
theorem run_lawShareRow (N : Nat) (a : Int) (x : Int) (b : Int) : run ty tab_lawShareRow ann0 N Try.f8 [.int .i64 a, .int .i64 x, .int .i64 b] []
    = (match srowS a x b with
  | true => (match srowS a x b with
    | true => (match decide (((srD a x b).1).length = (srD a x b).1.length ∧ ((srD a x b).1).length = (srD a x b).1.length ∧ (srD a x b).1.length < 2147483648 ∧ (srD a x b).1.length < 2147483648) with
      | true => (match !(eqIB ((srD a x b).1) ((srD a x b).1)) with
        | true => some (.bool false, [])
        | false => (match decide (((srD a x b).2).length = (srD a x b).2.length ∧ ((srD a x b).2).length = (srD a x b).2.length ∧ (srD a x b).2.length < 2147483648 ∧ (srD a x b).2.length < 2147483648) with
          | true => (match !(eqIB ((srD a x b).2) ((srD a x b).2)) with
            | true => some (.bool false, [])
            | false => (match decide (((srD a x b).1).length = (srD a x b).1.length ∧ (srD a x b).1.length < 2147483648 ∧ 0 ≤ (1 : Int) ∧ (1 : Int) < 2147483648) with
              | true => (match decide (((srD a x b).2).length = (srD a x b).2.length ∧ (srD a x b).2.length < 2147483648 ∧ 0 ≤ (1 + ((srD a x b).1.length : Int) : Int) ∧ (1 + ((srD a x b).1.length : Int) : Int) < 2147483648) with
                | true => (match decide (marksI 1 ((srD a x b).1.length) = marksI 1 ((srD a x b).1.length) ∧ (srD a x b).1.length < 2147483648 ∧ 0 ≤ (1 : Int) ∧ (1 : Int) < 2147483648) with
                  | true => (match decide ((1 + ((srD a x b).1.length : Int) : Int) < 0) with
                    | true => some (.bool false, [])
                    | false => (match decide (marksI (1 + ((srD a x b).1.length : Int)) ((srD a x b).2.length) = marksI (1 + ((srD a x b).1.length : Int)) ((srD a x b).2.length) ∧ (srD a x b).2.length < 2147483648 ∧ 0 ≤ (1 + ((srD a x b).1.length : Int) : Int) ∧ (1 + ((srD a x b).1.length : Int) : Int) < 2147483648) with
                      | true => (match decide (((1 + ((srD a x b).1.length : Int)) + ((srD a x b).2.length : Int) : Int) < 0) with
                        | true => some (.bool false, [])
                        | false => (match ((1 + ((srD a x b).1.length : Int)) + ((srD a x b).2.length : Int)) != ((1 + ((srD a x b).1.length : Int)) + ((srD a x b).2.length : Int)) with
                          | true => some (.bool false, [])
                          | false => (match srowS a x b with
                            | true => (match decide (((srD a x b).1).length = (srD a x b).1.length ∧ ((srD a x b).1).length = (srD a x b).1.length ∧ (srD a x b).1.length < 2147483648 ∧ (srD a x b).1.length < 2147483648) with
                              | true => (match !(eqIB ((srD a x b).1) ((srD a x b).1)) with
                                | true => some (.bool false, [])
                                | false => (match decide (((srD a x b).2).length = (srD a x b).2.length ∧ ((srD a x b).2).length = (srD a x b).2.length ∧ (srD a x b).2.length < 2147483648 ∧ (srD a x b).2.length < 2147483648) with
                                  | true => (match !(eqIB ((srD a x b).2) ((srD a x b).2)) with
                                    | true => some (.bool false, [])
                                    | false => (match decide (marksI 1 ((srD a x b).1.length) = marksI 1 ((srD a x b).1.length) ∧ (srD a x b).1.length < 2147483648 ∧ 0 ≤ (1 : Int) ∧ (1 : Int) < 2147483648) with
                                      | true => (match decide ((1 + ((srD a x b).1.length : Int) : Int) < 0) with
                                        | true => some (.bool false, [])
                                        | false => (match decide (marksI (1 + ((srD a x b).1.length : Int)) ((srD a x b).2.length) = marksI (1 + ((srD a x b).1.length : Int)) ((srD a x b).2.length) ∧ (srD a x b).2.length < 2147483648 ∧ 0 ≤ (1 + ((srD a x b).1.length : Int) : Int) ∧ (1 + ((srD a x b).1.length : Int) : Int) < 2147483648) with
                                          | true => (match decide (((1 + ((srD a x b).1.length : Int)) + ((srD a x b).2.length : Int) : Int) < 0) with
                                            | true => some (.bool false, [])
                                            | false => (match ((1 + ((srD a x b).1.length : Int)) + ((srD a x b).2.length : Int)) != ((1 + ((srD a x b).1.length : Int)) + ((srD a x b).2.length : Int)) with
                                              | true => some (.bool false, [])
                                              | false => some (.bool true, [])))
                                          | false => none))
                                      | false => none))
                                  | false => none))
                              | false => none)
                            | false => none)))
                      | false => none))
                  | false => none)
                | false => none)
              | false => none))
          | false => none))
      | false => none)
    | false => none)
  | false => (match srowS a x b with
    | true => none
    | false => (match srowS a x b with
      | true => none
      | false => some (.bool true, [])))) := by
  kernel_rfl

theorem ok_lawShareRow : FnOk Try.prog 8 (fun vs h => match vs, h with | [.int .i64 a, .int .i64 x, .int .i64 b], [] => some (.bool true, []) | _, _ => none) := by
  refine fnOk tabok_lawShareRow Try.func8 rfl rfl ann0 fun vs h v h' e => ⟨0, ?_⟩
  split at e
  case h_2 => cases e
  rename_i a x b
  cases e
  refine Eq.trans (run_lawShareRow 0 a x b) ?_
  cases hc1 : srowS a x b
  case false =>
    rfl
  case true =>
    have ghc1 := (srD_ok hc1).2.2
    have hc2 : (decide (((srD a x b).1).length = (srD a x b).1.length ∧ ((srD a x b).1).length = (srD a x b).1.length ∧ (srD a x b).1.length < 2147483648 ∧ (srD a x b).1.length < 2147483648)) = true := decide_eq_true (by first | omega | (simp [marksI] <;> omega))
    have hc3 : (!(eqIB ((srD a x b).1) ((srD a x b).1))) = false := by rw [eqIB_self]; rfl
    have hc4 : (decide (((srD a x b).2).length = (srD a x b).2.length ∧ ((srD a x b).2).length = (srD a x b).2.length ∧ (srD a x b).2.length < 2147483648 ∧ (srD a x b).2.length < 2147483648)) = true := decide_eq_true (by first | omega | (simp [marksI] <;> omega))
    have hc5 : (!(eqIB ((srD a x b).2) ((srD a x b).2))) = false := by rw [eqIB_self]; rfl
    have hc6 : (decide (((srD a x b).1).length = (srD a x b).1.length ∧ (srD a x b).1.length < 2147483648 ∧ 0 ≤ (1 : Int) ∧ (1 : Int) < 2147483648)) = true := decide_eq_true (by first | omega | (simp [marksI] <;> omega))
    have hc7 : (decide (((srD a x b).2).length = (srD a x b).2.length ∧ (srD a x b).2.length < 2147483648 ∧ 0 ≤ (1 + ((srD a x b).1.length : Int) : Int) ∧ (1 + ((srD a x b).1.length : Int) : Int) < 2147483648)) = true := decide_eq_true (by first | omega | (simp [marksI] <;> omega))
    have hc8 : (decide (marksI 1 ((srD a x b).1.length) = marksI 1 ((srD a x b).1.length) ∧ (srD a x b).1.length < 2147483648 ∧ 0 ≤ (1 : Int) ∧ (1 : Int) < 2147483648)) = true := decide_eq_true (by first | omega | (simp [marksI] <;> omega))
    have hc9 : (decide ((1 + ((srD a x b).1.length : Int) : Int) < 0)) = false := decide_eq_false (by first | omega | (simp [marksI] <;> omega))
    have hc10 : (decide (marksI (1 + ((srD a x b).1.length : Int)) ((srD a x b).2.length) = marksI (1 + ((srD a x b).1.length : Int)) ((srD a x b).2.length) ∧ (srD a x b).2.length < 2147483648 ∧ 0 ≤ (1 + ((srD a x b).1.length : Int) : Int) ∧ (1 + ((srD a x b).1.length : Int) : Int) < 2147483648)) = true := decide_eq_true (by first | omega | (simp [marksI] <;> omega))
    have hc11 : (decide (((1 + ((srD a x b).1.length : Int)) + ((srD a x b).2.length : Int) : Int) < 0)) = false := decide_eq_false (by first | omega | (simp [marksI] <;> omega))
    have hc12 : (((1 + ((srD a x b).1.length : Int)) + ((srD a x b).2.length : Int)) != ((1 + ((srD a x b).1.length : Int)) + ((srD a x b).2.length : Int))) = false := by first | rfl | simp [marksI]
    rw [hc2, hc3, hc4, hc5, hc6, hc7, hc8, hc9, hc10, hc11, hc12]
end
end Go.Proofs.Ytbhfjdlhhjeknaa.Ab

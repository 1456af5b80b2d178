/- Rows of joined turns. Only lemmas. Printed by gen_join3.py. -/
import Derived.Test.YtbhfjdlhhjeknaaJnL
namespace Go.Proofs.Ytbhfjdlhhjeknaa.Ab
set_option linter.unusedVariables false
set_option linter.unusedSimpArgs false
open Go
def rowS (a b c z : Int) : Bool := is6 a && (is6 b && (totS a b c && partW c z))
def srowS (a x b : Int) : Bool := turnW a x && totS a 2 b
def an_jrS : Ann := ⟨fun r => if r = 7 then some ([0, 1, 2, 3, 12, 13, 14, 15], [12, 13, 14]) else none, fun _ _ => .quiet⟩
def tab_jrS : Fns := tabT [(111, gT gis6), (109, gT gtotS), (110, gT gpartW), (91, gJn)]
theorem tabok_jrS : ∀ f, FnT Try.prog f (tab_jrS f) := (tabT_cons (k := 111) ok_l03Is (tabT_cons (k := 109) ok_l03Total (tabT_cons (k := 110) ok_l03Part (tabT_cons (k := 91) ok_jn tabT_nil))))
def st_jrS7 (t0 : Int) (t1 : Int) (t2 : Int) (t3 : Int) (t12n : Nat) (t15 : Int) (l0 : List Int) (l1 : List Int) (l2 : List Int) : St := ⟨[.int .i64 t0, .int .i64 t1, .int .i64 t2, .int .i64 t3, .any, .any, .any, .any, .any, .any, .any, .any, .sl 0 0 t12n, .sl 1 0 t12n, .sl 2 0 t12n, .int .i64 t15, .any, .any, .any, .any, .any, .any, .any, .any, .any, .any, .any, .any, .any, .any, .any, .any, .any, .any, .any, .any, .any, .any, .any, .any, .any, .any, .any, .any, .any, .any, .any, .any, .any, .any, .any, .any, .any, .any, .any, .any, .any, .any, .any, .any, .any, .any, .any, .any, .any, .any, .any, .any, .any, .any, .any, .any, .any, .any, .any, .any, .any, .any, .any, .any, .any, .any, .any], [.at true (.int .i64 l0), .at true (.int .i64 l1), .at true (.int .i64 l2)]⟩
abbrev kp_jrS7 : Option (List Nat × List Nat) := some ([0, 1, 2, 3, 12, 13, 14, 15], [12, 13, 14])
noncomputable def lp_jrS7 {R : Type} (N M : Nat) (s : St) (K : X → St → Option R) : Option R := loopH 0 kp_jrS7 (fun st K => exec ty tab_jrS an_jrS N 0 (atOf [true, true, true, true, true, false, true, false, false] Try.f51) st K) M s K
noncomputable def bk_jrS7 {R : Type} (N M : Nat) (K : X → St → Option R) : X → St → Option R := fun x st => match x with | .norm => tidyK 0 (kp_jrS7.map (·.1)) st fun st => lp_jrS7 N M st K | x => tidyK 0 (kp_jrS7.map (·.2)) st fun st => K x st
noncomputable def kt_jrS7 {R : Type} (N : Nat) (K : X → St → Option R) : X → St → Option R := kBlkR 0 (kSeqR tab_jrS an_jrS N 0 (atOf [true, true, true, true, true, true] Try.f51) (K))
def en_jrS7_0 (t12n : Nat) (l0 : List Int) (l1 : List Int) (l2 : List Int) : St := ⟨[.any, .any, .any, .any, .any, .any, .any, .any, .any, .any, .any, .any, .sl 0 0 t12n, .sl 1 0 t12n, .sl 2 0 t12n, .any, .any, .any, .any, .any, .any, .any, .any, .any, .any, .any, .any, .any, .any, .any, .any, .any, .any, .any, .any, .any, .any, .any, .any, .any, .any, .any, .any, .any, .any, .any, .any, .any, .any, .any, .any, .any, .any, .any, .any, .any, .any, .any, .any, .any, .any, .any, .any, .any, .any, .any, .any, .any, .any, .any, .any, .any, .any, .any, .any, .any, .any, .any, .any, .any, .any, .any, .any], [.at true (.int .i64 l0), .at true (.int .i64 l1), .at true (.int .i64 l2)]⟩
theorem run_jrS (N : Nat) (a : Int) (b : Int) (c : Int) (z : Int) : run ty tab_jrS an_jrS N Try.f51 [.int .i64 a, .int .i64 b, .int .i64 c, .int .i64 z] []
    = (match !(is6 a) with
  | true => some (.tup [.a (.nil), .a (.nil), .a (.nil), .a (.bool false)], [])
  | false => (match !(is6 b) with
    | true => some (.tup [.a (.nil), .a (.nil), .a (.nil), .a (.bool false)], [])
    | false => (match !(totS a b c) with
      | true => some (.tup [.a (.nil), .a (.nil), .a (.nil), .a (.bool false)], [])
      | false => (match !(partW c z) with
        | true => some (.tup [.a (.nil), .a (.nil), .a (.nil), .a (.bool false)], [])
        | false => lp_jrS7 N N (st_jrS7 a b c z 0 (IntKind.i64.wrap (0 - a)) [] [] []) (kt_jrS7 N (kEnd Try.f51 0)))))) := by
  kernel_rfl
theorem step_jrS7 {R : Type} (N M : Nat) (K : X → St → Option R) (t0 : Int) (t1 : Int) (t2 : Int) (t3 : Int) (t12n : Nat) (t15 : Int) (l0 : List Int) (l1 : List Int) (l2 : List Int) : lp_jrS7 N (M + 1) (st_jrS7 t0 t1 t2 t3 t12n t15 l0 l1 l2) K
    = (match decide ((t15 : Int) ≤ t0) with
  | true => (match !(partW t1 (IntKind.i64.wrap (t3 - t15))) with
    | true => lp_jrS7 N M (st_jrS7 t0 t1 t2 t3 t12n (IntKind.i64.wrap (t15 + 2)) l0 l1 l2) K
    | false => (match canJ t0 t15 t1 (IntKind.i64.wrap (t3 - t15)) t2 with
      | true => (match apok true t12n 1 l0.length 1 (t12n + 1) 8 with
        | true => (match apok true t12n 1 l1.length 1 (t12n + 1) 8 with
          | true => (match apok true t12n 1 l2.length 1 (t12n + 1) 8 with
            | true => lp_jrS7 N M (st_jrS7 t0 t1 t2 t3 (t12n + 1) (IntKind.i64.wrap (t15 + 2)) (l0 ++ [(jV t0 t15 t1 (IntKind.i64.wrap (t3 - t15)) t2).1]) (l1 ++ [(jV t0 t15 t1 (IntKind.i64.wrap (t3 - t15)) t2).2.1]) (l2 ++ [(jV t0 t15 t1 (IntKind.i64.wrap (t3 - t15)) t2).2.2])) K
            | false => none)
          | false => none)
        | false => none)
      | false => none))
  | false => K (.exit 0) (en_jrS7_0 t12n l0 l1 l2)) := by
  kernel_rfl
theorem end_jrS7_0 (N : Nat) (t12n : Nat) (l0 : List Int) (l1 : List Int) (l2 : List Int) : kt_jrS7 N (kEnd Try.f51 0) (.exit 0) (en_jrS7_0 t12n l0 l1 l2)
    = some (.tup [.a (.sl 0 0 t12n), .a (.sl 1 0 t12n), .a (.sl 2 0 t12n), .a (.bool true)], [.at true (.int .i64 l0), .at true (.int .i64 l1), .at true (.int .i64 l2)]) := by
  kernel_rfl

noncomputable def ce_jrS7_0 (N : Nat) (t12n : Nat) (l0 : List Int) (l1 : List Int) (l2 : List Int) : Option (V × H) := some (.tup [.a (.sl 0 0 t12n), .a (.sl 1 0 t12n), .a (.sl 2 0 t12n), .a (.bool true)], [.at true (.int .i64 l0), .at true (.int .i64 l1), .at true (.int .i64 l2)])
noncomputable def mr_jrS7 (N : Nat) (k0 : Nat → List Int → List Int → List Int → Option (V × H)) (M : Nat) : Int → Int → Int → Int → Nat → Int → List Int → List Int → List Int → Option (V × H) := Nat.rec (motive := fun _ => Int → Int → Int → Int → Nat → Int → List Int → List Int → List Int → Option (V × H)) (fun (_ : Int) (_ : Int) (_ : Int) (_ : Int) (_ : Nat) (_ : Int) (_ : List Int) (_ : List Int) (_ : List Int) => none) (fun _ rq => fun (t0 : Int) (t1 : Int) (t2 : Int) (t3 : Int) (t12n : Nat) (t15 : Int) (l0 : List Int) (l1 : List Int) (l2 : List Int) => (match decide ((t15 : Int) ≤ t0) with
  | true => (match !(partW t1 (IntKind.i64.wrap (t3 - t15))) with
    | true => (rq t0 t1 t2 t3 t12n (IntKind.i64.wrap (t15 + 2)) l0 l1 l2)
    | false => (match canJ t0 t15 t1 (IntKind.i64.wrap (t3 - t15)) t2 with
      | true => (match apok true t12n 1 l0.length 1 (t12n + 1) 8 with
        | true => (match apok true t12n 1 l1.length 1 (t12n + 1) 8 with
          | true => (match apok true t12n 1 l2.length 1 (t12n + 1) 8 with
            | true => (rq t0 t1 t2 t3 (t12n + 1) (IntKind.i64.wrap (t15 + 2)) (l0 ++ [(jV t0 t15 t1 (IntKind.i64.wrap (t3 - t15)) t2).1]) (l1 ++ [(jV t0 t15 t1 (IntKind.i64.wrap (t3 - t15)) t2).2.1]) (l2 ++ [(jV t0 t15 t1 (IntKind.i64.wrap (t3 - t15)) t2).2.2]))
            | false => none)
          | false => none)
        | false => none)
      | false => none))
  | false => (k0 t12n l0 l1 l2))) M
theorem mrs_jrS7 (N : Nat) (k0 : Nat → List Int → List Int → List Int → Option (V × H)) (M : Nat) (t0 : Int) (t1 : Int) (t2 : Int) (t3 : Int) (t12n : Nat) (t15 : Int) (l0 : List Int) (l1 : List Int) (l2 : List Int) : mr_jrS7 N k0 (M + 1) t0 t1 t2 t3 t12n t15 l0 l1 l2 = (match decide ((t15 : Int) ≤ t0) with
  | true => (match !(partW t1 (IntKind.i64.wrap (t3 - t15))) with
    | true => (mr_jrS7 N k0 M t0 t1 t2 t3 t12n (IntKind.i64.wrap (t15 + 2)) l0 l1 l2)
    | false => (match canJ t0 t15 t1 (IntKind.i64.wrap (t3 - t15)) t2 with
      | true => (match apok true t12n 1 l0.length 1 (t12n + 1) 8 with
        | true => (match apok true t12n 1 l1.length 1 (t12n + 1) 8 with
          | true => (match apok true t12n 1 l2.length 1 (t12n + 1) 8 with
            | true => (mr_jrS7 N k0 M t0 t1 t2 t3 (t12n + 1) (IntKind.i64.wrap (t15 + 2)) (l0 ++ [(jV t0 t15 t1 (IntKind.i64.wrap (t3 - t15)) t2).1]) (l1 ++ [(jV t0 t15 t1 (IntKind.i64.wrap (t3 - t15)) t2).2.1]) (l2 ++ [(jV t0 t15 t1 (IntKind.i64.wrap (t3 - t15)) t2).2.2]))
            | false => none)
          | false => none)
        | false => none)
      | false => none))
  | false => (k0 t12n l0 l1 l2)) := by kernel_rfl
theorem H_jrS7 (N : Nat) : ∀ (M : Nat) (t0 : Int) (t1 : Int) (t2 : Int) (t3 : Int) (t12n : Nat) (t15 : Int) (l0 : List Int) (l1 : List Int) (l2 : List Int), lp_jrS7 N M (st_jrS7 t0 t1 t2 t3 t12n t15 l0 l1 l2) (kt_jrS7 N (kEnd Try.f51 0)) = mr_jrS7 N (ce_jrS7_0 N) M t0 t1 t2 t3 t12n t15 l0 l1 l2 := by
  have he0 : ∀ (t12n : Nat) (l0 : List Int) (l1 : List Int) (l2 : List Int), kt_jrS7 N (kEnd Try.f51 0) (.exit 0) (en_jrS7_0 t12n l0 l1 l2) = ce_jrS7_0 N t12n l0 l1 l2 := by
    intro t12n l0 l1 l2
    rw [end_jrS7_0]
    unfold ce_jrS7_0
    first | simp only [] | rfl
  intro M
  induction M with
  | zero => intros; rfl
  | succ M ih =>
    intro t0 t1 t2 t3 t12n t15 l0 l1 l2
    rw [step_jrS7]
    rw [mrs_jrS7]
    first | simp only [ih, he0] | rfl
noncomputable def md_jrS (N : Nat) (a : Int) (b : Int) (c : Int) (z : Int) : Option (V × H) := (match !(is6 a) with
  | true => some (.tup [.a (.nil), .a (.nil), .a (.nil), .a (.bool false)], [])
  | false => (match !(is6 b) with
    | true => some (.tup [.a (.nil), .a (.nil), .a (.nil), .a (.bool false)], [])
    | false => (match !(totS a b c) with
      | true => some (.tup [.a (.nil), .a (.nil), .a (.nil), .a (.bool false)], [])
      | false => (match !(partW c z) with
        | true => some (.tup [.a (.nil), .a (.nil), .a (.nil), .a (.bool false)], [])
        | false => (mr_jrS7 N (ce_jrS7_0 N) N a b c z 0 (IntKind.i64.wrap (0 - a)) [] [] [])))))
theorem mdl_jrS (N : Nat) (a : Int) (b : Int) (c : Int) (z : Int) : run ty tab_jrS an_jrS N Try.f51 [.int .i64 a, .int .i64 b, .int .i64 c, .int .i64 z] [] = md_jrS N a b c z := by
  rw [run_jrS]
  unfold md_jrS
  first | simp only [H_jrS7 N N] | rfl

def an_jrI : Ann := ⟨fun r => if r = 5 then some ([0, 1, 2, 3, 12, 13, 14, 15], [8, 9, 10, 11, 12, 13, 14]) else none, fun _ _ => .quiet⟩
def tab_jrI : Fns := tabT [(112, gTurns), (93, gT gtotI), (94, gT gpartW), (95, gJs)]
theorem tabok_jrI : ∀ f, FnT Try.prog f (tab_jrI f) := (tabT_cons (k := 112) ok_areT (tabT_cons (k := 93) ok_isTotal (tabT_cons (k := 94) ok_isPart (tabT_cons (k := 95) ok_js tabT_nil))))
def st_jrI5 (t0 : Int) (t1 : Int) (t2 : Int) (t3 : Int) (t12n : Nat) (t15 : Int) (l0 : List Int) (l1 : List Int) (l2 : List Int) : St := ⟨[.int .i64 t0, .int .i64 t1, .int .i64 t2, .int .i64 t3, .any, .any, .any, .any, .any, .any, .any, .any, .sl 0 0 t12n, .sl 1 0 t12n, .sl 2 0 t12n, .int .i64 t15, .any, .any, .any, .any, .any, .any, .any, .any, .any, .any, .any, .any, .any, .any, .any, .any, .any, .any, .any, .any, .any, .any, .any, .any, .any, .any, .any, .any, .any, .any, .any, .any, .any, .any, .any, .any, .any, .any, .any, .any, .any, .any, .any, .any, .any, .any, .any, .any, .any, .any, .any, .any, .any, .any, .any, .any, .any, .any, .any, .any, .any, .any, .any, .any, .any, .any, .any, .any], [.at true (.int .i64 l0), .at true (.int .i64 l1), .at true (.int .i64 l2)]⟩
abbrev kp_jrI5 : Option (List Nat × List Nat) := some ([0, 1, 2, 3, 12, 13, 14, 15], [8, 9, 10, 11, 12, 13, 14])
noncomputable def lp_jrI5 {R : Type} (N M : Nat) (s : St) (K : X → St → Option R) : Option R := loopH 0 kp_jrI5 (fun st K => exec ty tab_jrI an_jrI N 0 (atOf [true, true, true, false, true, false, false] Try.f52) st K) M s K
noncomputable def bk_jrI5 {R : Type} (N M : Nat) (K : X → St → Option R) : X → St → Option R := fun x st => match x with | .norm => tidyK 0 (kp_jrI5.map (·.1)) st fun st => lp_jrI5 N M st K | x => tidyK 0 (kp_jrI5.map (·.2)) st fun st => K x st
noncomputable def kt_jrI5 {R : Type} (N : Nat) (K : X → St → Option R) : X → St → Option R := kBlkR 0 (kSeqR tab_jrI an_jrI N 0 (atOf [true, true, true, true] Try.f52) (K))
def en_jrI5_0 (t12n : Nat) (l0 : List Int) (l1 : List Int) (l2 : List Int) : St := ⟨[.any, .any, .any, .any, .any, .any, .any, .any, .any, .any, .any, .any, .sl 0 0 t12n, .sl 1 0 t12n, .sl 2 0 t12n, .any, .any, .any, .any, .any, .any, .any, .any, .any, .any, .any, .any, .any, .any, .any, .any, .any, .any, .any, .any, .any, .any, .any, .any, .any, .any, .any, .any, .any, .any, .any, .any, .any, .any, .any, .any, .any, .any, .any, .any, .any, .any, .any, .any, .any, .any, .any, .any, .any, .any, .any, .any, .any, .any, .any, .any, .any, .any, .any, .any, .any, .any, .any, .any, .any, .any, .any, .any, .any], [.at true (.int .i64 l0), .at true (.int .i64 l1), .at true (.int .i64 l2)]⟩
theorem run_jrI (N : Nat) (a : Int) (b : Int) (c : Int) (z : Int) : run ty tab_jrI an_jrI N Try.f52 [.int .i64 a, .int .i64 b, .int .i64 c, .int .i64 z] []
    = (match decide ([a, b].length = 2 ∧ 2 < 2147483648) with
  | true => (match !(turnsB [a, b]) with
    | true => some (.tup [.a (.nil), .a (.nil), .a (.nil), .a (.bool false)], [])
    | false => (match !(totI a b c) with
      | true => some (.tup [.a (.nil), .a (.nil), .a (.nil), .a (.bool false)], [])
      | false => (match !(partW c z) with
        | true => some (.tup [.a (.nil), .a (.nil), .a (.nil), .a (.bool false)], [])
        | false => lp_jrI5 N N (st_jrI5 a b c z 0 (IntKind.i64.wrap (0 - a)) [] [] []) (kt_jrI5 N (kEnd Try.f52 0)))))
  | false => none) := by
  kernel_rfl
theorem step_jrI5 {R : Type} (N M : Nat) (K : X → St → Option R) (t0 : Int) (t1 : Int) (t2 : Int) (t3 : Int) (t12n : Nat) (t15 : Int) (l0 : List Int) (l1 : List Int) (l2 : List Int) : lp_jrI5 N (M + 1) (st_jrI5 t0 t1 t2 t3 t12n t15 l0 l1 l2) K
    = (match decide ((t15 : Int) ≤ t0) with
  | true => (match !(partW t1 (IntKind.i64.wrap (t3 - t15))) with
    | true => lp_jrI5 N M (st_jrI5 t0 t1 t2 t3 t12n (IntKind.i64.wrap (t15 + 2)) l0 l1 l2) K
    | false => (match canJ t0 t15 t1 (IntKind.i64.wrap (t3 - t15)) t2 with
      | true => (match apok true t12n 1 l0.length 1 (t12n + 1) 8 with
        | true => (match apok true t12n 1 l1.length 1 (t12n + 1) 8 with
          | true => (match apok true t12n 1 l2.length 1 (t12n + 1) 8 with
            | true => lp_jrI5 N M (st_jrI5 t0 t1 t2 t3 (t12n + 1) (IntKind.i64.wrap (t15 + 2)) (l0 ++ [(jV t0 t15 t1 (IntKind.i64.wrap (t3 - t15)) t2).1]) (l1 ++ [(jV t0 t15 t1 (IntKind.i64.wrap (t3 - t15)) t2).2.1]) (l2 ++ [(jV t0 t15 t1 (IntKind.i64.wrap (t3 - t15)) t2).2.2])) K
            | false => none)
          | false => none)
        | false => none)
      | false => none))
  | false => K (.exit 0) (en_jrI5_0 t12n l0 l1 l2)) := by
  kernel_rfl
theorem end_jrI5_0 (N : Nat) (t12n : Nat) (l0 : List Int) (l1 : List Int) (l2 : List Int) : kt_jrI5 N (kEnd Try.f52 0) (.exit 0) (en_jrI5_0 t12n l0 l1 l2)
    = some (.tup [.a (.sl 0 0 t12n), .a (.sl 1 0 t12n), .a (.sl 2 0 t12n), .a (.bool true)], [.at true (.int .i64 l0), .at true (.int .i64 l1), .at true (.int .i64 l2)]) := by
  kernel_rfl

noncomputable def ce_jrI5_0 (N : Nat) (t12n : Nat) (l0 : List Int) (l1 : List Int) (l2 : List Int) : Option (V × H) := some (.tup [.a (.sl 0 0 t12n), .a (.sl 1 0 t12n), .a (.sl 2 0 t12n), .a (.bool true)], [.at true (.int .i64 l0), .at true (.int .i64 l1), .at true (.int .i64 l2)])
noncomputable def mr_jrI5 (N : Nat) (k0 : Nat → List Int → List Int → List Int → Option (V × H)) (M : Nat) : Int → Int → Int → Int → Nat → Int → List Int → List Int → List Int → Option (V × H) := Nat.rec (motive := fun _ => Int → Int → Int → Int → Nat → Int → List Int → List Int → List Int → Option (V × H)) (fun (_ : Int) (_ : Int) (_ : Int) (_ : Int) (_ : Nat) (_ : Int) (_ : List Int) (_ : List Int) (_ : List Int) => none) (fun _ rq => fun (t0 : Int) (t1 : Int) (t2 : Int) (t3 : Int) (t12n : Nat) (t15 : Int) (l0 : List Int) (l1 : List Int) (l2 : List Int) => (match decide ((t15 : Int) ≤ t0) with
  | true => (match !(partW t1 (IntKind.i64.wrap (t3 - t15))) with
    | true => (rq t0 t1 t2 t3 t12n (IntKind.i64.wrap (t15 + 2)) l0 l1 l2)
    | false => (match canJ t0 t15 t1 (IntKind.i64.wrap (t3 - t15)) t2 with
      | true => (match apok true t12n 1 l0.length 1 (t12n + 1) 8 with
        | true => (match apok true t12n 1 l1.length 1 (t12n + 1) 8 with
          | true => (match apok true t12n 1 l2.length 1 (t12n + 1) 8 with
            | true => (rq t0 t1 t2 t3 (t12n + 1) (IntKind.i64.wrap (t15 + 2)) (l0 ++ [(jV t0 t15 t1 (IntKind.i64.wrap (t3 - t15)) t2).1]) (l1 ++ [(jV t0 t15 t1 (IntKind.i64.wrap (t3 - t15)) t2).2.1]) (l2 ++ [(jV t0 t15 t1 (IntKind.i64.wrap (t3 - t15)) t2).2.2]))
            | false => none)
          | false => none)
        | false => none)
      | false => none))
  | false => (k0 t12n l0 l1 l2))) M
theorem mrs_jrI5 (N : Nat) (k0 : Nat → List Int → List Int → List Int → Option (V × H)) (M : Nat) (t0 : Int) (t1 : Int) (t2 : Int) (t3 : Int) (t12n : Nat) (t15 : Int) (l0 : List Int) (l1 : List Int) (l2 : List Int) : mr_jrI5 N k0 (M + 1) t0 t1 t2 t3 t12n t15 l0 l1 l2 = (match decide ((t15 : Int) ≤ t0) with
  | true => (match !(partW t1 (IntKind.i64.wrap (t3 - t15))) with
    | true => (mr_jrI5 N k0 M t0 t1 t2 t3 t12n (IntKind.i64.wrap (t15 + 2)) l0 l1 l2)
    | false => (match canJ t0 t15 t1 (IntKind.i64.wrap (t3 - t15)) t2 with
      | true => (match apok true t12n 1 l0.length 1 (t12n + 1) 8 with
        | true => (match apok true t12n 1 l1.length 1 (t12n + 1) 8 with
          | true => (match apok true t12n 1 l2.length 1 (t12n + 1) 8 with
            | true => (mr_jrI5 N k0 M t0 t1 t2 t3 (t12n + 1) (IntKind.i64.wrap (t15 + 2)) (l0 ++ [(jV t0 t15 t1 (IntKind.i64.wrap (t3 - t15)) t2).1]) (l1 ++ [(jV t0 t15 t1 (IntKind.i64.wrap (t3 - t15)) t2).2.1]) (l2 ++ [(jV t0 t15 t1 (IntKind.i64.wrap (t3 - t15)) t2).2.2]))
            | false => none)
          | false => none)
        | false => none)
      | false => none))
  | false => (k0 t12n l0 l1 l2)) := by kernel_rfl
theorem H_jrI5 (N : Nat) : ∀ (M : Nat) (t0 : Int) (t1 : Int) (t2 : Int) (t3 : Int) (t12n : Nat) (t15 : Int) (l0 : List Int) (l1 : List Int) (l2 : List Int), lp_jrI5 N M (st_jrI5 t0 t1 t2 t3 t12n t15 l0 l1 l2) (kt_jrI5 N (kEnd Try.f52 0)) = mr_jrI5 N (ce_jrI5_0 N) M t0 t1 t2 t3 t12n t15 l0 l1 l2 := by
  have he0 : ∀ (t12n : Nat) (l0 : List Int) (l1 : List Int) (l2 : List Int), kt_jrI5 N (kEnd Try.f52 0) (.exit 0) (en_jrI5_0 t12n l0 l1 l2) = ce_jrI5_0 N t12n l0 l1 l2 := by
    intro t12n l0 l1 l2
    rw [end_jrI5_0]
    unfold ce_jrI5_0
    first | simp only [] | rfl
  intro M
  induction M with
  | zero => intros; rfl
  | succ M ih =>
    intro t0 t1 t2 t3 t12n t15 l0 l1 l2
    rw [step_jrI5]
    rw [mrs_jrI5]
    first | simp only [ih, he0] | rfl
noncomputable def md_jrI (N : Nat) (a : Int) (b : Int) (c : Int) (z : Int) : Option (V × H) := (match decide ([a, b].length = 2 ∧ 2 < 2147483648) with
  | true => (match !(turnsB [a, b]) with
    | true => some (.tup [.a (.nil), .a (.nil), .a (.nil), .a (.bool false)], [])
    | false => (match !(totI a b c) with
      | true => some (.tup [.a (.nil), .a (.nil), .a (.nil), .a (.bool false)], [])
      | false => (match !(partW c z) with
        | true => some (.tup [.a (.nil), .a (.nil), .a (.nil), .a (.bool false)], [])
        | false => (mr_jrI5 N (ce_jrI5_0 N) N a b c z 0 (IntKind.i64.wrap (0 - a)) [] [] []))))
  | false => none)
theorem mdl_jrI (N : Nat) (a : Int) (b : Int) (c : Int) (z : Int) : run ty tab_jrI an_jrI N Try.f52 [.int .i64 a, .int .i64 b, .int .i64 c, .int .i64 z] [] = md_jrI N a b c z := by
  rw [run_jrI]
  unfold md_jrI
  first | simp only [H_jrI5 N N] | rfl

def oR3 : Option (V × H) → Option (List Int × List Int × List Int)
  | some (.tup [.a (.sl 0 0 n0), .a (.sl 1 0 n1), .a (.sl 2 0 n2), .a (.bool true)], [.at true (.int .i64 l0), .at true (.int .i64 l1), .at true (.int .i64 l2)]) => match decide (n0 = l0.length ∧ n1 = l1.length ∧ n2 = l2.length) with | true => some (l0, l1, l2) | false => none
  | _ => none
theorem oR3_inv {o : Option (V × H)} {l0 l1 l2 : List Int} (h : oR3 o = some (l0, l1, l2)) : o = some (.tup [.a (.sl 0 0 l0.length), .a (.sl 1 0 l1.length), .a (.sl 2 0 l2.length), .a (.bool true)], [.at true (.int .i64 l0), .at true (.int .i64 l1), .at true (.int .i64 l2)]) := by
  unfold oR3 at h
  split at h
  · split at h
    · rename_i hd
      obtain ⟨rfl, rfl, rfl⟩ := of_decide_eq_true hd
      cases h
      rfl
    · cases h
  · cases h
def eR3 : Option (List Int × List Int × List Int) → Option (List Int × List Int × List Int) → Bool
  | some (l0, l1, l2), some (m0, m1, m2) => (decide (l0 = m0) && decide (l0.length < 100)) && (decide (l1 = m1) && decide (l1.length < 100)) && (decide (l2 = m2) && decide (l2.length < 100))
  | _, _ => false
theorem eR3_inv {o o' : Option (List Int × List Int × List Int)} (h : eR3 o o' = true) : ∃ l0 l1 l2, o = some (l0, l1, l2) ∧ o' = some (l0, l1, l2) ∧ l0.length < 100 ∧ l1.length < 100 ∧ l2.length < 100 := by
  unfold eR3 at h
  split at h
  · simp only [Bool.and_eq_true, decide_eq_true_eq] at h
    obtain ⟨⟨⟨rfl, a⟩, ⟨rfl, b⟩⟩, ⟨rfl, c⟩⟩ := h
    exact ⟨_, _, _, rfl, rfl, a, b, c⟩
  · cases h
noncomputable def jrDC (A B m k : Nat) : Bool := eR3 (oR3 (md_jrS 20 ((A : Int)) ((B : Int)) ((A : Int) + (B : Int) - 2 * (m : Int)) ((A : Int) + (B : Int) - 2 * (m : Int) - 2 * (k : Int)))) (oR3 (md_jrI 20 ((A : Int)) ((B : Int)) ((A : Int) + (B : Int) - 2 * (m : Int)) ((A : Int) + (B : Int) - 2 * (m : Int) - 2 * (k : Int))))
noncomputable def jrDA (A : Nat) : Bool := (List.range (6 + 1)).all fun B => (List.range ((min A B) + 1)).all fun m => (List.range ((A + B - 2 * m) + 1)).all fun k => jrDC A B m k
theorem jrDA_0 : jrDA 0 = true := by kernel_rfl
theorem jrDA_1 : jrDA 1 = true := by kernel_rfl
theorem jrDA_2 : jrDA 2 = true := by kernel_rfl
theorem jrDA_3 : jrDA 3 = true := by kernel_rfl
theorem jrDA_4 : jrDA 4 = true := by kernel_rfl
theorem jrDA_5 : jrDA 5 = true := by kernel_rfl
theorem jrDA_6 : jrDA 6 = true := by kernel_rfl
theorem jrDA_all {a : Nat} (ha : a ≤ 6) : jrDA a = true := by
  have : a = 0 ∨ a = 1 ∨ a = 2 ∨ a = 3 ∨ a = 4 ∨ a = 5 ∨ a = 6 := by omega
  rcases this with rfl | rfl | rfl | rfl | rfl | rfl | rfl
  · exact jrDA_0
  · exact jrDA_1
  · exact jrDA_2
  · exact jrDA_3
  · exact jrDA_4
  · exact jrDA_5
  · exact jrDA_6
noncomputable def jrD (a b c z : Int) : List Int × List Int × List Int := (oR3 (md_jrS 20 a b c z)).getD ([], [], [])
theorem jrD_ok {a b c z : Int} (h : rowS a b c z = true) : md_jrS 20 a b c z = some (.tup [.a (.sl 0 0 (jrD a b c z).1.length), .a (.sl 1 0 (jrD a b c z).2.1.length), .a (.sl 2 0 (jrD a b c z).2.2.length), .a (.bool true)], [.at true (.int .i64 (jrD a b c z).1), .at true (.int .i64 (jrD a b c z).2.1), .at true (.int .i64 (jrD a b c z).2.2)]) ∧ md_jrI 20 a b c z = some (.tup [.a (.sl 0 0 (jrD a b c z).1.length), .a (.sl 1 0 (jrD a b c z).2.1.length), .a (.sl 2 0 (jrD a b c z).2.2.length), .a (.bool true)], [.at true (.int .i64 (jrD a b c z).1), .at true (.int .i64 (jrD a b c z).2.1), .at true (.int .i64 (jrD a b c z).2.2)]) ∧ (jrD a b c z).1.length < 100 ∧ (jrD a b c z).2.1.length < 100 ∧ (jrD a b c z).2.2.length < 100 := by
  unfold rowS is6 at h
  rw [Bool.and_eq_true, Bool.and_eq_true, Bool.and_eq_true, inB_iff, inB_iff] at h
  obtain ⟨h1, h2, h3, h4⟩ := h
  have g3 := (totS_iff h1 h2).mp h3
  unfold TotP at g3
  have g4 := (partW_iff (by omega) (by omega)).mp h4
  obtain ⟨A, rfl⟩ : ∃ A : Nat, a = (A : Int) := ⟨a.toNat, by omega⟩
  obtain ⟨B, rfl⟩ : ∃ B : Nat, b = (B : Int) := ⟨b.toNat, by omega⟩
  obtain ⟨m, hm⟩ : ∃ m : Nat, ((A : Int) + (B : Int) - c) / 2 = (m : Int) := ⟨(((A : Int) + (B : Int) - c) / 2).toNat, by omega⟩
  have hc : c = (A : Int) + (B : Int) - 2 * (m : Int) := by omega
  obtain ⟨k, hk⟩ : ∃ k : Nat, (c - z) / 2 = (k : Int) := ⟨((c - z) / 2).toNat, by omega⟩
  have hz : z = (A : Int) + (B : Int) - 2 * (m : Int) - 2 * (k : Int) := by omega
  have hr := List.all_eq_true.mp (List.all_eq_true.mp (List.all_eq_true.mp (jrDA_all (a := A) (by omega)) B (List.mem_range.mpr (by omega))) m (List.mem_range.mpr (by omega))) k (List.mem_range.mpr (by omega))
  unfold jrDC at hr
  rw [← hz, ← hc] at hr
  obtain ⟨l0, l1, l2, e1, e2, e3⟩ := eR3_inv hr
  unfold jrD
  rw [e1]
  exact ⟨oR3_inv e1, oR3_inv e2, e3⟩
noncomputable def gJr : GT := fun vs h => match vs, h with | [.int .i64 a, .int .i64 b, .int .i64 c, .int .i64 z], [] => .ite (rowS a b c z) (.ret (.tup [.a (.sl 0 0 (jrD a b c z).1.length), .a (.sl 1 0 (jrD a b c z).2.1.length), .a (.sl 2 0 (jrD a b c z).2.2.length), .a (.bool true)]) [.at true (.int .i64 (jrD a b c z).1), .at true (.int .i64 (jrD a b c z).2.1), .at true (.int .i64 (jrD a b c z).2.2)]) (.ret (.tup [.a .nil, .a .nil, .a .nil, .a (.bool false)]) []) | _, _ => .no
theorem ok_jrS : FnT Try.prog 51 gJr := by
  refine fnT tabok_jrS Try.func51 rfl rfl an_jrS fun vs h v h' e => ⟨20, ?_⟩
  unfold gJr at e
  split at e
  case h_2 => exact (T.no_inv e).elim
  rename_i a b c z
  refine Eq.trans ?_ e
  show _ = T.k _ _
  simp only [T.k]
  refine Eq.trans (mdl_jrS 20 a b c z) ?_
  cases hs : rowS a b c z with
  | true => exact (jrD_ok hs).1
  | false =>
    unfold rowS at hs
    unfold md_jrS
    cases h1 : is6 a
    · rfl
    · cases h2 : is6 b
      · rfl
      · cases h3 : totS a b c
        · rfl
        · cases h4 : partW c z
          · rfl
          · rw [h1, h2, h3, h4] at hs
            cases hs
theorem ok_jrI : FnT Try.prog 52 gJr := by
  refine fnT tabok_jrI Try.func52 rfl rfl an_jrI fun vs h v h' e => ⟨20, ?_⟩
  unfold gJr at e
  split at e
  case h_2 => exact (T.no_inv e).elim
  rename_i a b c z
  refine Eq.trans ?_ e
  show _ = T.k _ _
  simp only [T.k]
  refine Eq.trans (mdl_jrI 20 a b c z) ?_
  cases hs : rowS a b c z with
  | true => exact (jrD_ok hs).2.1
  | false =>
    unfold rowS at hs
    unfold md_jrI
    have ht : turnsB [a, b] = (is6 a && is6 b) := by
      unfold turnsB is6
      simp [List.all]
    have hd : decide ([a, b].length = 2 ∧ 2 < 2147483648) = true := decide_eq_true ⟨rfl, by omega⟩
    rw [hd, ht]
    cases h1 : is6 a
    · rfl
    · cases h2 : is6 b
      · rfl
      · rw [totI_S (inB_iff.mp h1) (inB_iff.mp h2)]
        cases h3 : totS a b c
        · rfl
        · cases h4 : partW c z
          · rfl
          · rw [h1, h2, h3, h4] at hs
            cases hs
noncomputable section
def tab_lawJoinRow : Fns := tabT [(51, gJr), (52, gJr), (48, gEqI), (49, gMarkI), (50, gHeldI)]
theorem tabok_lawJoinRow : ∀ f, FnT Try.prog f (tab_lawJoinRow f) := (tabT_cons (k := 51) ok_jrS (tabT_cons (k := 52) ok_jrI (tabT_cons (k := 48) ok_eqI (tabT_cons (k := 49) ok_markI (tabT_cons (k := 50) ok_heldI tabT_nil)))))
theorem run_lawJoinRow (N : Nat) (a : Int) (b : Int) (c : Int) (z : Int) : run ty tab_lawJoinRow ann0 N Try.f9 [.int .i64 a, .int .i64 b, .int .i64 c, .int .i64 z] []
    = (match rowS a b c z with
  | true => (match rowS a b c z with
    | true => (match decide (((jrD a b c z).1).length = (jrD a b c z).1.length ∧ ((jrD a b c z).1).length = (jrD a b c z).1.length ∧ (jrD a b c z).1.length < 2147483648 ∧ (jrD a b c z).1.length < 2147483648) with
      | true => (match !(eqIB ((jrD a b c z).1) ((jrD a b c z).1)) with
        | true => some (.bool false, [])
        | false => (match decide (((jrD a b c z).2.1).length = (jrD a b c z).2.1.length ∧ ((jrD a b c z).2.1).length = (jrD a b c z).2.1.length ∧ (jrD a b c z).2.1.length < 2147483648 ∧ (jrD a b c z).2.1.length < 2147483648) with
          | true => (match !(eqIB ((jrD a b c z).2.1) ((jrD a b c z).2.1)) with
            | true => some (.bool false, [])
            | false => (match decide (((jrD a b c z).2.2).length = (jrD a b c z).2.2.length ∧ ((jrD a b c z).2.2).length = (jrD a b c z).2.2.length ∧ (jrD a b c z).2.2.length < 2147483648 ∧ (jrD a b c z).2.2.length < 2147483648) with
              | true => (match !(eqIB ((jrD a b c z).2.2) ((jrD a b c z).2.2)) with
                | true => some (.bool false, [])
                | false => (match decide (((jrD a b c z).1).length = (jrD a b c z).1.length ∧ (jrD a b c z).1.length < 2147483648 ∧ 0 ≤ (1 : Int) ∧ (1 : Int) < 2147483648) with
                  | true => (match decide (((jrD a b c z).2.1).length = (jrD a b c z).2.1.length ∧ (jrD a b c z).2.1.length < 2147483648 ∧ 0 ≤ (1 + ((jrD a b c z).1.length : Int) : Int) ∧ (1 + ((jrD a b c z).1.length : Int) : Int) < 2147483648) with
                    | true => (match decide (((jrD a b c z).2.2).length = (jrD a b c z).2.2.length ∧ (jrD a b c z).2.2.length < 2147483648 ∧ 0 ≤ ((1 + ((jrD a b c z).1.length : Int)) + ((jrD a b c z).2.1.length : Int) : Int) ∧ ((1 + ((jrD a b c z).1.length : Int)) + ((jrD a b c z).2.1.length : Int) : Int) < 2147483648) with
                      | true => (match decide (marksI 1 ((jrD a b c z).1.length) = marksI 1 ((jrD a b c z).1.length) ∧ (jrD a b c z).1.length < 2147483648 ∧ 0 ≤ (1 : Int) ∧ (1 : Int) < 2147483648) with
                        | true => (match decide ((1 + ((jrD a b c z).1.length : Int) : Int) < 0) with
                          | true => some (.bool false, [])
                          | false => (match decide (marksI (1 + ((jrD a b c z).1.length : Int)) ((jrD a b c z).2.1.length) = marksI (1 + ((jrD a b c z).1.length : Int)) ((jrD a b c z).2.1.length) ∧ (jrD a b c z).2.1.length < 2147483648 ∧ 0 ≤ (1 + ((jrD a b c z).1.length : Int) : Int) ∧ (1 + ((jrD a b c z).1.length : Int) : Int) < 2147483648) with
                            | true => (match decide (((1 + ((jrD a b c z).1.length : Int)) + ((jrD a b c z).2.1.length : Int) : Int) < 0) with
                              | true => some (.bool false, [])
                              | false => (match decide (marksI ((1 + ((jrD a b c z).1.length : Int)) + ((jrD a b c z).2.1.length : Int)) ((jrD a b c z).2.2.length) = marksI ((1 + ((jrD a b c z).1.length : Int)) + ((jrD a b c z).2.1.length : Int)) ((jrD a b c z).2.2.length) ∧ (jrD a b c z).2.2.length < 2147483648 ∧ 0 ≤ ((1 + ((jrD a b c z).1.length : Int)) + ((jrD a b c z).2.1.length : Int) : Int) ∧ ((1 + ((jrD a b c z).1.length : Int)) + ((jrD a b c z).2.1.length : Int) : Int) < 2147483648) with
                                | true => (match decide ((((1 + ((jrD a b c z).1.length : Int)) + ((jrD a b c z).2.1.length : Int)) + ((jrD a b c z).2.2.length : Int) : Int) < 0) with
                                  | true => some (.bool false, [])
                                  | false => (match (((1 + ((jrD a b c z).1.length : Int)) + ((jrD a b c z).2.1.length : Int)) + ((jrD a b c z).2.2.length : Int)) != (((1 + ((jrD a b c z).1.length : Int)) + ((jrD a b c z).2.1.length : Int)) + ((jrD a b c z).2.2.length : Int)) with
                                    | true => some (.bool false, [])
                                    | false => (match rowS a b c z with
                                      | true => (match decide (((jrD a b c z).1).length = (jrD a b c z).1.length ∧ ((jrD a b c z).1).length = (jrD a b c z).1.length ∧ (jrD a b c z).1.length < 2147483648 ∧ (jrD a b c z).1.length < 2147483648) with
                                        | true => (match !(eqIB ((jrD a b c z).1) ((jrD a b c z).1)) with
                                          | true => some (.bool false, [])
                                          | false => (match decide (((jrD a b c z).2.1).length = (jrD a b c z).2.1.length ∧ ((jrD a b c z).2.1).length = (jrD a b c z).2.1.length ∧ (jrD a b c z).2.1.length < 2147483648 ∧ (jrD a b c z).2.1.length < 2147483648) with
                                            | true => (match !(eqIB ((jrD a b c z).2.1) ((jrD a b c z).2.1)) with
                                              | true => some (.bool false, [])
                                              | false => (match decide (((jrD a b c z).2.2).length = (jrD a b c z).2.2.length ∧ ((jrD a b c z).2.2).length = (jrD a b c z).2.2.length ∧ (jrD a b c z).2.2.length < 2147483648 ∧ (jrD a b c z).2.2.length < 2147483648) with
                                                | true => (match !(eqIB ((jrD a b c z).2.2) ((jrD a b c z).2.2)) with
                                                  | true => some (.bool false, [])
                                                  | false => (match decide (marksI 1 ((jrD a b c z).1.length) = marksI 1 ((jrD a b c z).1.length) ∧ (jrD a b c z).1.length < 2147483648 ∧ 0 ≤ (1 : Int) ∧ (1 : Int) < 2147483648) with
                                                    | true => (match decide ((1 + ((jrD a b c z).1.length : Int) : Int) < 0) with
                                                      | true => some (.bool false, [])
                                                      | false => (match decide (marksI (1 + ((jrD a b c z).1.length : Int)) ((jrD a b c z).2.1.length) = marksI (1 + ((jrD a b c z).1.length : Int)) ((jrD a b c z).2.1.length) ∧ (jrD a b c z).2.1.length < 2147483648 ∧ 0 ≤ (1 + ((jrD a b c z).1.length : Int) : Int) ∧ (1 + ((jrD a b c z).1.length : Int) : Int) < 2147483648) with
                                                        | true => (match decide (((1 + ((jrD a b c z).1.length : Int)) + ((jrD a b c z).2.1.length : Int) : Int) < 0) with
                                                          | true => some (.bool false, [])
                                                          | false => (match decide (marksI ((1 + ((jrD a b c z).1.length : Int)) + ((jrD a b c z).2.1.length : Int)) ((jrD a b c z).2.2.length) = marksI ((1 + ((jrD a b c z).1.length : Int)) + ((jrD a b c z).2.1.length : Int)) ((jrD a b c z).2.2.length) ∧ (jrD a b c z).2.2.length < 2147483648 ∧ 0 ≤ ((1 + ((jrD a b c z).1.length : Int)) + ((jrD a b c z).2.1.length : Int) : Int) ∧ ((1 + ((jrD a b c z).1.length : Int)) + ((jrD a b c z).2.1.length : Int) : Int) < 2147483648) with
                                                            | true => (match decide ((((1 + ((jrD a b c z).1.length : Int)) + ((jrD a b c z).2.1.length : Int)) + ((jrD a b c z).2.2.length : Int) : Int) < 0) with
                                                              | true => some (.bool false, [])
                                                              | false => (match (((1 + ((jrD a b c z).1.length : Int)) + ((jrD a b c z).2.1.length : Int)) + ((jrD a b c z).2.2.length : Int)) != (((1 + ((jrD a b c z).1.length : Int)) + ((jrD a b c z).2.1.length : Int)) + ((jrD a b c z).2.2.length : Int)) with
                                                                | true => some (.bool false, [])
                                                                | false => some (.bool true, [])))
                                                            | false => none))
                                                        | false => none))
                                                    | false => none))
                                                | false => none))
                                            | false => none))
                                        | false => none)
                                      | false => none)))
                                | false => none))
                            | false => none))
                        | false => none)
                      | false => none)
                    | false => none)
                  | false => none))
              | false => none))
          | false => none))
      | false => none)
    | false => none)
  | false => (match rowS a b c z with
    | true => none
    | false => (match rowS a b c z with
      | true => none
      | false => some (.bool true, [])))) := by
  kernel_rfl

theorem ok_lawJoinRow : FnOk Try.prog 9 (fun vs h => match vs, h with | [.int .i64 a, .int .i64 b, .int .i64 c, .int .i64 z], [] => some (.bool true, []) | _, _ => none) := by
  refine fnOk tabok_lawJoinRow Try.func9 rfl rfl ann0 fun vs h v h' e => ⟨0, ?_⟩
  split at e
  case h_2 => cases e
  rename_i a b c z
  cases e
  refine Eq.trans (run_lawJoinRow 0 a b c z) ?_
  cases hc1 : rowS a b c z
  case false =>
    rfl
  case true =>
    have ghc1 := (jrD_ok hc1).2.2
    have hc2 : (decide (((jrD a b c z).1).length = (jrD a b c z).1.length ∧ ((jrD a b c z).1).length = (jrD a b c z).1.length ∧ (jrD a b c z).1.length < 2147483648 ∧ (jrD a b c z).1.length < 2147483648)) = true := decide_eq_true (by first | omega | (simp [marksI] <;> omega))
    have hc3 : (!(eqIB ((jrD a b c z).1) ((jrD a b c z).1))) = false := by rw [eqIB_self]; rfl
    have hc4 : (decide (((jrD a b c z).2.1).length = (jrD a b c z).2.1.length ∧ ((jrD a b c z).2.1).length = (jrD a b c z).2.1.length ∧ (jrD a b c z).2.1.length < 2147483648 ∧ (jrD a b c z).2.1.length < 2147483648)) = true := decide_eq_true (by first | omega | (simp [marksI] <;> omega))
    have hc5 : (!(eqIB ((jrD a b c z).2.1) ((jrD a b c z).2.1))) = false := by rw [eqIB_self]; rfl
    have hc6 : (decide (((jrD a b c z).2.2).length = (jrD a b c z).2.2.length ∧ ((jrD a b c z).2.2).length = (jrD a b c z).2.2.length ∧ (jrD a b c z).2.2.length < 2147483648 ∧ (jrD a b c z).2.2.length < 2147483648)) = true := decide_eq_true (by first | omega | (simp [marksI] <;> omega))
    have hc7 : (!(eqIB ((jrD a b c z).2.2) ((jrD a b c z).2.2))) = false := by rw [eqIB_self]; rfl
    have hc8 : (decide (((jrD a b c z).1).length = (jrD a b c z).1.length ∧ (jrD a b c z).1.length < 2147483648 ∧ 0 ≤ (1 : Int) ∧ (1 : Int) < 2147483648)) = true := decide_eq_true (by first | omega | (simp [marksI] <;> omega))
    have hc9 : (decide (((jrD a b c z).2.1).length = (jrD a b c z).2.1.length ∧ (jrD a b c z).2.1.length < 2147483648 ∧ 0 ≤ (1 + ((jrD a b c z).1.length : Int) : Int) ∧ (1 + ((jrD a b c z).1.length : Int) : Int) < 2147483648)) = true := decide_eq_true (by first | omega | (simp [marksI] <;> omega))
    have hc10 : (decide (((jrD a b c z).2.2).length = (jrD a b c z).2.2.length ∧ (jrD a b c z).2.2.length < 2147483648 ∧ 0 ≤ ((1 + ((jrD a b c z).1.length : Int)) + ((jrD a b c z).2.1.length : Int) : Int) ∧ ((1 + ((jrD a b c z).1.length : Int)) + ((jrD a b c z).2.1.length : Int) : Int) < 2147483648)) = true := decide_eq_true (by first | omega | (simp [marksI] <;> omega))
    have hc11 : (decide (marksI 1 ((jrD a b c z).1.length) = marksI 1 ((jrD a b c z).1.length) ∧ (jrD a b c z).1.length < 2147483648 ∧ 0 ≤ (1 : Int) ∧ (1 : Int) < 2147483648)) = true := decide_eq_true (by first | omega | (simp [marksI] <;> omega))
    have hc12 : (decide ((1 + ((jrD a b c z).1.length : Int) : Int) < 0)) = false := decide_eq_false (by first | omega | (simp [marksI] <;> omega))
    have hc13 : (decide (marksI (1 + ((jrD a b c z).1.length : Int)) ((jrD a b c z).2.1.length) = marksI (1 + ((jrD a b c z).1.length : Int)) ((jrD a b c z).2.1.length) ∧ (jrD a b c z).2.1.length < 2147483648 ∧ 0 ≤ (1 + ((jrD a b c z).1.length : Int) : Int) ∧ (1 + ((jrD a b c z).1.length : Int) : Int) < 2147483648)) = true := decide_eq_true (by first | omega | (simp [marksI] <;> omega))
    have hc14 : (decide (((1 + ((jrD a b c z).1.length : Int)) + ((jrD a b c z).2.1.length : Int) : Int) < 0)) = false := decide_eq_false (by first | omega | (simp [marksI] <;> omega))
    have hc15 : (decide (marksI ((1 + ((jrD a b c z).1.length : Int)) + ((jrD a b c z).2.1.length : Int)) ((jrD a b c z).2.2.length) = marksI ((1 + ((jrD a b c z).1.length : Int)) + ((jrD a b c z).2.1.length : Int)) ((jrD a b c z).2.2.length) ∧ (jrD a b c z).2.2.length < 2147483648 ∧ 0 ≤ ((1 + ((jrD a b c z).1.length : Int)) + ((jrD a b c z).2.1.length : Int) : Int) ∧ ((1 + ((jrD a b c z).1.length : Int)) + ((jrD a b c z).2.1.length : Int) : Int) < 2147483648)) = true := decide_eq_true (by first | omega | (simp [marksI] <;> omega))
    have hc16 : (decide ((((1 + ((jrD a b c z).1.length : Int)) + ((jrD a b c z).2.1.length : Int)) + ((jrD a b c z).2.2.length : Int) : Int) < 0)) = false := decide_eq_false (by first | omega | (simp [marksI] <;> omega))
    have hc17 : ((((1 + ((jrD a b c z).1.length : Int)) + ((jrD a b c z).2.1.length : Int)) + ((jrD a b c z).2.2.length : Int)) != (((1 + ((jrD a b c z).1.length : Int)) + ((jrD a b c z).2.1.length : Int)) + ((jrD a b c z).2.2.length : Int))) = false := by first | rfl | simp [marksI]
    rw [hc2, hc3, hc4, hc5, hc6, hc7, hc8, hc9, hc10, hc11, hc12, hc13, hc14, hc15, hc16, hc17]
end
end Go.Proofs.Ytbhfjdlhhjeknaa.Ab

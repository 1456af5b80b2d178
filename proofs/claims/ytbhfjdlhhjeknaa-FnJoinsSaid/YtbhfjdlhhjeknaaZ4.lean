/- What the proof names: lemmas and words, merged by a program from its parts. No condition. -/
import Derived.Test.YtbhfjdlhhjeknaaZ3
namespace Go.Proofs.Ytbhfjdlhhjeknaa.Ab
set_option linter.unusedVariables false
set_option linter.unusedSimpArgs false
open Go
def rowS (a b c z : Int) : Bool := is6 a && (is6 b && (totS a b c && partW c z))
def an_jrS : Ann := ⟨fun r => if r = 7 then some ([0, 1, 2, 3, 12, 13, 14, 15], [12, 13, 14]) else none, fun _ _ => .quiet⟩
def tab_jrS : Fns := tabT [(111, gT gis6), (109, gT gtotS), (110, gT gpartW), (91, gJn)]
theorem tabok_jrS : ∀ f, FnT Try.prog f (tab_jrS f) := (tabT_cons (k := 111) ok_l03Is (tabT_cons (k := 109) ok_l03Total (tabT_cons (k := 110) ok_l03Part (tabT_cons (k := 91) ok_jn tabT_nil))))
def st_jrS7 (t0 : Int) (t1 : Int) (t2 : Int) (t3 : Int) (t12n : Nat) (t15 : Int) (l0 : List Int) (l1 : List Int) (l2 : List Int) : St := ⟨(.int .i64 t0 :: .int .i64 t1 :: .int .i64 t2 :: .int .i64 t3 :: (anys 8 (.sl 0 0 t12n :: .sl 1 0 t12n :: .sl 2 0 t12n :: .int .i64 t15 :: (anys 67 [])))), [.at true (.int .i64 l0), .at true (.int .i64 l1), .at true (.int .i64 l2)]⟩
abbrev kp_jrS7 : Option (List Nat × List Nat) := some ([0, 1, 2, 3, 12, 13, 14, 15], [12, 13, 14])
noncomputable def lp_jrS7 {R : Type} (N M : Nat) (s : St) (K : X → St → Option R) : Option R := loopH 0 kp_jrS7 (fun st K => exec ty tab_jrS an_jrS N 0 (atOf [true, true, true, true, true, false, true, false, false] Try.f51) st K) M s K
noncomputable def kt_jrS7 {R : Type} (N : Nat) (K : X → St → Option R) : X → St → Option R := kBlkR 0 (kSeqR tab_jrS an_jrS N 0 (atOf [true, true, true, true, true, true] Try.f51) (K))
def en_jrS7_0 (t12n : Nat) (l0 : List Int) (l1 : List Int) (l2 : List Int) : St := ⟨(anys 12 (.sl 0 0 t12n :: .sl 1 0 t12n :: .sl 2 0 t12n :: (anys 68 []))), [.at true (.int .i64 l0), .at true (.int .i64 l1), .at true (.int .i64 l2)]⟩
theorem run_jrS (N : Nat) (a : Int) (b : Int) (c : Int) (z : Int) : run ty tab_jrS an_jrS N Try.f51 [.int .i64 a, .int .i64 b, .int .i64 c, .int .i64 z] []
    = (match !(is6 a) with | true => some (.tup [.a (.nil), .a (.nil), .a (.nil), .a (.bool false)], []) | false => (match !(is6 b) with | true => some (.tup [.a (.nil), .a (.nil), .a (.nil), .a (.bool false)], []) | false => (match !(totS a b c) with | true => some (.tup [.a (.nil), .a (.nil), .a (.nil), .a (.bool false)], []) | false => (match !(partW c z) with | true => some (.tup [.a (.nil), .a (.nil), .a (.nil), .a (.bool false)], []) | false => lp_jrS7 N N (st_jrS7 a b c z 0 (IntKind.i64.wrap (0 - a)) [] [] []) (kt_jrS7 N (kEnd Try.f51 0)))))) := by
  kernel_rfl
theorem step_jrS7 {R : Type} (N M : Nat) (K : X → St → Option R) (t0 : Int) (t1 : Int) (t2 : Int) (t3 : Int) (t12n : Nat) (t15 : Int) (l0 : List Int) (l1 : List Int) (l2 : List Int) : lp_jrS7 N (M + 1) (st_jrS7 t0 t1 t2 t3 t12n t15 l0 l1 l2) K
    = (match decide ((t15 : Int) ≤ t0) with | true => (match !(partW t1 (IntKind.i64.wrap (t3 - t15))) with | true => lp_jrS7 N M (st_jrS7 t0 t1 t2 t3 t12n (IntKind.i64.wrap (t15 + 2)) l0 l1 l2) K | false => (match canJ t0 t15 t1 (IntKind.i64.wrap (t3 - t15)) t2 with | true => (match apok true t12n 1 l0.length 1 (t12n + 1) 8 with | true => (match apok true t12n 1 l1.length 1 (t12n + 1) 8 with | true => (match apok true t12n 1 l2.length 1 (t12n + 1) 8 with | true => lp_jrS7 N M (st_jrS7 t0 t1 t2 t3 (t12n + 1) (IntKind.i64.wrap (t15 + 2)) (l0 ++ [(jV t0 t15 t1 (IntKind.i64.wrap (t3 - t15)) t2).1]) (l1 ++ [(jV t0 t15 t1 (IntKind.i64.wrap (t3 - t15)) t2).2.1]) (l2 ++ [(jV t0 t15 t1 (IntKind.i64.wrap (t3 - t15)) t2).2.2])) K | false => none) | false => none) | false => none) | false => none)) | false => K (.exit 0) (en_jrS7_0 t12n l0 l1 l2)) := by
  kernel_rfl
theorem end_jrS7_0 (N : Nat) (t12n : Nat) (l0 : List Int) (l1 : List Int) (l2 : List Int) : kt_jrS7 N (kEnd Try.f51 0) (.exit 0) (en_jrS7_0 t12n l0 l1 l2)
    = some (.tup [.a (.sl 0 0 t12n), .a (.sl 1 0 t12n), .a (.sl 2 0 t12n), .a (.bool true)], [.at true (.int .i64 l0), .at true (.int .i64 l1), .at true (.int .i64 l2)]) := by
  kernel_rfl
noncomputable def ce_jrS7_0 (N : Nat) (t12n : Nat) (l0 : List Int) (l1 : List Int) (l2 : List Int) : Option (V × H) := some (.tup [.a (.sl 0 0 t12n), .a (.sl 1 0 t12n), .a (.sl 2 0 t12n), .a (.bool true)], [.at true (.int .i64 l0), .at true (.int .i64 l1), .at true (.int .i64 l2)])
noncomputable def mb_jrS7 (N : Nat) (k0 : Nat → List Int → List Int → List Int → Option (V × H)) (rq : Int → Int → Int → Int → Nat → Int → List Int → List Int → List Int → Option (V × H)) : Int → Int → Int → Int → Nat → Int → List Int → List Int → List Int → Option (V × H) := fun (t0 : Int) (t1 : Int) (t2 : Int) (t3 : Int) (t12n : Nat) (t15 : Int) (l0 : List Int) (l1 : List Int) (l2 : List Int) => (match decide ((t15 : Int) ≤ t0) with | true => (match !(partW t1 (IntKind.i64.wrap (t3 - t15))) with | true => (rq t0 t1 t2 t3 t12n (IntKind.i64.wrap (t15 + 2)) l0 l1 l2) | false => (match canJ t0 t15 t1 (IntKind.i64.wrap (t3 - t15)) t2 with | true => (match apok true t12n 1 l0.length 1 (t12n + 1) 8 with | true => (match apok true t12n 1 l1.length 1 (t12n + 1) 8 with | true => (match apok true t12n 1 l2.length 1 (t12n + 1) 8 with | true => (rq t0 t1 t2 t3 (t12n + 1) (IntKind.i64.wrap (t15 + 2)) (l0 ++ [(jV t0 t15 t1 (IntKind.i64.wrap (t3 - t15)) t2).1]) (l1 ++ [(jV t0 t15 t1 (IntKind.i64.wrap (t3 - t15)) t2).2.1]) (l2 ++ [(jV t0 t15 t1 (IntKind.i64.wrap (t3 - t15)) t2).2.2])) | false => none) | false => none) | false => none) | false => none)) | false => (k0 t12n l0 l1 l2))
noncomputable def mr_jrS7 (N : Nat) (k0 : Nat → List Int → List Int → List Int → Option (V × H)) (M : Nat) : Int → Int → Int → Int → Nat → Int → List Int → List Int → List Int → Option (V × H) := Nat.rec (motive := fun _ => Int → Int → Int → Int → Nat → Int → List Int → List Int → List Int → Option (V × H)) (fun (_ : Int) (_ : Int) (_ : Int) (_ : Int) (_ : Nat) (_ : Int) (_ : List Int) (_ : List Int) (_ : List Int) => none) (fun _ rq => mb_jrS7 N k0 rq) M
theorem mrs_jrS7 (N : Nat) (k0 : Nat → List Int → List Int → List Int → Option (V × H)) (M : Nat) (t0 : Int) (t1 : Int) (t2 : Int) (t3 : Int) (t12n : Nat) (t15 : Int) (l0 : List Int) (l1 : List Int) (l2 : List Int) : mr_jrS7 N k0 (M + 1) t0 t1 t2 t3 t12n t15 l0 l1 l2 = mb_jrS7 N k0 (mr_jrS7 N k0 M) t0 t1 t2 t3 t12n t15 l0 l1 l2 := rfl
theorem H_jrS7 (N : Nat) : ∀ (M : Nat) (t0 : Int) (t1 : Int) (t2 : Int) (t3 : Int) (t12n : Nat) (t15 : Int) (l0 : List Int) (l1 : List Int) (l2 : List Int), lp_jrS7 N M (st_jrS7 t0 t1 t2 t3 t12n t15 l0 l1 l2) (kt_jrS7 N (kEnd Try.f51 0)) = mr_jrS7 N (ce_jrS7_0 N) M t0 t1 t2 t3 t12n t15 l0 l1 l2 := by
  have he0 : ∀ (t12n : Nat) (l0 : List Int) (l1 : List Int) (l2 : List Int), kt_jrS7 N (kEnd Try.f51 0) (.exit 0) (en_jrS7_0 t12n l0 l1 l2) = ce_jrS7_0 N t12n l0 l1 l2 := by
    intro t12n l0 l1 l2
    rw [end_jrS7_0]
    unfold ce_jrS7_0
    first | (simp only []; done) | (simp only []; kernel_rfl) | rfl
  intro M
  induction M with
  | zero => intros; rfl
  | succ M ih =>
    intro t0 t1 t2 t3 t12n t15 l0 l1 l2
    rw [step_jrS7]
    rw [mrs_jrS7]
    unfold mb_jrS7
    first | (simp only [ih, he0]; done) | (simp only [ih, he0]; kernel_rfl) | rfl
noncomputable def md_jrS (N : Nat) (a : Int) (b : Int) (c : Int) (z : Int) : Option (V × H) := (match !(is6 a) with | true => some (.tup [.a (.nil), .a (.nil), .a (.nil), .a (.bool false)], []) | false => (match !(is6 b) with | true => some (.tup [.a (.nil), .a (.nil), .a (.nil), .a (.bool false)], []) | false => (match !(totS a b c) with | true => some (.tup [.a (.nil), .a (.nil), .a (.nil), .a (.bool false)], []) | false => (match !(partW c z) with | true => some (.tup [.a (.nil), .a (.nil), .a (.nil), .a (.bool false)], []) | false => (mr_jrS7 N (ce_jrS7_0 N) N a b c z 0 (IntKind.i64.wrap (0 - a)) [] [] [])))))
theorem mdl_jrS (N : Nat) (a : Int) (b : Int) (c : Int) (z : Int) : run ty tab_jrS an_jrS N Try.f51 [.int .i64 a, .int .i64 b, .int .i64 c, .int .i64 z] [] = md_jrS N a b c z := by
  rw [run_jrS]
  unfold md_jrS
  first | (simp only [H_jrS7 N N]; done) | (simp only [H_jrS7 N N]; kernel_rfl) | rfl
def an_jrI : Ann := ⟨fun r => if r = 5 then some ([0, 1, 2, 3, 12, 13, 14, 15], [8, 9, 10, 11, 12, 13, 14]) else none, fun _ _ => .quiet⟩
def tab_jrI : Fns := tabT [(112, gTurns), (93, gT gtotI), (94, gT gpartW), (95, gJs)]
theorem tabok_jrI : ∀ f, FnT Try.prog f (tab_jrI f) := (tabT_cons (k := 112) ok_areT (tabT_cons (k := 93) ok_isTotal (tabT_cons (k := 94) ok_isPart (tabT_cons (k := 95) ok_js tabT_nil))))
def st_jrI5 (t0 : Int) (t1 : Int) (t2 : Int) (t3 : Int) (t12n : Nat) (t15 : Int) (l0 : List Int) (l1 : List Int) (l2 : List Int) : St := ⟨(.int .i64 t0 :: .int .i64 t1 :: .int .i64 t2 :: .int .i64 t3 :: (anys 8 (.sl 0 0 t12n :: .sl 1 0 t12n :: .sl 2 0 t12n :: .int .i64 t15 :: (anys 68 [])))), [.at true (.int .i64 l0), .at true (.int .i64 l1), .at true (.int .i64 l2)]⟩
abbrev kp_jrI5 : Option (List Nat × List Nat) := some ([0, 1, 2, 3, 12, 13, 14, 15], [8, 9, 10, 11, 12, 13, 14])
noncomputable def lp_jrI5 {R : Type} (N M : Nat) (s : St) (K : X → St → Option R) : Option R := loopH 0 kp_jrI5 (fun st K => exec ty tab_jrI an_jrI N 0 (atOf [true, true, true, false, true, false, false] Try.f52) st K) M s K
noncomputable def kt_jrI5 {R : Type} (N : Nat) (K : X → St → Option R) : X → St → Option R := kBlkR 0 (kSeqR tab_jrI an_jrI N 0 (atOf [true, true, true, true] Try.f52) (K))
def en_jrI5_0 (t12n : Nat) (l0 : List Int) (l1 : List Int) (l2 : List Int) : St := ⟨(anys 12 (.sl 0 0 t12n :: .sl 1 0 t12n :: .sl 2 0 t12n :: (anys 69 []))), [.at true (.int .i64 l0), .at true (.int .i64 l1), .at true (.int .i64 l2)]⟩
theorem run_jrI (N : Nat) (a : Int) (b : Int) (c : Int) (z : Int) : run ty tab_jrI an_jrI N Try.f52 [.int .i64 a, .int .i64 b, .int .i64 c, .int .i64 z] []
    = (match decide ([a, b].length = 2 ∧ 2 < 2147483648) with | true => (match !(turnsB [a, b]) with | true => some (.tup [.a (.nil), .a (.nil), .a (.nil), .a (.bool false)], []) | false => (match !(totI a b c) with | true => some (.tup [.a (.nil), .a (.nil), .a (.nil), .a (.bool false)], []) | false => (match !(partW c z) with | true => some (.tup [.a (.nil), .a (.nil), .a (.nil), .a (.bool false)], []) | false => lp_jrI5 N N (st_jrI5 a b c z 0 (IntKind.i64.wrap (0 - a)) [] [] []) (kt_jrI5 N (kEnd Try.f52 0))))) | false => none) := by
  kernel_rfl
theorem step_jrI5 {R : Type} (N M : Nat) (K : X → St → Option R) (t0 : Int) (t1 : Int) (t2 : Int) (t3 : Int) (t12n : Nat) (t15 : Int) (l0 : List Int) (l1 : List Int) (l2 : List Int) : lp_jrI5 N (M + 1) (st_jrI5 t0 t1 t2 t3 t12n t15 l0 l1 l2) K
    = (match decide ((t15 : Int) ≤ t0) with | true => (match !(partW t1 (IntKind.i64.wrap (t3 - t15))) with | true => lp_jrI5 N M (st_jrI5 t0 t1 t2 t3 t12n (IntKind.i64.wrap (t15 + 2)) l0 l1 l2) K | false => (match canJ t0 t15 t1 (IntKind.i64.wrap (t3 - t15)) t2 with | true => (match apok true t12n 1 l0.length 1 (t12n + 1) 8 with | true => (match apok true t12n 1 l1.length 1 (t12n + 1) 8 with | true => (match apok true t12n 1 l2.length 1 (t12n + 1) 8 with | true => lp_jrI5 N M (st_jrI5 t0 t1 t2 t3 (t12n + 1) (IntKind.i64.wrap (t15 + 2)) (l0 ++ [(jV t0 t15 t1 (IntKind.i64.wrap (t3 - t15)) t2).1]) (l1 ++ [(jV t0 t15 t1 (IntKind.i64.wrap (t3 - t15)) t2).2.1]) (l2 ++ [(jV t0 t15 t1 (IntKind.i64.wrap (t3 - t15)) t2).2.2])) K | false => none) | false => none) | false => none) | false => none)) | false => K (.exit 0) (en_jrI5_0 t12n l0 l1 l2)) := by
  kernel_rfl
theorem end_jrI5_0 (N : Nat) (t12n : Nat) (l0 : List Int) (l1 : List Int) (l2 : List Int) : kt_jrI5 N (kEnd Try.f52 0) (.exit 0) (en_jrI5_0 t12n l0 l1 l2)
    = some (.tup [.a (.sl 0 0 t12n), .a (.sl 1 0 t12n), .a (.sl 2 0 t12n), .a (.bool true)], [.at true (.int .i64 l0), .at true (.int .i64 l1), .at true (.int .i64 l2)]) := by
  kernel_rfl
noncomputable def ce_jrI5_0 (N : Nat) (t12n : Nat) (l0 : List Int) (l1 : List Int) (l2 : List Int) : Option (V × H) := some (.tup [.a (.sl 0 0 t12n), .a (.sl 1 0 t12n), .a (.sl 2 0 t12n), .a (.bool true)], [.at true (.int .i64 l0), .at true (.int .i64 l1), .at true (.int .i64 l2)])
noncomputable def mb_jrI5 (N : Nat) (k0 : Nat → List Int → List Int → List Int → Option (V × H)) (rq : Int → Int → Int → Int → Nat → Int → List Int → List Int → List Int → Option (V × H)) : Int → Int → Int → Int → Nat → Int → List Int → List Int → List Int → Option (V × H) := fun (t0 : Int) (t1 : Int) (t2 : Int) (t3 : Int) (t12n : Nat) (t15 : Int) (l0 : List Int) (l1 : List Int) (l2 : List Int) => (match decide ((t15 : Int) ≤ t0) with | true => (match !(partW t1 (IntKind.i64.wrap (t3 - t15))) with | true => (rq t0 t1 t2 t3 t12n (IntKind.i64.wrap (t15 + 2)) l0 l1 l2) | false => (match canJ t0 t15 t1 (IntKind.i64.wrap (t3 - t15)) t2 with | true => (match apok true t12n 1 l0.length 1 (t12n + 1) 8 with | true => (match apok true t12n 1 l1.length 1 (t12n + 1) 8 with | true => (match apok true t12n 1 l2.length 1 (t12n + 1) 8 with | true => (rq t0 t1 t2 t3 (t12n + 1) (IntKind.i64.wrap (t15 + 2)) (l0 ++ [(jV t0 t15 t1 (IntKind.i64.wrap (t3 - t15)) t2).1]) (l1 ++ [(jV t0 t15 t1 (IntKind.i64.wrap (t3 - t15)) t2).2.1]) (l2 ++ [(jV t0 t15 t1 (IntKind.i64.wrap (t3 - t15)) t2).2.2])) | false => none) | false => none) | false => none) | false => none)) | false => (k0 t12n l0 l1 l2))
noncomputable def mr_jrI5 (N : Nat) (k0 : Nat → List Int → List Int → List Int → Option (V × H)) (M : Nat) : Int → Int → Int → Int → Nat → Int → List Int → List Int → List Int → Option (V × H) := Nat.rec (motive := fun _ => Int → Int → Int → Int → Nat → Int → List Int → List Int → List Int → Option (V × H)) (fun (_ : Int) (_ : Int) (_ : Int) (_ : Int) (_ : Nat) (_ : Int) (_ : List Int) (_ : List Int) (_ : List Int) => none) (fun _ rq => mb_jrI5 N k0 rq) M
theorem mrs_jrI5 (N : Nat) (k0 : Nat → List Int → List Int → List Int → Option (V × H)) (M : Nat) (t0 : Int) (t1 : Int) (t2 : Int) (t3 : Int) (t12n : Nat) (t15 : Int) (l0 : List Int) (l1 : List Int) (l2 : List Int) : mr_jrI5 N k0 (M + 1) t0 t1 t2 t3 t12n t15 l0 l1 l2 = mb_jrI5 N k0 (mr_jrI5 N k0 M) t0 t1 t2 t3 t12n t15 l0 l1 l2 := rfl
theorem H_jrI5 (N : Nat) : ∀ (M : Nat) (t0 : Int) (t1 : Int) (t2 : Int) (t3 : Int) (t12n : Nat) (t15 : Int) (l0 : List Int) (l1 : List Int) (l2 : List Int), lp_jrI5 N M (st_jrI5 t0 t1 t2 t3 t12n t15 l0 l1 l2) (kt_jrI5 N (kEnd Try.f52 0)) = mr_jrI5 N (ce_jrI5_0 N) M t0 t1 t2 t3 t12n t15 l0 l1 l2 := by
  have he0 : ∀ (t12n : Nat) (l0 : List Int) (l1 : List Int) (l2 : List Int), kt_jrI5 N (kEnd Try.f52 0) (.exit 0) (en_jrI5_0 t12n l0 l1 l2) = ce_jrI5_0 N t12n l0 l1 l2 := by
    intro t12n l0 l1 l2
    rw [end_jrI5_0]
    unfold ce_jrI5_0
    first | (simp only []; done) | (simp only []; kernel_rfl) | rfl
  intro M
  induction M with
  | zero => intros; rfl
  | succ M ih =>
    intro t0 t1 t2 t3 t12n t15 l0 l1 l2
    rw [step_jrI5]
    rw [mrs_jrI5]
    unfold mb_jrI5
    first | (simp only [ih, he0]; done) | (simp only [ih, he0]; kernel_rfl) | rfl
noncomputable def md_jrI (N : Nat) (a : Int) (b : Int) (c : Int) (z : Int) : Option (V × H) := (match decide ([a, b].length = 2 ∧ 2 < 2147483648) with | true => (match !(turnsB [a, b]) with | true => some (.tup [.a (.nil), .a (.nil), .a (.nil), .a (.bool false)], []) | false => (match !(totI a b c) with | true => some (.tup [.a (.nil), .a (.nil), .a (.nil), .a (.bool false)], []) | false => (match !(partW c z) with | true => some (.tup [.a (.nil), .a (.nil), .a (.nil), .a (.bool false)], []) | false => (mr_jrI5 N (ce_jrI5_0 N) N a b c z 0 (IntKind.i64.wrap (0 - a)) [] [] [])))) | false => none)
theorem mdl_jrI (N : Nat) (a : Int) (b : Int) (c : Int) (z : Int) : run ty tab_jrI an_jrI N Try.f52 [.int .i64 a, .int .i64 b, .int .i64 c, .int .i64 z] [] = md_jrI N a b c z := by
  rw [run_jrI]
  unfold md_jrI
  first | (simp only [H_jrI5 N N]; done) | (simp only [H_jrI5 N N]; kernel_rfl) | rfl
def oR3 : Option (V × H) → Option (List Int × List Int × List Int)
  | some (.tup [.a (.sl 0 0 n0), .a (.sl 1 0 n1), .a (.sl 2 0 n2), .a (.bool true)], [.at true (.int .i64 l0), .at true (.int .i64 l1), .at true (.int .i64 l2)]) => match decide (n0 = l0.length ∧ n1 = l1.length ∧ n2 = l2.length) with | true => some (l0, l1, l2) | false => none
  | _ => none
theorem oR3_inv {o : Option (V × H)} {l0 l1 l2 : List Int} (h : oR3 o = some (l0, l1, l2)) : o = some (.tup [.a (.sl 0 0 l0.length), .a (.sl 1 0 l1.length), .a (.sl 2 0 l2.length), .a (.bool true)], [.at true (.int .i64 l0), .at true (.int .i64 l1), .at true (.int .i64 l2)]) := by
  unfold oR3 at h
  split at h
  · split at h
    · rename_i hd
      obtain ⟨rfl, rfl, rfl⟩ := of_decide_eq_true hd
      cases h
      rfl
    · cases h
  · cases h
def eR3 : Option (List Int × List Int × List Int) → Option (List Int × List Int × List Int) → Bool
  | some (l0, l1, l2), some (m0, m1, m2) => (decide (l0 = m0) && decide (l0.length < 100)) && (decide (l1 = m1) && decide (l1.length < 100)) && (decide (l2 = m2) && decide (l2.length < 100))
  | _, _ => false
theorem eR3_inv {o o' : Option (List Int × List Int × List Int)} (h : eR3 o o' = true) : ∃ l0 l1 l2, o = some (l0, l1, l2) ∧ o' = some (l0, l1, l2) ∧ l0.length < 100 ∧ l1.length < 100 ∧ l2.length < 100 := by
  unfold eR3 at h
  split at h
  · simp only [Bool.and_eq_true, decide_eq_true_eq] at h
    obtain ⟨⟨⟨rfl, a⟩, ⟨rfl, b⟩⟩, ⟨rfl, c⟩⟩ := h
    exact ⟨_, _, _, rfl, rfl, a, b, c⟩
  · cases h
noncomputable def jrDC (A B m k : Nat) : Bool := eR3 (oR3 (md_jrS 20 ((A : Int)) ((B : Int)) ((A : Int) + (B : Int) - 2 * (m : Int)) ((A : Int) + (B : Int) - 2 * (m : Int) - 2 * (k : Int)))) (oR3 (md_jrI 20 ((A : Int)) ((B : Int)) ((A : Int) + (B : Int) - 2 * (m : Int)) ((A : Int) + (B : Int) - 2 * (m : Int) - 2 * (k : Int))))
noncomputable def jrDA (A : Nat) : Bool := (List.range (6 + 1)).all fun B => (List.range ((min A B) + 1)).all fun m => (List.range ((A + B - 2 * m) + 1)).all fun k => jrDC A B m k
theorem jrDA_0 : jrDA 0 = true := by kernel_rfl
theorem jrDA_1 : jrDA 1 = true := by kernel_rfl
theorem jrDA_2 : jrDA 2 = true := by kernel_rfl
theorem jrDA_3 : jrDA 3 = true := by kernel_rfl
theorem jrDA_4 : jrDA 4 = true := by kernel_rfl
theorem jrDA_5 : jrDA 5 = true := by kernel_rfl
theorem jrDA_6 : jrDA 6 = true := by kernel_rfl
theorem jrDA_all {a : Nat} (ha : a ≤ 6) : jrDA a = true := by
  have : a = 0 ∨ a = 1 ∨ a = 2 ∨ a = 3 ∨ a = 4 ∨ a = 5 ∨ a = 6 := by omega
  rcases this with rfl | rfl | rfl | rfl | rfl | rfl | rfl
  · exact jrDA_0
  · exact jrDA_1
  · exact jrDA_2
  · exact jrDA_3
  · exact jrDA_4
  · exact jrDA_5
  · exact jrDA_6
noncomputable def jrD (a b c z : Int) : List Int × List Int × List Int := (oR3 (md_jrS 20 a b c z)).getD ([], [], [])
theorem jrD_ok {a b c z : Int} (h : rowS a b c z = true) : md_jrS 20 a b c z = some (.tup [.a (.sl 0 0 (jrD a b c z).1.length), .a (.sl 1 0 (jrD a b c z).2.1.length), .a (.sl 2 0 (jrD a b c z).2.2.length), .a (.bool true)], [.at true (.int .i64 (jrD a b c z).1), .at true (.int .i64 (jrD a b c z).2.1), .at true (.int .i64 (jrD a b c z).2.2)]) ∧ md_jrI 20 a b c z = some (.tup [.a (.sl 0 0 (jrD a b c z).1.length), .a (.sl 1 0 (jrD a b c z).2.1.length), .a (.sl 2 0 (jrD a b c z).2.2.length), .a (.bool true)], [.at true (.int .i64 (jrD a b c z).1), .at true (.int .i64 (jrD a b c z).2.1), .at true (.int .i64 (jrD a b c z).2.2)]) ∧ (jrD a b c z).1.length < 100 ∧ (jrD a b c z).2.1.length < 100 ∧ (jrD a b c z).2.2.length < 100 := by
  unfold rowS is6 at h
  rw [Bool.and_eq_true, Bool.and_eq_true, Bool.and_eq_true, inB_iff, inB_iff] at h
  obtain ⟨h1, h2, h3, h4⟩ := h
  have g3 := (totS_iff h1 h2).mp h3
  unfold TotP at g3
  have g4 := (partW_iff (by omega) (by omega)).mp h4
  obtain ⟨A, rfl⟩ : ∃ A : Nat, a = (A : Int) := ⟨a.toNat, by omega⟩
  obtain ⟨B, rfl⟩ : ∃ B : Nat, b = (B : Int) := ⟨b.toNat, by omega⟩
  obtain ⟨m, hm⟩ : ∃ m : Nat, ((A : Int) + (B : Int) - c) / 2 = (m : Int) := ⟨(((A : Int) + (B : Int) - c) / 2).toNat, by omega⟩
  have hc : c = (A : Int) + (B : Int) - 2 * (m : Int) := by omega
  obtain ⟨k, hk⟩ : ∃ k : Nat, (c - z) / 2 = (k : Int) := ⟨((c - z) / 2).toNat, by omega⟩
  have hz : z = (A : Int) + (B : Int) - 2 * (m : Int) - 2 * (k : Int) := by omega
  have hr := List.all_eq_true.mp (List.all_eq_true.mp (List.all_eq_true.mp (jrDA_all (a := A) (by omega)) B (List.mem_range.mpr (by omega))) m (List.mem_range.mpr (by omega))) k (List.mem_range.mpr (by omega))
  unfold jrDC at hr
  rw [← hz, ← hc] at hr
  obtain ⟨l0, l1, l2, e1, e2, e3⟩ := eR3_inv hr
  unfold jrD
  rw [e1]
  exact ⟨oR3_inv e1, oR3_inv e2, e3⟩
noncomputable def gJr : GT := fun vs h => match vs, h with | [.int .i64 a, .int .i64 b, .int .i64 c, .int .i64 z], [] => .ite (rowS a b c z) (.ret (.tup [.a (.sl 0 0 (jrD a b c z).1.length), .a (.sl 1 0 (jrD a b c z).2.1.length), .a (.sl 2 0 (jrD a b c z).2.2.length), .a (.bool true)]) [.at true (.int .i64 (jrD a b c z).1), .at true (.int .i64 (jrD a b c z).2.1), .at true (.int .i64 (jrD a b c z).2.2)]) (.ret (.tup [.a .nil, .a .nil, .a .nil, .a (.bool false)]) []) | _, _ => .no
theorem ok_jrS : FnT Try.prog 51 gJr := by
  refine fnT tabok_jrS Try.func51 rfl rfl an_jrS fun vs h v h' e => ⟨20, ?_⟩
  unfold gJr at e
  split at e
  case h_2 => exact (T.no_inv e).elim
  rename_i a b c z
  refine Eq.trans ?_ e
  show _ = T.k _ _
  simp only [T.k]
  refine Eq.trans (mdl_jrS 20 a b c z) ?_
  cases hs : rowS a b c z with
  | true => exact (jrD_ok hs).1
  | false =>
    unfold rowS at hs
    unfold md_jrS
    cases h1 : is6 a
    · rfl
    · cases h2 : is6 b
      · rfl
      · cases h3 : totS a b c
        · rfl
        · cases h4 : partW c z
          · rfl
          · rw [h1, h2, h3, h4] at hs
            cases hs
theorem ok_jrI : FnT Try.prog 52 gJr := by
  refine fnT tabok_jrI Try.func52 rfl rfl an_jrI fun vs h v h' e => ⟨20, ?_⟩
  unfold gJr at e
  split at e
  case h_2 => exact (T.no_inv e).elim
  rename_i a b c z
  refine Eq.trans ?_ e
  show _ = T.k _ _
  simp only [T.k]
  refine Eq.trans (mdl_jrI 20 a b c z) ?_
  cases hs : rowS a b c z with
  | true => exact (jrD_ok hs).2.1
  | false =>
    unfold rowS at hs
    unfold md_jrI
    have ht : turnsB [a, b] = (is6 a && is6 b) := by
      unfold turnsB is6
      simp [List.all]
    have hd : decide ([a, b].length = 2 ∧ 2 < 2147483648) = true := decide_eq_true ⟨rfl, by omega⟩
    rw [hd, ht]
    cases h1 : is6 a
    · rfl
    · cases h2 : is6 b
      · rfl
      · rw [totI_S (inB_iff.mp h1) (inB_iff.mp h2)]
        cases h3 : totS a b c
        · rfl
        · cases h4 : partW c z
          · rfl
          · rw [h1, h2, h3, h4] at hs
            cases hs
noncomputable section
end
end Go.Proofs.Ytbhfjdlhhjeknaa.Ab

namespace Go.Proofs.Ytbhfjdlhhjeknaa.Ab
set_option linter.unusedVariables false
set_option linter.unusedSimpArgs false
open Go
theorem ext_ok {P : Program} {f : FuncId} {fn : Func} {e : Array Value → Sem Value} {g : GT} (hf : P.funcs[f]? = some fn) (hname : (fn.name == "runtime.NumGoroutine") = false) (hb : fn.body.isNone = true) (hn : Extern.findNext fn = none) (he : Extern.find fn = some e)
    (H : ∀ vs hp v h', (g vs hp).run = some (v, h') → hp = [] ∧ h' = [] ∧ ∀ (μ : Mu) cvs w, RepVs μ vs cvs → ∃ cv n, (e ⟨cvs⟩).run P w = .ok cv (w.drewN n) ∧ RepV μ v cv) : FnT P f g := by
  intro vs hp v h' ee μ w cvs hr hv
  obtain ⟨rfl, rfl, hh⟩ := H vs hp v h' ee
  obtain ⟨cv, n, h1, h2⟩ := hh μ cvs w hv
  exact .inr ⟨cv, w.drewN n, by rw [run_callFunc_extern hf hname hb hn he, h1]; rfl, μ, Ev.drewN hr n, h2⟩
theorem rep_one {μ : Mu} {v : V} {cvs : List Value} (h : RepVs μ [v] cvs) : ∃ c, cvs = [c] ∧ RepV μ v c := by
  cases cvs with
  | nil => exact h.elim
  | cons c cs =>
    cases cs with
    | nil => exact ⟨c, rfl, h.1⟩
    | cons _ _ => exact h.2.elim
def fsqrt (x : Nat) : Nat := (FloatKind.f64.format.sqrt x).getD (qnan .f64)
def gSqrt : GT := fun vs h => match vs, h with | [.fl .f64 x], [] => .ret (.fl .f64 (fsqrt x)) [] | _, _ => .no
theorem fsqrt_canon (b : Nat) : fsqrt (canon .f64 b) = canon .f64 (fsqrt b) := by
  cases hb : isN .f64 b with
  | false =>
    rw [canon_of hb]
    unfold fsqrt
    cases e : FloatKind.f64.format.sqrt b with | none => exact (canon_qnan .f64).symm
    | some r =>
      unfold Ieee.Format.sqrt at e
      simp only [Option.map_eq_some_iff] at e
      obtain ⟨d, h1, rfl⟩ := e
      exact (canon_of (isN_write .f64 (root_some h1).2)).symm
  | true =>
    have key : ∀ c, isN .f64 c = true → fsqrt c = qnan .f64 := by
      intro c hc
      unfold fsqrt
      cases e : FloatKind.f64.format.sqrt c with | none => rfl
      | some r =>
        unfold Ieee.Format.sqrt at e
        simp only [Option.map_eq_some_iff] at e
        obtain ⟨d, h1, _⟩ := e
        have h2 : (FloatKind.f64.format.read c).isNaN = true := hc
        rw [(root_some h1).1] at h2
        cases h2
    rw [key _ (by rw [isN_canon]; exact hb), key _ hb, canon_qnan]
theorem sqrt_ok {P : Program} {f : FuncId} {fn : Func} (hf : P.funcs[f]? = some fn) (hname : (fn.name == "runtime.NumGoroutine") = false) (hb : fn.body.isNone = true) (hn : Extern.findNext fn = none) (he : Extern.find fn = some Extern.MathSqrt.sqrt) : FnT P f gSqrt := by
  refine ext_ok hf hname hb hn he fun vs hp v h' e => ?_
  unfold gSqrt at e
  split at e
  case h_2 => exact (T.no_inv e).elim
  obtain ⟨rfl, rfl⟩ := T.ret_inv e
  refine ⟨rfl, rfl, fun μ cvs w hv => ?_⟩
  obtain ⟨c, rfl, b, rfl, rfl⟩ := rep_one hv
  cases e : FloatKind.f64.format.sqrt b with
  | some r =>
    refine ⟨.float .f64 r, 0, by show ((match FloatKind.f64.format.sqrt b with | some r => pure (.float .f64 r) | none => do pure (.float .f64 (← choose (.nanBits .f64 b b)))) : Sem Value).run P w = _; rw [e]; rfl, r, rfl, ?_⟩
    rw [fsqrt_canon]
    unfold fsqrt
    rw [e]
    rfl
  | none =>
    refine ⟨.float .f64 ((Question.nanBits .f64 b b).cut (w.tape w.drawn (.nanBits .f64 b b))), 1, by show ((match FloatKind.f64.format.sqrt b with | some r => pure (.float .f64 r) | none => do pure (.float .f64 (← choose (.nanBits .f64 b b)))) : Sem Value).run P w = _; rw [e]; rfl, _, rfl, ?_⟩
    rw [fsqrt_canon]
    have : fsqrt b = qnan .f64 := by unfold fsqrt; rw [e]; rfl
    rw [this, canon_qnan]
    exact canon_nan (isN_cut .f64 (.nanBits .f64 b b) (w.tape w.drawn (.nanBits .f64 b b)) (.inl ⟨b, b, rfl⟩))
end Go.Proofs.Ytbhfjdlhhjeknaa.Ab

namespace Go.Proofs.Ytbhfjdlhhjeknaa.Ab
set_option linter.unusedVariables false
set_option linter.unusedSimpArgs false
open Go
theorem cut_le (neg : Bool) (n drop : Nat) : Ieee.Toward.even.cut neg n drop ≤ n / 2 ^ drop + 1 := by
  unfold Ieee.Toward.cut
  simp only [Nat.one_shiftLeft]
  have hm : ∀ b : Bool, b.toNat ≤ 1 := fun b => by cases b <;> decide
  by_cases h : drop ≤ n.log2 + 2
  · rw [Nat.min_eq_left h]
    exact Nat.add_le_add_left (hm _) _
  · rw [Nat.min_eq_right (by omega)]
    have h1 : n < 2 ^ (n.log2 + 1) := Nat.lt_log2_self
    have h2 : 2 ^ (n.log2 + 1) ≤ 2 ^ (n.log2 + 2) := Nat.pow_le_pow_right (by decide) (by omega)
    rw [Nat.div_eq_of_lt (Nat.lt_of_lt_of_le h1 h2)]
    exact Nat.add_le_add (Nat.zero_le _) (hm _)
theorem cut_zero (neg : Bool) (n : Nat) : Ieee.Toward.even.cut neg n 0 = n := by
  unfold Ieee.Toward.cut
  simp [Nat.mod_one]
theorem near_le (f : Ieee.Format) (neg : Bool) (m : Nat) (p B : Int) (hB : f.leastPlace + f.fractionBits ≤ B) (h : m = 0 ∨ p + (m.log2 : Int) < B) :
    ∃ r, f.nearest neg m p = f.word neg r ∧ r ≤ (B - f.leastPlace - f.fractionBits + 1).toNat * f.binade := by
  unfold Ieee.Format.nearest
  by_cases hm : m = 0
  · rw [if_pos hm]
    exact ⟨0, rfl, Nat.zero_le _⟩
  rw [if_neg hm]
  have h : p + (m.log2 : Int) < B := h.resolve_left hm
  refine ⟨_, rfl, Nat.le_trans (Nat.min_le_left _ _) ?_⟩
  have hb : f.binade = 2 ^ f.fractionBits := rfl
  generalize f.leastPlace = least at *
  generalize f.fractionBits = frac at *
  rw [hb]
  generalize hL : m.log2 = L at *
  have hmL : m < 2 ^ (L + 1) := by rw [← hL]; exact Nat.lt_log2_self
  by_cases hc : least ≤ p + L - frac
  · rw [Int.max_eq_left hc]
    have key : Ieee.Toward.even.cut neg (m <<< (p - (p + L - frac)).toNat) ((p + L - frac) - p).toNat ≤ 2 * 2 ^ frac := by
      by_cases hp : L ≤ frac
      · rw [show ((p + L - frac) - p).toNat = 0 by omega, cut_zero, Nat.shiftLeft_eq, show (p - (p + L - frac)).toNat = frac - L by omega]
        have : m * 2 ^ (frac - L) ≤ 2 ^ (L + 1) * 2 ^ (frac - L) := Nat.mul_le_mul_right _ (Nat.le_of_lt hmL)
        rw [← Nat.pow_add, show L + 1 + (frac - L) = frac + 1 by omega, Nat.pow_succ] at this
        omega
      · rw [show (p - (p + L - frac)).toNat = 0 by omega, show ((p + L - frac) - p).toNat = L - frac by omega]
        refine Nat.le_trans (cut_le _ _ _) ?_
        have : (m <<< 0) / 2 ^ (L - frac) < 2 * 2 ^ frac := by
          rw [Nat.shiftLeft_zero, Nat.div_lt_iff_lt_mul (Nat.pow_pos (by decide))]
          rw [show 2 * 2 ^ frac = 2 ^ (frac + 1) by rw [Nat.pow_succ]; omega, ← Nat.pow_add, show frac + 1 + (L - frac) = L + 1 by omega]
          exact hmL
        omega
    have e : (B - least - frac + 1).toNat = (p + L - frac - least).toNat + 2 + (B - 1 - (p + L)).toNat := by omega
    rw [e, Nat.add_mul, Nat.add_mul]
    refine Nat.le_trans (Nat.add_le_add_left key _) (Nat.le_add_right _ _)
  · rw [Int.max_eq_right (by omega)]
    have key : Ieee.Toward.even.cut neg (m <<< (p - least).toNat) (least - p).toNat ≤ 2 ^ frac := by
      by_cases hp : least ≤ p
      · rw [show (least - p).toNat = 0 by omega, cut_zero, Nat.shiftLeft_eq]
        have : m * 2 ^ (p - least).toNat ≤ 2 ^ (L + 1) * 2 ^ (p - least).toNat := Nat.mul_le_mul_right _ (Nat.le_of_lt hmL)
        rw [← Nat.pow_add] at this
        exact Nat.le_trans this (Nat.pow_le_pow_right (by decide) (by omega))
      · rw [show (p - least).toNat = 0 by omega]
        refine Nat.le_trans (cut_le _ _ _) ?_
        have : (m <<< 0) / 2 ^ (least - p).toNat < 2 ^ frac := by
          rw [Nat.shiftLeft_zero, Nat.div_lt_iff_lt_mul (Nat.pow_pos (by decide)), ← Nat.pow_add]
          exact Nat.lt_of_lt_of_le hmL (Nat.pow_le_pow_right (by decide) (by omega))
        omega
    rw [show (least - least).toNat = 0 by omega, Nat.zero_mul, Nat.zero_add]
    refine Nat.le_trans key ?_
    have : 1 * 2 ^ frac ≤ (B - least - frac + 1).toNat * 2 ^ frac := Nat.mul_le_mul_right _ (by omega)
    omega
theorem read64_le (neg : Bool) (r K : Nat) (hr : r ≤ K * 4503599627370496) (hK : K < 2047) :
    ∃ m e, Ieee.double.read (Ieee.double.word neg r) = .number neg m e ∧ (m = 0 ∨ e + (m.log2 : Int) ≤ (K : Int) - 1023) ∧ m < 9007199254740992 ∧ -1074 ≤ e := by
  unfold Ieee.Format.read Ieee.Format.word
  have c1 : Ieee.double.signWeight = 9223372036854775808 := by decide
  have c2 : Ieee.double.binade = 4503599627370496 := by decide
  have c3 : Ieee.double.infRung = 9218868437227405312 := by decide
  have c4 : Ieee.double.leastPlace = -1074 := by decide
  simp only [c1, c2, c3, c4]
  have hm : (if neg = true then 9223372036854775808 + r else r) % 9223372036854775808 = r := by split <;> omega
  have hs : ((if neg = true then 9223372036854775808 + r else r) / 9223372036854775808 % 2 == 1) = neg := by
    cases neg
    · rw [if_neg (by decide), Nat.div_eq_of_lt (by omega)]; rfl
    · rw [if_pos rfl, Nat.add_div_left _ (by decide), Nat.div_eq_of_lt (by omega)]; rfl
  rw [hm, hs]
  split
  · rename_i h1
    refine ⟨_, _, rfl, ?_, by omega, by omega⟩
    by_cases h0 : r = 0
    · exact .inl h0
    · right
      have := (Nat.log2_lt h0).2 (show r < 2 ^ 52 by omega)
      omega
  · rename_i h1
    rw [if_pos (by omega)]
    refine ⟨_, _, rfl, .inr ?_, by omega, by omega⟩
    have h2 := (Nat.log2_lt (show 4503599627370496 + r % 4503599627370496 ≠ 0 by omega)).2 (show 4503599627370496 + r % 4503599627370496 < 2 ^ 53 by omega)
    have h3 : r / 4503599627370496 ≤ K := by
      rw [Nat.div_le_iff_le_mul (by decide)]
      omega
    have h4 : 1 ≤ r / 4503599627370496 := by
      rw [Nat.le_div_iff_mul_le (by decide)]
      omega
    omega
theorem fconv_small {y : Nat} {s : Bool} {m : Nat} {e : Int} (hd : FloatKind.f64.decode y = .number s m e) (h : m = 0 ∨ e + (m.log2 : Int) < 127) : ∃ r, fconv .f64 y .f32 = some r := by
  unfold fconv
  rw [if_neg (by decide), hd]
  rw [if_neg (show ¬ ((Ieee.Datum.number s m e).isNaN = true) from fun h => by cases h)]
  unfold floatToFloatBits
  rw [if_neg (by decide), hd]
  dsimp only
  have hn : (FloatKind.f32.decode (FloatKind.f32.encode (.number s m e))).isInfinity = false := by
    show (Ieee.single.read (Ieee.single.nearest s m e)).isInfinity = false
    obtain ⟨r, h1, h2⟩ := near_le Ieee.single s m e 127 (by decide) h
    rw [h1]
    have h2 : r ≤ 254 * 8388608 := h2
    unfold Ieee.Format.read Ieee.Format.word
    have c1 : Ieee.single.signWeight = 2147483648 := by decide
    have c2 : Ieee.single.binade = 8388608 := by decide
    have c3 : Ieee.single.infRung = 2139095040 := by decide
    simp only [c1, c2, c3]
    have hm : (if s = true then 2147483648 + r else r) % 2147483648 = r := by split <;> omega
    rw [hm]
    split
    · rfl
    · rw [if_pos (by omega)]; rfl
  rw [hn]
  exact ⟨_, rfl⟩
theorem rootFrom_sq (n : Nat) : ∀ todo root, root * root ≤ n → Ieee.Datum.rootFrom n todo root * Ieee.Datum.rootFrom n todo root ≤ n
  | 0, root, h => h
  | todo + 1, root, h => by
    unfold Ieee.Datum.rootFrom
    dsimp only
    split
    · rename_i h1; exact rootFrom_sq n todo _ h1
    · exact rootFrom_sq n todo _ h
theorem up_num {x : Nat} (h : isN .f32 x = false) : (∃ s, FloatKind.f64.decode (up x) = .infinity s) ∨ ∃ s m e, FloatKind.f64.decode (up x) = .number s m e ∧ (m = 0 ∨ e + (m.log2 : Int) ≤ 128) := by
  have hx := fconv_eq x
  unfold fconv at hx
  rw [if_neg (by decide)] at hx
  unfold isN at h
  rw [if_neg (by rw [h]; decide)] at hx
  unfold floatToFloatBits at hx
  rw [if_neg (by decide)] at hx
  cases hd : FloatKind.f32.decode x with
  | nan s f => rw [hd] at h; cases h
  | infinity s =>
    rw [hd] at hx
    simp only [Option.some.injEq] at hx
    left
    rw [← hx]
    cases s
    · exact ⟨false, by decide⟩
    · exact ⟨true, by decide⟩
  | number s m e =>
    rw [hd] at hx
    simp only at hx
    split at hx
    · cases hx
    · simp only [Option.some.injEq] at hx
      right
      have hb : m < 2 ^ 24 ∧ e ≤ 104 := by
        have hd' : Ieee.single.read x = .number s m e := hd
        unfold Ieee.Format.read at hd'
        have c1 : Ieee.single.signWeight = 2147483648 := by decide
        have c2 : Ieee.single.binade = 8388608 := by decide
        have c3 : Ieee.single.infRung = 2139095040 := by decide
        have c4 : Ieee.single.leastPlace = -149 := by decide
        simp only [c1, c2, c3, c4] at hd'
        split at hd'
        · simp only [Ieee.Datum.number.injEq] at hd'; omega
        · split at hd'
          · simp only [Ieee.Datum.number.injEq] at hd'; omega
          · split at hd' <;> cases hd'
      have hl : m = 0 ∨ e + (m.log2 : Int) < 128 := by
        by_cases h0 : m = 0
        · exact .inl h0
        · have := (Nat.log2_lt h0).2 hb.1
          omega
      obtain ⟨r, h1, h2⟩ := near_le Ieee.double s m e 128 (by decide) hl
      have h2 : r ≤ 1151 * 4503599627370496 := h2
      obtain ⟨m', e', h3, h4, _⟩ := read64_le s r 1151 h2 (by decide)
      refine ⟨s, m', e', ?_, by omega⟩
      rw [← hx]
      show Ieee.double.read (Ieee.double.nearest s m e) = _
      rw [h1, h3]
theorem log_sq {w n : Nat} (hw : w ≠ 0) (h : w * w ≤ n) : 2 * w.log2 ≤ n.log2 := by
  have hn : n ≠ 0 := by
    intro h0
    subst h0
    have : 0 < w * w := Nat.mul_pos (by omega) (by omega)
    omega
  have h1 : 2 ^ w.log2 ≤ w := Nat.log2_self_le hw
  rw [Nat.le_log2 hn]
  rw [show 2 * w.log2 = w.log2 + w.log2 by omega, Nat.pow_add]
  exact Nat.le_trans (Nat.mul_le_mul h1 h1) h
theorem log_odd {w b : Nat} (hw : w ≠ 0) (hb : b ≤ 1) : (2 * w + b).log2 = w.log2 + 1 := by
  have h1 : 2 ^ w.log2 ≤ w := Nat.log2_self_le hw
  have h2 : w < 2 ^ (w.log2 + 1) := Nat.lt_log2_self
  rw [Nat.log2_eq_iff (by omega)]
  rw [Nat.pow_succ, Nat.pow_succ] at *
  omega
theorem log_shl {m k : Nat} (hm : m ≠ 0) : (m <<< k).log2 = m.log2 + k := by
  have h1 : 2 ^ m.log2 ≤ m := Nat.log2_self_le hm
  have h2 : m < 2 ^ (m.log2 + 1) := Nat.lt_log2_self
  have h3 : 0 < 2 ^ k := Nat.pow_pos (by decide)
  rw [Nat.shiftLeft_eq, Nat.log2_eq_iff (Nat.ne_of_gt (Nat.mul_pos (by omega) h3))]
  rw [Nat.pow_add, show m.log2 + k + 1 = (m.log2 + 1) + k by omega, Nat.pow_add]
  exact ⟨Nat.mul_le_mul_right _ h1, Nat.mul_lt_mul_of_pos_right h2 h3⟩
theorem root_small (x : Nat) : ∃ r, fconv .f64 (fsqrt (up x)) .f32 = some r := by
  cases hx : isN .f32 x with
  | true =>
    have hu : up x = qnan .f64 := by
      have h := fconv_eq x
      unfold fconv at h
      unfold isN at hx
      rw [if_neg (by decide), if_pos hx] at h
      exact (Option.some.inj h).symm
    rw [hu]
    exact Option.isSome_iff_exists.1 (by decide +kernel)
  | false =>
    rcases up_num hx with ⟨s, hd⟩ | ⟨s, m, e, hd, hb⟩
    · have hd' : Ieee.double.read (up x) = .infinity s := hd
      unfold fsqrt
      show ∃ r, fconv .f64 ((Ieee.double.sqrt (up x)).getD _) .f32 = some r
      unfold Ieee.Format.sqrt
      rw [hd']
      cases s
      · exact Option.isSome_iff_exists.1 (by decide +kernel)
      · exact Option.isSome_iff_exists.1 (by decide +kernel)
    · have hd' : Ieee.double.read (up x) = .number s m e := hd
      have hs : FloatKind.f64.format.sqrt (up x) = ((Ieee.Datum.number s m e).root 54).map Ieee.double.write := by
        show Ieee.double.sqrt (up x) = _
        unfold Ieee.Format.sqrt
        rw [hd']
        rfl
      unfold fsqrt
      rw [hs]
      unfold Ieee.Datum.root
      dsimp only
      by_cases h0 : m = 0
      · rw [if_pos h0]
        subst h0
        have hz : Ieee.double.write (.number s 0 e) = Ieee.double.word s 0 := by
          show Ieee.double.nearest s 0 e = _
          unfold Ieee.Format.nearest
          rw [if_pos rfl]
        show ∃ r, fconv .f64 (Ieee.double.write (.number s 0 e)) .f32 = some r
        rw [hz]
        cases s
        · exact Option.isSome_iff_exists.1 (by decide +kernel)
        · exact Option.isSome_iff_exists.1 (by decide +kernel)
      · rw [if_neg h0]
        cases s with
        | true =>
          rw [if_pos rfl]
          exact Option.isSome_iff_exists.1 (by decide +kernel)
        | false =>
          rw [if_neg (by decide)]
          have hb : e + (m.log2 : Int) ≤ 128 := hb.resolve_left h0
          generalize hmore : (2 * 54 - m.log2 + ((e - ((2 * 54 - m.log2 : Nat) : Int)) % 2).toNat : Nat) = more
          have heven : (e - (more : Int)) % 2 = 0 := by omega
          generalize hw : Ieee.Datum.rootFrom (m <<< more) ((m <<< more).log2 / 2 + 1) 0 = w
          have hsq : w * w ≤ m <<< more := by rw [← hw]; exact rootFrom_sq _ _ _ (by simp)
          generalize hodd : (w * w != m <<< more).toNat = b
          have hb1 : b ≤ 1 := by rw [← hodd]; cases (w * w != m <<< more) <;> decide
          show ∃ r, fconv .f64 (Ieee.double.nearest false (2 * w + b) ((e - (more : Int)) / 2 - 1)) .f32 = some r
          have hval : (2 * w + b) = 0 ∨ ((e - (more : Int)) / 2 - 1) + ((2 * w + b).log2 : Int) < 66 := by
            by_cases hw0 : w = 0
            · subst hw0
              by_cases hb0 : b = 0
              · left; omega
              · right
                have : b = 1 := by omega
                subst this
                have : (2 * 0 + 1).log2 = 0 := by decide
                omega
            · right
              rw [log_odd hw0 hb1]
              have h1 := log_sq hw0 hsq
              rw [log_shl h0] at h1
              omega
          obtain ⟨r, h1, h2⟩ := near_le Ieee.double false _ _ 66 (by decide) hval
          rw [h1]
          have h2 : r ≤ 1089 * 4503599627370496 := h2
          obtain ⟨m', e', h3, h4, _⟩ := read64_le false r 1089 h2 (by decide)
          exact fconv_small (s := false) (m := m') (e := e') h3 (by omega)
def rootF (x : Nat) : Nat := (fconv .f64 (fsqrt (up x)) .f32).getD 0
theorem rootF_eq (x : Nat) : fconv .f64 (fsqrt (up x)) .f32 = some (rootF x) := by
  obtain ⟨r, h⟩ := root_small x
  unfold rootF
  rw [h]; rfl
end Go.Proofs.Ytbhfjdlhhjeknaa.Ab

namespace Go.Proofs.Ytbhfjdlhhjeknaa.Ab
set_option linter.unusedVariables false
set_option linter.unusedSimpArgs false
open Go
theorem ok_msqrt : FnT Try.prog 155 gSqrt := sqrt_ok Try.func155 (by decide) (by rfl) (by rfl) (by rfl)
def tab_mSqrt : Fns := tabT [(155, gSqrt)]
theorem tabok_mSqrt : ∀ f, FnT Try.prog f (tab_mSqrt f) := (tabT_cons (k := 155) ok_msqrt tabT_nil)
theorem run_mSqrt (N : Nat) (x : Nat) : run ty tab_mSqrt ann0 N Try.f99 [.fl .f64 x] []
    = some (.fl .f64 (fsqrt x), []) := by
  kernel_rfl
theorem ok_mSqrt : FnT Try.prog 99 (gSqrt) := by
  refine fnT tabok_mSqrt Try.func99 rfl rfl ann0 fun vs h v h' e => ⟨0, ?_⟩
  unfold gSqrt at e
  split at e
  case h_2 => exact (T.no_inv e).elim
  obtain ⟨rfl, rfl⟩ := T.ret_inv e
  exact run_mSqrt 0 _
def gRoot : G := fun vs h => match vs, h with | [.fl .f32 x], [] => some (.fl .f32 (rootF x), []) | _, _ => none
def tab_RootNumber : Fns := tabT [(99, gSqrt)]
theorem tabok_RootNumber : ∀ f, FnT Try.prog f (tab_RootNumber f) := (tabT_cons (k := 99) ok_mSqrt tabT_nil)
theorem run_RootNumber (N : Nat) (x : Nat) : run ty tab_RootNumber ann0 N Try.f41 [.fl .f32 x] []
    = (match fconv .f32 x .f64 with | some c1 => (match fconv .f64 (fsqrt c1) .f32 with | some c2 => some (.fl .f32 c2, []) | none => none) | none => none) := by
  kernel_rfl
theorem ok_RootNumber : FnT Try.prog 41 (gT gRoot) := by
  refine fnT tabok_RootNumber Try.func41 rfl rfl ann0 fun vs h v h' e => ⟨0, ?_⟩
  rw [T.run_of] at e
  unfold gRoot at e
  split at e
  case h_2 => cases e
  rename_i x
  cases e
  refine Eq.trans (run_RootNumber 0 x) ?_
  simp only [fconv_eq, rootF_eq, Option.isSome_some, Option.getD_some]
def jF (t : Int × Int × Int) : Nat := fop .mul .f32 (floatOfInt .f32 t.1) (rootF (fop .quo .f32 (floatOfInt .f32 t.2.1) (floatOfInt .f32 t.2.2)))
def jD : List (Int × Int × Int) := [(-1, 1, 2), (-1, 1, 3), (-1, 1, 4), (-1, 1, 5), (-1, 1, 6), (-1, 1, 7), (-1, 1, 8), (-1, 1, 10), (-1, 1, 11), (-1, 1, 12), (-1, 1, 14), (-1, 1, 15), (-1, 1, 20), (-1, 1, 21), (-1, 1, 28), (-1, 1, 30), (-1, 1, 35), (-1, 1, 60), (-1, 1, 63), (-1, 1, 70), (-1, 1, 84), (-1, 1, 99), (-1, 1, 105), (-1, 2, 3), (-1, 2, 5), (-1, 2, 7), (-1, 2, 15), (-1, 2, 21), (-1, 2, 35), (-1, 2, 63), (-1, 2, 105), (-1, 3, 4), (-1, 3, 5), (-1, 3, 7), (-1, 3, 8), (-1, 3, 10), (-1, 3, 11), (-1, 3, 14), (-1, 3, 20), (-1, 3, 28), (-1, 3, 35), (-1, 3, 70), (-1, 4, 5), (-1, 4, 7), (-1, 4, 9), (-1, 4, 15), (-1, 4, 21), (-1, 4, 35), (-1, 4, 45), (-1, 4, 63), (-1, 4, 105), (-1, 5, 6), (-1, 5, 7), (-1, 5, 8), (-1, 5, 9), (-1, 5, 11), (-1, 5, 12), (-1, 5, 14), (-1, 5, 21), (-1, 5, 28), (-1, 5, 42), (-1, 5, 84), (-1, 5, 231), (-1, 6, 7), (-1, 6, 11), (-1, 6, 35), (-1, 7, 20), (-1, 7, 30), (-1, 8, 15), (-1, 8, 21), (-1, 8, 35), (-1, 8, 77), (-1, 8, 105), (-1, 9, 20), (-1, 9, 28), (-1, 9, 35), (-1, 9, 70), (-1, 10, 21), (-1, 10, 63), (-1, 10, 99), (-1, 10, 231), (-1, 12, 35), (-1, 14, 45), (-1, 15, 154), (-1, 16, 33), (-1, 16, 35), (-1, 18, 35), (-1, 18, 77), (-1, 20, 77), (-1, 25, 66), (-1, 25, 84), (-1, 27, 70), (-1, 27, 140), (-1, 32, 63), (-1, 32, 105), (-1, 35, 99), (-1, 45, 154), (-1, 49, 120), (-1, 49, 198), (-1, 50, 99), (-1, 50, 231), (-1, 64, 315), (-1, 121, 315), (-1, 125, 1386), (-1, 160, 693), (-1, 169, 462), (-1, 361, 1386), (0, 0, 1), (1, 1, 1), (1, 1, 2), (1, 1, 3), (1, 1, 4), (1, 1, 5), (1, 1, 6), (1, 1, 7), (1, 1, 8), (1, 1, 10), (1, 1, 11), (1, 1, 12), (1, 1, 14), (1, 1, 15), (1, 1, 20), (1, 1, 21), (1, 1, 22), (1, 1, 28), (1, 1, 30), (1, 1, 33), (1, 1, 35), (1, 1, 42), (1, 1, 56), (1, 1, 60), (1, 1, 63), (1, 1, 66), (1, 1, 70), (1, 1, 77), (1, 1, 84), (1, 1, 99), (1, 1, 126), (1, 1, 132), (1, 1, 154), (1, 1, 210), (1, 1, 252), (1, 1, 462), (1, 1, 924), (1, 2, 3), (1, 2, 5), (1, 2, 7), (1, 2, 9), (1, 2, 11), (1, 2, 15), (1, 2, 21), (1, 2, 33), (1, 2, 35), (1, 2, 105), (1, 3, 4), (1, 3, 5), (1, 3, 7), (1, 3, 8), (1, 3, 10), (1, 3, 11), (1, 3, 14), (1, 3, 20), (1, 3, 28), (1, 3, 35), (1, 3, 70), (1, 3, 77), (1, 3, 154), (1, 4, 5), (1, 4, 7), (1, 4, 9), (1, 4, 11), (1, 4, 21), (1, 4, 33), (1, 4, 35), (1, 4, 63), (1, 4, 105), (1, 5, 6), (1, 5, 7), (1, 5, 8), (1, 5, 9), (1, 5, 11), (1, 5, 12), (1, 5, 14), (1, 5, 18), (1, 5, 21), (1, 5, 22), (1, 5, 28), (1, 5, 36), (1, 5, 42), (1, 5, 44), (1, 5, 77), (1, 5, 84), (1, 5, 126), (1, 5, 231), (1, 6, 7), (1, 6, 11), (1, 6, 35), (1, 7, 20), (1, 7, 22), (1, 7, 30), (1, 8, 15), (1, 8, 21), (1, 8, 33), (1, 8, 35), (1, 8, 63), (1, 8, 77), (1, 8, 105), (1, 9, 20), (1, 9, 22), (1, 9, 28), (1, 9, 35), (1, 9, 154), (1, 10, 21), (1, 10, 33), (1, 10, 63), (1, 10, 99), (1, 10, 231), (1, 12, 35), (1, 14, 45), (1, 15, 28), (1, 15, 56), (1, 15, 77), (1, 16, 33), (1, 16, 35), (1, 16, 63), (1, 16, 77), (1, 18, 35), (1, 20, 63), (1, 25, 63), (1, 25, 66), (1, 25, 77), (1, 25, 84), (1, 25, 154), (1, 25, 252), (1, 27, 70), (1, 27, 77), (1, 27, 140), (1, 32, 63), (1, 32, 105), (1, 35, 99), (1, 45, 154), (1, 49, 120), (1, 49, 180), (1, 49, 198), (1, 50, 99), (1, 50, 231), (1, 64, 315), (1, 75, 308), (1, 100, 231), (1, 121, 315), (1, 125, 1386), (1, 160, 693), (1, 169, 462), (1, 361, 1386)]
def jFin (t : Int × Int × Int) : Bool := finB (jF t)
def jEq (s t : Int × Int × Int) : Bool := decide (s.2.2 = t.2.2) && (decide (s.2.1 = t.2.1) && decide (s.1 = t.1))
theorem jEq_eq {s t : Int × Int × Int} (h : jEq s t = true) : s = t := by
  obtain ⟨a, b, c⟩ := s
  obtain ⟨a', b', c'⟩ := t
  unfold jEq at h
  simp only [Bool.and_eq_true, decide_eq_true_eq] at h
  obtain ⟨rfl, rfl, rfl⟩ := h
  rfl
def jIn (t : Int × Int × Int) : Bool := jD.any (jEq t)
theorem jD_0 : ((jD.drop 0).take 64).all jFin = true := by kernel_rfl
theorem jD_64 : ((jD.drop 64).take 64).all jFin = true := by kernel_rfl
theorem jD_128 : ((jD.drop 128).take 64).all jFin = true := by kernel_rfl
theorem jD_192 : ((jD.drop 192).take 64).all jFin = true := by kernel_rfl
theorem jD_fin {t : Int × Int × Int} (h : jIn t = true) : finB (jF t) = true := by
  unfold jIn at h
  rw [List.any_eq_true] at h
  obtain ⟨s, hs, he⟩ := h
  rw [jEq_eq he]
  have hj : jD = (jD.drop 0).take 64 ++ (jD.drop 64).take 64 ++ (jD.drop 128).take 64 ++ (jD.drop 192).take 64 := by kernel_rfl
  rw [hj] at hs
  simp only [List.mem_append] at hs
  rcases hs with (((hs | hs) | hs) | hs)
  · exact List.all_eq_true.mp jD_0 s hs
  · exact List.all_eq_true.mp jD_64 s hs
  · exact List.all_eq_true.mp jD_128 s hs
  · exact List.all_eq_true.mp jD_192 s hs
noncomputable def jInC (a b i j m : Nat) : Bool := match decide (m ≤ i + j) && decide (i + j + m ≤ a + b) with | true => jIn (jN a i b j m) | false => true
noncomputable def jInA (a b : Nat) : Bool := (List.range (a + 1)).all fun i => (List.range (b + 1)).all fun j => (List.range (min a b + 1)).all fun m => jInC a b i j m
theorem ji_0_0 : jInA 0 0 = true := by kernel_rfl
theorem ji_0_1 : jInA 0 1 = true := by kernel_rfl
theorem ji_0_2 : jInA 0 2 = true := by kernel_rfl
theorem ji_0_3 : jInA 0 3 = true := by kernel_rfl
theorem ji_0_4 : jInA 0 4 = true := by kernel_rfl
theorem ji_0_5 : jInA 0 5 = true := by kernel_rfl
theorem ji_0_6 : jInA 0 6 = true := by kernel_rfl
theorem ji_1_0 : jInA 1 0 = true := by kernel_rfl
theorem ji_1_1 : jInA 1 1 = true := by kernel_rfl
theorem ji_1_2 : jInA 1 2 = true := by kernel_rfl
theorem ji_1_3 : jInA 1 3 = true := by kernel_rfl
theorem ji_1_4 : jInA 1 4 = true := by kernel_rfl
theorem ji_1_5 : jInA 1 5 = true := by kernel_rfl
theorem ji_1_6 : jInA 1 6 = true := by kernel_rfl
theorem ji_2_0 : jInA 2 0 = true := by kernel_rfl
theorem ji_2_1 : jInA 2 1 = true := by kernel_rfl
theorem ji_2_2 : jInA 2 2 = true := by kernel_rfl
theorem ji_2_3 : jInA 2 3 = true := by kernel_rfl
theorem ji_2_4 : jInA 2 4 = true := by kernel_rfl
theorem ji_2_5 : jInA 2 5 = true := by kernel_rfl
theorem ji_2_6 : jInA 2 6 = true := by kernel_rfl
theorem ji_3_0 : jInA 3 0 = true := by kernel_rfl
theorem ji_3_1 : jInA 3 1 = true := by kernel_rfl
theorem ji_3_2 : jInA 3 2 = true := by kernel_rfl
theorem ji_3_3 : jInA 3 3 = true := by kernel_rfl
theorem ji_3_4 : jInA 3 4 = true := by kernel_rfl
theorem ji_3_5 : jInA 3 5 = true := by kernel_rfl
theorem ji_3_6 : jInA 3 6 = true := by kernel_rfl
theorem ji_4_0 : jInA 4 0 = true := by kernel_rfl
theorem ji_4_1 : jInA 4 1 = true := by kernel_rfl
theorem ji_4_2 : jInA 4 2 = true := by kernel_rfl
theorem ji_4_3 : jInA 4 3 = true := by kernel_rfl
theorem ji_4_4 : jInA 4 4 = true := by kernel_rfl
theorem ji_4_5 : jInA 4 5 = true := by kernel_rfl
theorem ji_4_6 : jInA 4 6 = true := by kernel_rfl
theorem ji_5_0 : jInA 5 0 = true := by kernel_rfl
theorem ji_5_1 : jInA 5 1 = true := by kernel_rfl
theorem ji_5_2 : jInA 5 2 = true := by kernel_rfl
theorem ji_5_3 : jInA 5 3 = true := by kernel_rfl
theorem ji_5_4 : jInA 5 4 = true := by kernel_rfl
theorem ji_5_5 : jInA 5 5 = true := by kernel_rfl
theorem ji_5_6 : jInA 5 6 = true := by kernel_rfl
theorem ji_6_0 : jInA 6 0 = true := by kernel_rfl
theorem ji_6_1 : jInA 6 1 = true := by kernel_rfl
theorem ji_6_2 : jInA 6 2 = true := by kernel_rfl
theorem ji_6_3 : jInA 6 3 = true := by kernel_rfl
theorem ji_6_4 : jInA 6 4 = true := by kernel_rfl
theorem ji_6_5 : jInA 6 5 = true := by kernel_rfl
theorem ji_6_6 : jInA 6 6 = true := by kernel_rfl
theorem jInA_all {a b : Nat} (ha : a ≤ 6) (hb : b ≤ 6) : jInA a b = true := by
  have : a = 0 ∨ a = 1 ∨ a = 2 ∨ a = 3 ∨ a = 4 ∨ a = 5 ∨ a = 6 := by omega
  rcases this with rfl | rfl | rfl | rfl | rfl | rfl | rfl
  · have : b = 0 ∨ b = 1 ∨ b = 2 ∨ b = 3 ∨ b = 4 ∨ b = 5 ∨ b = 6 := by omega
    rcases this with rfl | rfl | rfl | rfl | rfl | rfl | rfl
    · exact ji_0_0
    · exact ji_0_1
    · exact ji_0_2
    · exact ji_0_3
    · exact ji_0_4
    · exact ji_0_5
    · exact ji_0_6
  · have : b = 0 ∨ b = 1 ∨ b = 2 ∨ b = 3 ∨ b = 4 ∨ b = 5 ∨ b = 6 := by omega
    rcases this with rfl | rfl | rfl | rfl | rfl | rfl | rfl
    · exact ji_1_0
    · exact ji_1_1
    · exact ji_1_2
    · exact ji_1_3
    · exact ji_1_4
    · exact ji_1_5
    · exact ji_1_6
  · have : b = 0 ∨ b = 1 ∨ b = 2 ∨ b = 3 ∨ b = 4 ∨ b = 5 ∨ b = 6 := by omega
    rcases this with rfl | rfl | rfl | rfl | rfl | rfl | rfl
    · exact ji_2_0
    · exact ji_2_1
    · exact ji_2_2
    · exact ji_2_3
    · exact ji_2_4
    · exact ji_2_5
    · exact ji_2_6
  · have : b = 0 ∨ b = 1 ∨ b = 2 ∨ b = 3 ∨ b = 4 ∨ b = 5 ∨ b = 6 := by omega
    rcases this with rfl | rfl | rfl | rfl | rfl | rfl | rfl
    · exact ji_3_0
    · exact ji_3_1
    · exact ji_3_2
    · exact ji_3_3
    · exact ji_3_4
    · exact ji_3_5
    · exact ji_3_6
  · have : b = 0 ∨ b = 1 ∨ b = 2 ∨ b = 3 ∨ b = 4 ∨ b = 5 ∨ b = 6 := by omega
    rcases this with rfl | rfl | rfl | rfl | rfl | rfl | rfl
    · exact ji_4_0
    · exact ji_4_1
    · exact ji_4_2
    · exact ji_4_3
    · exact ji_4_4
    · exact ji_4_5
    · exact ji_4_6
  · have : b = 0 ∨ b = 1 ∨ b = 2 ∨ b = 3 ∨ b = 4 ∨ b = 5 ∨ b = 6 := by omega
    rcases this with rfl | rfl | rfl | rfl | rfl | rfl | rfl
    · exact ji_5_0
    · exact ji_5_1
    · exact ji_5_2
    · exact ji_5_3
    · exact ji_5_4
    · exact ji_5_5
    · exact ji_5_6
  · have : b = 0 ∨ b = 1 ∨ b = 2 ∨ b = 3 ∨ b = 4 ∨ b = 5 ∨ b = 6 := by omega
    rcases this with rfl | rfl | rfl | rfl | rfl | rfl | rfl
    · exact ji_6_0
    · exact ji_6_1
    · exact ji_6_2
    · exact ji_6_3
    · exact ji_6_4
    · exact ji_6_5
    · exact ji_6_6
theorem jF_fin {a x b y c : Int} (h : canJ a x b y c = true) : finB (jF (jV a x b y c)) = true := by
  apply jD_fin
  obtain ⟨h1, h2, h3, h4, h5, h6, h7, h8, h9, h10, h11, h12, h13, h14, h15, h16⟩ := of_decide_eq_true h
  obtain ⟨A, rfl⟩ : ∃ A : Nat, a = (A : Int) := ⟨a.toNat, by omega⟩
  obtain ⟨B, rfl⟩ : ∃ B : Nat, b = (B : Int) := ⟨b.toNat, by omega⟩
  obtain ⟨i, hi⟩ : ∃ i : Nat, ((A : Int) - x) / 2 = (i : Int) := ⟨(((A : Int) - x) / 2).toNat, by omega⟩
  obtain ⟨j, hj⟩ : ∃ j : Nat, ((B : Int) - y) / 2 = (j : Int) := ⟨(((B : Int) - y) / 2).toNat, by omega⟩
  obtain ⟨m, hm⟩ : ∃ m : Nat, ((A : Int) + (B : Int) - c) / 2 = (m : Int) := ⟨(((A : Int) + (B : Int) - c) / 2).toNat, by omega⟩
  have hr := List.all_eq_true.mp (List.all_eq_true.mp (List.all_eq_true.mp (jInA_all (a := A) (b := B) (by omega) (by omega)) i (List.mem_range.mpr (by omega))) j (List.mem_range.mpr (by omega))) m (List.mem_range.mpr (by omega))
  unfold jInC at hr
  rw [decide_eq_true (show m ≤ i + j by omega), decide_eq_true (show i + j + m ≤ A + B by omega)] at hr
  unfold jV
  rw [hi, hj, hm]
  exact hr
def gJnu : GT := fun vs h => match vs, h with | [.int .i64 a, .int .i64 x, .int .i64 b, .int .i64 y, .int .i64 c], [] => .ite (canS a x b y c) (.ret (pairV true (jF (jV a x b y c))) []) (.ret (pairV false 0) []) | _, _ => .no
def tab_jnI : Fns := tabT [(33, gJoin), (41, gT gRoot), (85, gNumT)]
theorem tabok_jnI : ∀ f, FnT Try.prog f (tab_jnI f) := (tabT_cons (k := 33) ok_jsI (tabT_cons (k := 41) ok_RootNumber (tabT_cons (k := 85) ok_checked tabT_nil)))
theorem run_jnI (N : Nat) (a : Int) (x : Int) (b : Int) (y : Int) (c : Int) : run ty tab_jnI ann0 N Try.f56 [.int .i64 a, .int .i64 x, .int .i64 b, .int .i64 y, .int .i64 c] []
    = (match canS a x b y c with | true => (match finB (fop .mul .f32 (floatOfInt .f32 ((jV a x b y c).1)) (rootF (fop .quo .f32 (floatOfInt .f32 ((jV a x b y c).2.1)) (floatOfInt .f32 ((jV a x b y c).2.2))))) with | true => some (.tup [.a (.fl .f32 (fop .mul .f32 (floatOfInt .f32 ((jV a x b y c).1)) (rootF (fop .quo .f32 (floatOfInt .f32 ((jV a x b y c).2.1)) (floatOfInt .f32 ((jV a x b y c).2.2)))))), .a (.bool true)], []) | false => some (.tup [.a (.fl .f32 0), .a (.bool false)], [])) | false => some (.tup [.a (.fl .f32 0), .a (.bool false)], [])) := by
  kernel_rfl
theorem ok_jnI : FnT Try.prog 56 (gJnu) := by
  refine fnT tabok_jnI Try.func56 rfl rfl ann0 fun vs h v h' e => ⟨0, ?_⟩
  unfold gJnu at e
  split at e
  case h_2 => exact (T.no_inv e).elim
  rename_i a x b y c
  refine Eq.trans (run_jnI 0 a x b y c) (Eq.trans ?_ e)
  show _ = T.k _ _
  simp only [T.k]
  cases hs : canS a x b y c
  · rfl
  · have hj := canS_J hs
    have hf : finB (fop .mul .f32 (floatOfInt .f32 (jV a x b y c).1) (rootF (fop .quo .f32 (floatOfInt .f32 (jV a x b y c).2.1) (floatOfInt .f32 (jV a x b y c).2.2)))) = true := jF_fin hj
    simp only [hj, hf]
    rfl
end Go.Proofs.Ytbhfjdlhhjeknaa.Ab

namespace Go.Proofs.Ytbhfjdlhhjeknaa.Ab
set_option linter.unusedVariables false
set_option linter.unusedSimpArgs false
open Go
noncomputable section
def nmO {α : Type} (x : α) : Option α := some x
def an_b10I : Ann := ⟨fun r => if r = 4 then some ([0, 1, 12, 13], [4]) else none, fun _ _ => .quiet⟩
def tab_b10I : Fns := tabT []
theorem tabok_b10I : ∀ f, FnT Try.prog f (tab_b10I f) := tabT_nil
def st_b10I4 (a0n : Nat) (b1n : Nat) (t12 : Int) (t13 : Int) (rw0 : Bool) (l0 : List Int) (rw1 : Bool) (l1 : List Int) : St := ⟨(.sl 0 0 a0n :: .sl 1 0 b1n :: (anys 10 (.int .i64 t12 :: .int .i64 t13 :: (anys 12 [])))), [.at rw0 (.int .i64 l0), .at rw1 (.int .i64 l1)]⟩
abbrev kp_b10I4 : Option (List Nat × List Nat) := some ([0, 1, 12, 13], [4])
noncomputable def lp_b10I4 {R : Type} (N M : Nat) (s : St) (K : X → St → Option R) : Option R := loopH 2 kp_b10I4 (fun st K => exec ty tab_b10I an_b10I N 2 (atOf [true, true, false, true, false, false] Try.f60) st K) M s K
noncomputable def kt_b10I4 {R : Type} (N : Nat) (K : X → St → Option R) : X → St → Option R := kBlkR 0 (kSeqR tab_b10I an_b10I N 2 (atOf [true, true, true] Try.f60) (K))
def en_b10I4_0 (rw0 : Bool) (l0 : List Int) (rw1 : Bool) (l1 : List Int) : St := ⟨(.any :: .any :: .any :: .any :: .bool false :: (anys 21 [])), [.at rw0 (.int .i64 l0), .at rw1 (.int .i64 l1)]⟩
def en_b10I4_1 (rw0 : Bool) (l0 : List Int) (rw1 : Bool) (l1 : List Int) : St := ⟨(anys 26 []), [.at rw0 (.int .i64 l0), .at rw1 (.int .i64 l1)]⟩
theorem run_b10I (N : Nat) (n : Nat) (m : Nat) (r1 : Bool) (l : List Int) (r2 : Bool) (l' : List Int) : run ty tab_b10I an_b10I N Try.f60 [.sl 0 0 n, .sl 1 0 m] [.at r1 (.int .i64 l), .at r2 (.int .i64 l')]
    = (match ((n : Nat) : Int) != ((m : Nat) : Int) with | true => some (.bool false, [.at r1 (.int .i64 l), .at r2 (.int .i64 l')]) | false => lp_b10I4 N N (st_b10I4 n m ((n : Nat) : Int) 0 r1 l r2 l') (kt_b10I4 N (kEnd Try.f60 2))) := by
  kernel_rfl
theorem step_b10I4 {R : Type} (N M : Nat) (K : X → St → Option R) (a0n : Nat) (b1n : Nat) (t12 : Int) (t13 : Int) (rw0 : Bool) (l0 : List Int) (rw1 : Bool) (l1 : List Int) : lp_b10I4 N (M + 1) (st_b10I4 a0n b1n t12 t13 rw0 l0 rw1 l1) K
    = (match decide ((t13 : Int) < t12) with | true => (match decide (0 ≤ (t13 : Int) ∧ (t13 : Int) < ((a0n : Nat) : Int)) with | true => (match l0[0 + (t13).toNat * 1]? with | some e1 => (match decide (0 ≤ (t13 : Int) ∧ (t13 : Int) < ((b1n : Nat) : Int)) with | true => (match l1[0 + (t13).toNat * 1]? with | some e2 => (match e1 != e2 with | true => K .ret (en_b10I4_0 rw0 l0 rw1 l1) | false => lp_b10I4 N M (st_b10I4 a0n b1n t12 (IntKind.i64.wrap (t13 + 1)) rw0 l0 rw1 l1) K) | none => none) | false => none) | none => none) | false => none) | false => K (.exit 0) (en_b10I4_1 rw0 l0 rw1 l1)) := by
  kernel_rfl
theorem end_b10I4_0 (N : Nat) (rw0 : Bool) (l0 : List Int) (rw1 : Bool) (l1 : List Int) : kt_b10I4 N (kEnd Try.f60 2) .ret (en_b10I4_0 rw0 l0 rw1 l1)
    = some (.bool false, [.at rw0 (.int .i64 l0), .at rw1 (.int .i64 l1)]) := by
  kernel_rfl
theorem end_b10I4_1 (N : Nat) (rw0 : Bool) (l0 : List Int) (rw1 : Bool) (l1 : List Int) : kt_b10I4 N (kEnd Try.f60 2) (.exit 0) (en_b10I4_1 rw0 l0 rw1 l1)
    = some (.bool true, [.at rw0 (.int .i64 l0), .at rw1 (.int .i64 l1)]) := by
  kernel_rfl
def eqOk (n m : Nat) (l l' : List Int) : Bool := decide (l.length = n ∧ l'.length = m ∧ n < 2147483648 ∧ m < 2147483648)
def gInts : GT := fun vs h => match vs, h with
  | [.sl 0 0 n, .sl 1 0 m], [.at r1 (.int .i64 l), .at r2 (.int .i64 l')] => .ite (eqOk n m l l') (.ret (.bool (eqIB l l')) [.at r1 (.int .i64 l), .at r2 (.int .i64 l')]) .no
  | _, _ => .no
theorem ok_Ints : FnT Try.prog 60 gInts := by
  refine fnT tabok_b10I Try.func60 rfl rfl an_b10I fun vs h v h' e => ?_
  unfold gInts at e
  split at e
  · rename_i n m r1 l r2 l'
    obtain ⟨hd, e⟩ := T.pre_inv e
    obtain ⟨rfl, rfl⟩ := T.ret_inv e
    obtain ⟨rfl, rfl, hb, hb'⟩ := of_decide_eq_true hd
    refine ⟨l.length + 1, Eq.trans (run_b10I _ _ _ _ _ _ _) ?_⟩
    unfold eqIB
    by_cases hl : l.length = l'.length
    · rw [show ((l.length : Int) != (l'.length : Int)) = false by simp; omega, show (l.length == l'.length) = true by simpa using hl]
      have hz : (l.zip l').length = l.length := by simp; omega
      refine Eq.trans (b := match firstIx (fun p : Int × Int => p.1 != p.2) (l.zip l') 0 with | some _ => some (.bool false, [.at r1 (.int .i64 l), .at r2 (.int .i64 l')]) | none => some (.bool true, [.at r1 (.int .i64 l), .at r2 (.int .i64 l')])) ?_ (by cases firstIx (fun p : Int × Int => p.1 != p.2) (l.zip l') 0 <;> rfl)
      have hs := scan0 (l.zip l') (fun p : Int × Int => p.1 != p.2) (fun M i => lp_b10I4 (l.length + 1) M (st_b10I4 l.length l'.length ((l.length : Nat) : Int) i r1 l r2 l') (kt_b10I4 (l.length + 1) (kEnd Try.f60 2))) (fun _ => some (.bool false, [.at r1 (.int .i64 l), .at r2 (.int .i64 l')])) (some (.bool true, [.at r1 (.int .i64 l), .at r2 (.int .i64 l')])) (fun M i x hx => ?_) (fun M => ?_)
      · rw [hz] at hs
        exact hs
      · have hi := lt_of_get hx
        rw [hz] at hi
        obtain ⟨h1, h2⟩ := zipI_get hx
        simp only [step_b10I4, dlt hi, din hi, din (show i < l'.length by omega), ix, h1, h2, wr (show i < 2147483648 by omega), end_b10I4_0] <;> (cases (x.1 != x.2) <;> rfl)
      · rw [hz]
        simp only [step_b10I4, dge (Nat.le_refl _), end_b10I4_1]
    · rw [show ((l.length : Int) != (l'.length : Int)) = true by simp; omega, show (l.length == l'.length) = false by simpa using hl]
      rfl
  · exact (T.no_inv e).elim
def an_toS : Ann := ⟨fun r => if r = 5 then some ([0, 1, 6, 7], [6]) else none, fun _ _ => .quiet⟩
def tab_toS : Fns := tabT [(111, gT gis6), (131, gT ggapI)]
theorem tabok_toS : ∀ f, FnT Try.prog f (tab_toS f) := (tabT_cons (k := 111) ok_l03Is (tabT_cons (k := 131) ok_l03Gap tabT_nil))
def st_toS5 (a0 : Int) (b1 : Int) (out6n : Nat) (c7 : Int) (l0 : List Int) : St := ⟨(.int .i64 a0 :: .int .i64 b1 :: .any :: .any :: .any :: .any :: .sl 0 0 out6n :: .int .i64 c7 :: (anys 24 [])), [.at true (.int .i64 l0)]⟩
abbrev kp_toS5 : Option (List Nat × List Nat) := some ([0, 1, 6, 7], [6])
noncomputable def lp_toS5 {R : Type} (N M : Nat) (s : St) (K : X → St → Option R) : Option R := loopH 0 kp_toS5 (fun st K => exec ty tab_toS an_toS N 0 (atOf [true, true, true, false, true, false, false] Try.f64) st K) M s K
noncomputable def kt_toS5 {R : Type} (N : Nat) (K : X → St → Option R) : X → St → Option R := kBlkR 0 (kSeqR tab_toS an_toS N 0 (atOf [true, true, true, true] Try.f64) (K))
def en_toS5_0 (out6n : Nat) (l0 : List Int) : St := ⟨(anys 6 (.sl 0 0 out6n :: (anys 25 []))), [.at true (.int .i64 l0)]⟩
theorem run_toS (N : Nat) (a : Int) (b : Int) : run ty tab_toS an_toS N Try.f64 [.int .i64 a, .int .i64 b] []
    = (match !(is6 a) with | true => some (.tup [.a (.nil), .a (.bool false)], []) | false => (match !(is6 b) with | true => some (.tup [.a (.nil), .a (.bool false)], []) | false => lp_toS5 N N (st_toS5 a b 0 (gapI a b) []) (kt_toS5 N (kEnd Try.f64 0)))) := by
  kernel_rfl
theorem step_toS5 {R : Type} (N M : Nat) (K : X → St → Option R) (a0 : Int) (b1 : Int) (out6n : Nat) (c7 : Int) (l0 : List Int) : lp_toS5 N (M + 1) (st_toS5 a0 b1 out6n c7 l0) K
    = (match decide ((c7 : Int) ≤ (IntKind.i64.wrap (a0 + b1))) with | true => (match apok true out6n 1 l0.length 1 (out6n + 1) 8 with | true => lp_toS5 N M (st_toS5 a0 b1 (out6n + 1) (IntKind.i64.wrap (c7 + 2)) (l0 ++ [c7])) K | false => none) | false => K (.exit 0) (en_toS5_0 out6n l0)) := by
  kernel_rfl
theorem end_toS5_0 (N : Nat) (out6n : Nat) (l0 : List Int) : kt_toS5 N (kEnd Try.f64 0) (.exit 0) (en_toS5_0 out6n l0)
    = some (.tup [.a (.sl 0 0 out6n), .a (.bool true)], [.at true (.int .i64 l0)]) := by
  kernel_rfl
noncomputable def ce_toS5_0 (N : Nat) (out6n : Nat) (l0 : List Int) : Option (V × H) := some (.tup [.a (.sl 0 0 out6n), .a (.bool true)], [.at true (.int .i64 l0)])
noncomputable def mb_toS5 (N : Nat) (k0 : Nat → List Int → Option (V × H)) (rq : Int → Int → Nat → Int → List Int → Option (V × H)) : Int → Int → Nat → Int → List Int → Option (V × H) := fun (a0 : Int) (b1 : Int) (out6n : Nat) (c7 : Int) (l0 : List Int) => (match decide ((c7 : Int) ≤ (IntKind.i64.wrap (a0 + b1))) with | true => (match apok true out6n 1 l0.length 1 (out6n + 1) 8 with | true => (rq a0 b1 (out6n + 1) (IntKind.i64.wrap (c7 + 2)) (l0 ++ [c7])) | false => none) | false => (k0 out6n l0))
noncomputable def mr_toS5 (N : Nat) (k0 : Nat → List Int → Option (V × H)) (M : Nat) : Int → Int → Nat → Int → List Int → Option (V × H) := Nat.rec (motive := fun _ => Int → Int → Nat → Int → List Int → Option (V × H)) (fun (_ : Int) (_ : Int) (_ : Nat) (_ : Int) (_ : List Int) => none) (fun _ rq => mb_toS5 N k0 rq) M
theorem mrs_toS5 (N : Nat) (k0 : Nat → List Int → Option (V × H)) (M : Nat) (a0 : Int) (b1 : Int) (out6n : Nat) (c7 : Int) (l0 : List Int) : mr_toS5 N k0 (M + 1) a0 b1 out6n c7 l0 = mb_toS5 N k0 (mr_toS5 N k0 M) a0 b1 out6n c7 l0 := rfl
theorem H_toS5 (N : Nat) : ∀ (M : Nat) (a0 : Int) (b1 : Int) (out6n : Nat) (c7 : Int) (l0 : List Int), lp_toS5 N M (st_toS5 a0 b1 out6n c7 l0) (kt_toS5 N (kEnd Try.f64 0)) = mr_toS5 N (ce_toS5_0 N) M a0 b1 out6n c7 l0 := by
  have he0 : ∀ (out6n : Nat) (l0 : List Int), kt_toS5 N (kEnd Try.f64 0) (.exit 0) (en_toS5_0 out6n l0) = ce_toS5_0 N out6n l0 := by
    intro out6n l0
    rw [end_toS5_0]
    unfold ce_toS5_0
    first | (simp only []; done) | (simp only []; kernel_rfl) | rfl
  intro M
  induction M with
  | zero => intros; rfl
  | succ M ih =>
    intro a0 b1 out6n c7 l0
    rw [step_toS5]
    rw [mrs_toS5]
    unfold mb_toS5
    first | (simp only [ih, he0]; done) | (simp only [ih, he0]; kernel_rfl) | rfl
noncomputable def md_toS (N : Nat) (a : Int) (b : Int) : Option (V × H) := (match !(is6 a) with | true => some (.tup [.a (.nil), .a (.bool false)], []) | false => (match !(is6 b) with | true => some (.tup [.a (.nil), .a (.bool false)], []) | false => (mr_toS5 N (ce_toS5_0 N) N a b 0 (gapI a b) [])))
theorem mdl_toS (N : Nat) (a : Int) (b : Int) : run ty tab_toS an_toS N Try.f64 [.int .i64 a, .int .i64 b] [] = md_toS N a b := by
  rw [run_toS]
  unfold md_toS
  first | (simp only [H_toS5 N N]; done) | (simp only [H_toS5 N N]; kernel_rfl) | rfl
def oR1 : Option (V × H) → Option (List Int)
  | some (.tup [.a (.sl 0 0 n0), .a (.bool true)], [.at true (.int .i64 l0)]) => match decide (n0 = l0.length) with | true => some l0 | false => none
  | _ => none
theorem oR1_inv {o : Option (V × H)} {l0 : List Int} (h : oR1 o = some l0) : o = some (.tup [.a (.sl 0 0 l0.length), .a (.bool true)], [.at true (.int .i64 l0)]) := by
  unfold oR1 at h
  split at h
  · split at h
    · rename_i hd
      obtain rfl := of_decide_eq_true hd
      cases h
      rfl
    · cases h
  · cases h
noncomputable def toD (a b : Int) : List Int := (oR1 (md_toS 20 a b)).getD []
noncomputable def toC (A B : Nat) : Bool := (oR1 (md_toS 20 (A : Int) (B : Int))).isSome
theorem toA : (List.range 7).all (fun A => (List.range 7).all fun B => toC A B) = true := by kernel_rfl
noncomputable def gTo : GT := fun vs h => match vs, h with | [.int .i64 a, .int .i64 b], [] => .ite (is6 a && is6 b) (.ret (.tup [.a (.sl 0 0 (toD a b).length), .a (.bool true)]) [.at true (.int .i64 (toD a b))]) (.ret (.tup [.a .nil, .a (.bool false)]) []) | _, _ => .no
theorem ok_toS : FnT Try.prog 64 gTo := by
  refine fnT tabok_toS Try.func64 rfl rfl an_toS fun vs h v h' e => ⟨20, ?_⟩
  unfold gTo at e
  split at e
  case h_2 => exact (T.no_inv e).elim
  rename_i a b
  refine Eq.trans ?_ e
  show _ = T.k _ _
  simp only [T.k]
  refine Eq.trans (mdl_toS 20 a b) ?_
  cases hs : is6 a && is6 b with
  | true =>
    rw [Bool.and_eq_true] at hs
    unfold is6 at hs
    rw [inB_iff, inB_iff] at hs
    obtain ⟨A, rfl⟩ : ∃ A : Nat, a = (A : Int) := ⟨a.toNat, by omega⟩
    obtain ⟨B, rfl⟩ : ∃ B : Nat, b = (B : Int) := ⟨b.toNat, by omega⟩
    have hr := List.all_eq_true.mp (List.all_eq_true.mp toA A (List.mem_range.mpr (by omega))) B (List.mem_range.mpr (by omega))
    unfold toC at hr
    obtain ⟨z, hz⟩ := Option.isSome_iff_exists.mp hr
    unfold toD
    rw [hz]
    exact oR1_inv hz
  | false =>
    unfold md_toS
    cases h1 : is6 a
    · rfl
    · cases h2 : is6 b
      · rfl
      · rw [h1, h2] at hs
        cases hs
end
end Go.Proofs.Ytbhfjdlhhjeknaa.Ab

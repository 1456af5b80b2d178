/- FnTotals: helpers. Only lemmas. Printed by gen_totals.py. -/
import Derived.Test.YthcjbchkagkaaaaTotW
namespace Go.Proofs.Ythcjbchkagkaaaa.Ab
set_option linter.unusedVariables false
set_option linter.unusedSimpArgs false
open Go
theorem FnT.runs {f : FuncId} {fn : Func} {code : Code} {fns : Fns} (hfn : ∀ f, FnT Try.prog f (fns f)) (hf : Try.prog.funcs[f]? = some fn) (hb : fn.body = some code) (hn : (fn.name == "runtime.NumGoroutine") = false) (an : Ann) (N : Nat) :
    FnT Try.prog f (fun vs h => T.of (run ty fns an N fn vs h)) := FnT.runs1 hfn hf hb hn an N
theorem wrap_n {n : Int} (h : -1000 ≤ n) (h2 : n ≤ 1000) : IntKind.i64.wrap n = n := wrap_z (by omega) (by omega)
def nmO {α : Type} (x : α) : Option α := some x
def longB (n m : Nat) : Bool := decide ((n : Int) > 1048576) || decide ((m : Int) > 1048576)
def atOk (n : Nat) (l : List Int) (i : Int) : Bool := decide (l.length = n ∧ n < 2147483648 ∧ 0 ≤ i ∧ i < 1000)
def atF (l : List Int) (i k : Int) : Int := match decide (k ≤ 1) with
  | true => 0
  | false => match l[i.toNat]? with
    | some e => Int.tmod (IntKind.i64.wrap e) k
    | none => Int.tmod (IntKind.i64.wrap (IntKind.i64.wrap (i * 37) + 11)) k
def bytesB (l : List Int) : Bool := l.all (fun e => decide (0 ≤ e ∧ e < 256))
theorem atF_range {l : List Int} {i k : Int} (hb : bytesB l = true) (hi : 0 ≤ i) (hi2 : i < 1000) (hk : 1 ≤ k) : 0 ≤ atF l i k ∧ atF l i k < k := by
  unfold atF
  by_cases h1 : k ≤ 1
  · rw [decide_eq_true h1]
    show 0 ≤ (0 : Int) ∧ (0 : Int) < k
    omega
  · rw [decide_eq_false h1]
    dsimp only
    have ht : ∀ z : Int, 0 ≤ z → z < 100000 → 0 ≤ Int.tmod (IntKind.i64.wrap z) k ∧ Int.tmod (IntKind.i64.wrap z) k < k := by
      intro z z0 z1
      rw [wrap_z (by omega) (by omega), Int.tmod_eq_emod_of_nonneg z0]
      exact ⟨Int.emod_nonneg _ (by omega), Int.emod_lt_of_pos _ (by omega)⟩
    cases he : l[i.toNat]? with
    | some e =>
      obtain ⟨e0, e1⟩ := of_decide_eq_true (List.all_eq_true.mp hb e (List.mem_of_getElem? he))
      exact ht e e0 (by omega)
    | none =>
      show 0 ≤ Int.tmod (IntKind.i64.wrap (IntKind.i64.wrap (i * 37) + 11)) k ∧ Int.tmod (IntKind.i64.wrap (IntKind.i64.wrap (i * 37) + 11)) k < k
      rw [wrap_z (n := i * 37) (by omega) (by omega)]
      exact ht _ (by omega) (by omega)
def tab_lgA : Fns := tabT []
theorem tabok_lgA : ∀ f, FnT Try.prog f (tab_lgA f) := tabT_nil
theorem run_lgA (N : Nat) (n : Nat) (m : Nat) (r : Bool) (l : List Int) (q : Bool) (l' : List Int) : run ty tab_lgA ann0 N Try.f25 [.sl 0 0 n, .sl 1 0 m] [.at r (.int .u8 l), .at q (.int .u8 l')]
    = (match decide ((((n : Nat) : Int) : Int) > 1048576) with | true => some (.bool true, [.at r (.int .u8 l), .at q (.int .u8 l')]) | false => some (.bool (decide ((((m : Nat) : Int) : Int) > 1048576)), [.at r (.int .u8 l), .at q (.int .u8 l')])) := by
  kernel_rfl

def tab_lgB : Fns := tabT []
theorem tabok_lgB : ∀ f, FnT Try.prog f (tab_lgB f) := tabT_nil
theorem run_lgB (N : Nat) (n : Nat) (r : Bool) (l : List Int) : run ty tab_lgB ann0 N Try.f25 [.sl 0 0 n, .nil] [.at r (.int .u8 l)]
    = (match decide ((((n : Nat) : Int) : Int) > 1048576) with | true => some (.bool true, [.at r (.int .u8 l)]) | false => some (.bool false, [.at r (.int .u8 l)])) := by
  kernel_rfl

def tab_lgC : Fns := tabT []
theorem tabok_lgC : ∀ f, FnT Try.prog f (tab_lgC f) := tabT_nil
theorem run_lgC (N : Nat) (m : Nat) (r : Bool) (l : List Int) : run ty tab_lgC ann0 N Try.f25 [.nil, .sl 0 0 m] [.at r (.int .u8 l)]
    = some (.bool (decide ((((m : Nat) : Int) : Int) > 1048576)), [.at r (.int .u8 l)]) := by
  kernel_rfl

def tab_lgD : Fns := tabT []
theorem tabok_lgD : ∀ f, FnT Try.prog f (tab_lgD f) := tabT_nil
theorem run_lgD (N : Nat)  : run ty tab_lgD ann0 N Try.f25 [.nil, .nil] []
    = some (.bool false, []) := by
  kernel_rfl

def gLong : GT := fun vs h => match vs, h with
  | [.sl 0 0 n, .sl 1 0 m], [.at r (.int .u8 l), .at q (.int .u8 l')] => .ret (.bool (longB n m)) [.at r (.int .u8 l), .at q (.int .u8 l')]
  | [.sl 0 0 n, .nil], [.at r (.int .u8 l)] => .ret (.bool (longB n 0)) [.at r (.int .u8 l)]
  | [.nil, .sl 0 0 m], [.at r (.int .u8 l)] => .ret (.bool (longB 0 m)) [.at r (.int .u8 l)]
  | [.nil, .nil], [] => .ret (.bool (longB 0 0)) []
  | _, _ => .no
theorem ok_Long : FnT Try.prog 25 gLong := by
  intro vs hp v h' e
  unfold gLong at e
  split at e
  · obtain ⟨rfl, rfl⟩ := T.ret_inv e
    refine FnT.runs tabok_lgA Try.func25 rfl rfl ann0 0 _ _ _ _ ?_
    rw [T.run_of]
    refine Eq.trans (run_lgA 0 _ _ _ _ _ _) ?_
    unfold longB
    rename_i n m r q l l'
    cases decide ((n : Int) > 1048576) <;> rfl
  · obtain ⟨rfl, rfl⟩ := T.ret_inv e
    refine FnT.runs tabok_lgB Try.func25 rfl rfl ann0 0 _ _ _ _ ?_
    rw [T.run_of]
    refine Eq.trans (run_lgB 0 _ _ _) ?_
    unfold longB
    rename_i n r l
    cases decide ((n : Int) > 1048576) <;> rfl
  · obtain ⟨rfl, rfl⟩ := T.ret_inv e
    refine FnT.runs tabok_lgC Try.func25 rfl rfl ann0 0 _ _ _ _ ?_
    rw [T.run_of]
    refine Eq.trans (run_lgC 0 _ _ _) ?_
    unfold longB
    rfl
  · obtain ⟨rfl, rfl⟩ := T.ret_inv e
    refine FnT.runs tabok_lgD Try.func25 rfl rfl ann0 0 _ _ _ _ ?_
    rw [T.run_of]
    refine Eq.trans (run_lgD 0 ) ?_
    unfold longB
    rfl
  · exact (T.no_inv e).elim
def tab_atA : Fns := tabT []
theorem tabok_atA : ∀ f, FnT Try.prog f (tab_atA f) := tabT_nil
theorem run_atA (N : Nat) (n : Nat) (i : Int) (k : Int) (rw : Bool) (l : List Int) : run ty tab_atA ann0 N Try.f26 [.sl 0 0 n, .int .i64 i, .int .i64 k] [.at rw (.int .u8 l)]
    = (match decide ((k : Int) ≤ 1) with | true => some (.int .i64 0, [.at rw (.int .u8 l)]) | false => (match decide ((i : Int) < ((n : Nat) : Int)) with | true => (match decide (0 ≤ (i : Int) ∧ (i : Int) < ((n : Nat) : Int)) with | true => (match l[0 + (i).toNat * 1]? with | some e1 => (match decide (k = 0) with | true => none | false => some (.int .i64 (Int.tmod (IntKind.i64.wrap e1) k), [.at rw (.int .u8 l)])) | none => none) | false => none) | false => (match decide (k = 0) with | true => none | false => some (.int .i64 (Int.tmod (IntKind.i64.wrap ((IntKind.i64.wrap (i * 37)) + 11)) k), [.at rw (.int .u8 l)])))) := by
  kernel_rfl

def tab_atB : Fns := tabT []
theorem tabok_atB : ∀ f, FnT Try.prog f (tab_atB f) := tabT_nil
theorem run_atB (N : Nat) (i : Int) (k : Int) : run ty tab_atB ann0 N Try.f26 [.nil, .int .i64 i, .int .i64 k] []
    = (match decide ((k : Int) ≤ 1) with | true => some (.int .i64 0, []) | false => (match decide ((i : Int) < 0) with | true => none | false => (match decide (k = 0) with | true => none | false => some (.int .i64 (Int.tmod (IntKind.i64.wrap ((IntKind.i64.wrap (i * 37)) + 11)) k), [])))) := by
  kernel_rfl

def gAt : GT := fun vs h => match vs, h with
  | [.sl 0 0 n, .int .i64 i, .int .i64 k], [.at rw (.int .u8 l)] => .ite (atOk n l i) (.ret (.int .i64 (atF l i k)) [.at rw (.int .u8 l)]) .no
  | [.nil, .int .i64 i, .int .i64 k], [] => .ite (atOk 0 [] i) (.ret (.int .i64 (atF [] i k)) []) .no
  | _, _ => .no
theorem ok_At : FnT Try.prog 26 gAt := by
  intro vs hp v h' e
  unfold gAt at e
  split at e
  · rename_i n i k rw l
    obtain ⟨hd, e⟩ := T.pre_inv e
    obtain ⟨rfl, rfl⟩ := T.ret_inv e
    obtain ⟨hn, hn2, hi, hi2⟩ := of_decide_eq_true hd
    refine FnT.runs tabok_atA Try.func26 rfl rfl ann0 0 _ _ _ _ ?_
    rw [T.run_of]
    refine Eq.trans (run_atA 0 n i k rw l) ?_
    unfold atF
    by_cases h1 : k ≤ 1
    · rw [decide_eq_true h1]
    · rw [decide_eq_false h1, decide_eq_false (show ¬ k = 0 by omega), show 0 + i.toNat * 1 = i.toNat by omega]
      by_cases h2 : i < (n : Int)
      · have hx : l[i.toNat]? = some l[i.toNat] := List.getElem?_eq_getElem (by omega)
        rw [decide_eq_true h2, decide_eq_true (show 0 ≤ i ∧ i < (n : Int) from ⟨hi, h2⟩), hx]
      · have hx : l[i.toNat]? = none := List.getElem?_eq_none (by omega)
        rw [decide_eq_false h2, hx]
  · rename_i i k
    obtain ⟨hd, e⟩ := T.pre_inv e
    obtain ⟨rfl, rfl⟩ := T.ret_inv e
    obtain ⟨hn, hn2, hi, hi2⟩ := of_decide_eq_true hd
    refine FnT.runs tabok_atB Try.func26 rfl rfl ann0 0 _ _ _ _ ?_
    rw [T.run_of]
    refine Eq.trans (run_atB 0 i k) ?_
    unfold atF
    by_cases h1 : k ≤ 1
    · rw [decide_eq_true h1]
    · rw [decide_eq_false h1, decide_eq_false (show ¬ k = 0 by omega), decide_eq_false (show ¬ i < 0 by omega), List.getElem?_nil]
  · exact (T.no_inv e).elim
def an_b10I : Ann := ⟨fun r => if r = 4 then some ([0, 1, 12, 13], [4]) else none, fun _ _ => .quiet⟩
def tab_b10I : Fns := tabT []
theorem tabok_b10I : ∀ f, FnT Try.prog f (tab_b10I f) := tabT_nil
def st_b10I4 (a0n : Nat) (b1n : Nat) (t12 : Int) (t13 : Int) (rw0 : Bool) (l0 : List Int) (rw1 : Bool) (l1 : List Int) : St := ⟨(.sl 0 0 a0n :: .sl 1 0 b1n :: (anys 10 (.int .i64 t12 :: .int .i64 t13 :: (anys 12 [])))), [.at rw0 (.int .i64 l0), .at rw1 (.int .i64 l1)]⟩
abbrev kp_b10I4 : Option (List Nat × List Nat) := some ([0, 1, 12, 13], [4])
noncomputable def lp_b10I4 {R : Type} (N M : Nat) (s : St) (K : X → St → Option R) : Option R := loopH 2 kp_b10I4 (fun st K => exec ty tab_b10I an_b10I N 2 (atOf [true, true, false, true, false, false] Try.f29) st K) M s K
noncomputable def bk_b10I4 {R : Type} (N M : Nat) (K : X → St → Option R) : X → St → Option R := fun x st => match x with | .norm => tidyK 2 (kp_b10I4.map (·.1)) st fun st => lp_b10I4 N M st K | x => tidyK 2 (kp_b10I4.map (·.2)) st fun st => K x st
noncomputable def kt_b10I4 {R : Type} (N : Nat) (K : X → St → Option R) : X → St → Option R := kBlkR 0 (kSeqR tab_b10I an_b10I N 2 (atOf [true, true, true] Try.f29) (K))
def en_b10I4_0 (rw0 : Bool) (l0 : List Int) (rw1 : Bool) (l1 : List Int) : St := ⟨(.any :: .any :: .any :: .any :: .bool false :: (anys 21 [])), [.at rw0 (.int .i64 l0), .at rw1 (.int .i64 l1)]⟩
def en_b10I4_1 (rw0 : Bool) (l0 : List Int) (rw1 : Bool) (l1 : List Int) : St := ⟨(anys 26 []), [.at rw0 (.int .i64 l0), .at rw1 (.int .i64 l1)]⟩
theorem run_b10I (N : Nat) (n : Nat) (m : Nat) (r1 : Bool) (l : List Int) (r2 : Bool) (l' : List Int) : run ty tab_b10I an_b10I N Try.f29 [.sl 0 0 n, .sl 1 0 m] [.at r1 (.int .i64 l), .at r2 (.int .i64 l')]
    = (match ((n : Nat) : Int) != ((m : Nat) : Int) with | true => some (.bool false, [.at r1 (.int .i64 l), .at r2 (.int .i64 l')]) | false => lp_b10I4 N N (st_b10I4 n m ((n : Nat) : Int) 0 r1 l r2 l') (kt_b10I4 N (kEnd Try.f29 2))) := by
  kernel_rfl
theorem step_b10I4 {R : Type} (N M : Nat) (K : X → St → Option R) (a0n : Nat) (b1n : Nat) (t12 : Int) (t13 : Int) (rw0 : Bool) (l0 : List Int) (rw1 : Bool) (l1 : List Int) : lp_b10I4 N (M + 1) (st_b10I4 a0n b1n t12 t13 rw0 l0 rw1 l1) K
    = (match decide ((t13 : Int) < t12) with | true => (match decide (0 ≤ (t13 : Int) ∧ (t13 : Int) < ((a0n : Nat) : Int)) with | true => (match l0[0 + (t13).toNat * 1]? with | some e1 => (match decide (0 ≤ (t13 : Int) ∧ (t13 : Int) < ((b1n : Nat) : Int)) with | true => (match l1[0 + (t13).toNat * 1]? with | some e2 => (match e1 != e2 with | true => K .ret (en_b10I4_0 rw0 l0 rw1 l1) | false => lp_b10I4 N M (st_b10I4 a0n b1n t12 (IntKind.i64.wrap (t13 + 1)) rw0 l0 rw1 l1) K) | none => none) | false => none) | none => none) | false => none) | false => K (.exit 0) (en_b10I4_1 rw0 l0 rw1 l1)) := by
  kernel_rfl
theorem end_b10I4_0 (N : Nat) (rw0 : Bool) (l0 : List Int) (rw1 : Bool) (l1 : List Int) : kt_b10I4 N (kEnd Try.f29 2) .ret (en_b10I4_0 rw0 l0 rw1 l1)
    = some (.bool false, [.at rw0 (.int .i64 l0), .at rw1 (.int .i64 l1)]) := by
  kernel_rfl
theorem end_b10I4_1 (N : Nat) (rw0 : Bool) (l0 : List Int) (rw1 : Bool) (l1 : List Int) : kt_b10I4 N (kEnd Try.f29 2) (.exit 0) (en_b10I4_1 rw0 l0 rw1 l1)
    = some (.bool true, [.at rw0 (.int .i64 l0), .at rw1 (.int .i64 l1)]) := by
  kernel_rfl

def eqOk (n m : Nat) (l l' : List Int) : Bool := decide (l.length = n ∧ l'.length = m ∧ n < 2147483648 ∧ m < 2147483648)
def gInts : GT := fun vs h => match vs, h with
  | [.sl 0 0 n, .sl 1 0 m], [.at r1 (.int .i64 l), .at r2 (.int .i64 l')] => .ite (eqOk n m l l') (.ret (.bool (eqIB l l')) [.at r1 (.int .i64 l), .at r2 (.int .i64 l')]) .no
  | _, _ => .no
theorem ok_Ints : FnT Try.prog 29 gInts := by
  refine fnT tabok_b10I Try.func29 rfl rfl an_b10I fun vs h v h' e => ?_
  unfold gInts at e
  split at e
  · rename_i n m r1 l r2 l'
    obtain ⟨hd, e⟩ := T.pre_inv e
    obtain ⟨rfl, rfl⟩ := T.ret_inv e
    obtain ⟨rfl, rfl, hb, hb'⟩ := of_decide_eq_true hd
    refine ⟨l.length + 1, Eq.trans (run_b10I _ _ _ _ _ _ _) ?_⟩
    unfold eqIB
    by_cases hl : l.length = l'.length
    · rw [show ((l.length : Int) != (l'.length : Int)) = false by simp; omega, show (l.length == l'.length) = true by simpa using hl]
      have hz : (l.zip l').length = l.length := by simp; omega
      refine Eq.trans (b := match firstIx (fun p : Int × Int => p.1 != p.2) (l.zip l') 0 with | some _ => some (.bool false, [.at r1 (.int .i64 l), .at r2 (.int .i64 l')]) | none => some (.bool true, [.at r1 (.int .i64 l), .at r2 (.int .i64 l')])) ?_ (by cases firstIx (fun p : Int × Int => p.1 != p.2) (l.zip l') 0 <;> rfl)
      have hs := scan0 (l.zip l') (fun p : Int × Int => p.1 != p.2) (fun M i => lp_b10I4 (l.length + 1) M (st_b10I4 l.length l'.length ((l.length : Nat) : Int) i r1 l r2 l') (kt_b10I4 (l.length + 1) (kEnd Try.f29 2))) (fun _ => some (.bool false, [.at r1 (.int .i64 l), .at r2 (.int .i64 l')])) (some (.bool true, [.at r1 (.int .i64 l), .at r2 (.int .i64 l')])) (fun M i x hx => ?_) (fun M => ?_)
      · rw [hz] at hs
        exact hs
      · have hi := lt_of_get hx
        rw [hz] at hi
        obtain ⟨h1, h2⟩ := zipI_get hx
        simp only [step_b10I4, dlt hi, din hi, din (show i < l'.length by omega), ix, h1, h2, wr (show i < 2147483648 by omega), end_b10I4_0] <;> (cases (x.1 != x.2) <;> rfl)
      · rw [hz]
        simp only [step_b10I4, dge (Nat.le_refl _), end_b10I4_1]
    · rw [show ((l.length : Int) != (l'.length : Int)) = true by simp; omega, show (l.length == l'.length) = false by simpa using hl]
      rfl
  · exact (T.no_inv e).elim
noncomputable section
def tab_A_tisPart_0 : Fns := tabT [(66, gT gIn)]
theorem tabok_A_tisPart_0 : ∀ f, FnT Try.prog f (tab_A_tisPart_0 f) := (tabT_cons (k := 66) ok_within tabT_nil)
theorem run_A_tisPart_0 (N : Nat) (a0 : Int) (a1 : Int) : run ty tab_A_tisPart_0 ann0 N Try.f67 [.int .i64 a0, .int .i64 a1] []
    = (match inB a1 (IntKind.i64.wrap (0 - a0)) a0 with | true => some (.bool ((Int.tmod (IntKind.i64.wrap (a0 - a1)) 2) == 0), []) | false => some (.bool false, [])) := by
  kernel_rfl

def gA_tisPart : GT := fun vs h => match vs, h with
  | [.int .i64 a0, .int .i64 a1], [] => .ite (inB a1 (IntKind.i64.wrap (0 - a0)) a0) (.ret (.bool ((Int.tmod (IntKind.i64.wrap (a0 - a1)) 2) == 0)) []) (.ret (.bool false) [])
  | _, _ => .no
theorem okA_tisPart : FnT Try.prog 67 gA_tisPart := by
  intro vs hp v h' e
  unfold gA_tisPart at e
  split at e
  · exact FnT.runs tabok_A_tisPart_0 Try.func67 rfl rfl ann0 0 _ _ v h' (by rw [T.run_of]; exact Eq.trans (run_A_tisPart_0 0 _ _) e)
  · exact (T.no_inv e).elim
def tab_A_tTotalsOf_0 : Fns := tabT [(62, gTurns), (63, gTot)]
theorem tabok_A_tTotalsOf_0 : ∀ f, FnT Try.prog f (tab_A_tTotalsOf_0 f) := (tabT_cons (k := 62) ok_areT (tabT_cons (k := 63) ok_totals tabT_nil))
theorem run_A_tTotalsOf_0 (N : Nat) (a0 : Int) (a1 : Int) : run ty tab_A_tTotalsOf_0 ann0 N Try.f30 [.int .i64 a0, .int .i64 a1] []
    = (match decide ([a0, a1].length = 2 ∧ 2 < 2147483648) with | true => (match !(turnsB [a0, a1]) with | true => some (.tup [.a (.nil), .a (.bool false)], []) | false => (match inT a0 a1 with | true => some (.tup [.a (.sl 0 0 ((totL (a0).toNat (a1).toNat).length)), .a (.bool true)], [.at true (.int .i64 (totL (a0).toNat (a1).toNat))]) | false => none)) | false => none) := by
  kernel_rfl

def gA_tTotalsOf : GT := fun vs h => match vs, h with
  | [.int .i64 a0, .int .i64 a1], [] => .ite (decide ([a0, a1].length = 2 ∧ 2 < 2147483648)) (.ite (!(turnsB [a0, a1])) (.ret (.tup [.a (.nil), .a (.bool false)]) []) (.ite (inT a0 a1) (.ret (.tup [.a (.sl 0 0 ((totL (a0).toNat (a1).toNat).length)), .a (.bool true)]) [.at true (.int .i64 (totL (a0).toNat (a1).toNat))]) (.no))) (.no)
  | _, _ => .no
theorem okA_tTotalsOf : FnT Try.prog 30 gA_tTotalsOf := by
  intro vs hp v h' e
  unfold gA_tTotalsOf at e
  split at e
  · exact FnT.runs tabok_A_tTotalsOf_0 Try.func30 rfl rfl ann0 0 _ _ v h' (by rw [T.run_of]; exact Eq.trans (run_A_tTotalsOf_0 0 _ _) e)
  · exact (T.no_inv e).elim
def tab_A_tIsTurn_0 : Fns := tabT [(66, gT gIn), (67, gA_tisPart)]
theorem tabok_A_tIsTurn_0 : ∀ f, FnT Try.prog f (tab_A_tIsTurn_0 f) := (tabT_cons (k := 66) ok_within (tabT_cons (k := 67) okA_tisPart tabT_nil))
theorem run_A_tIsTurn_0 (N : Nat) (a0 : Int) (a1 : Int) : run ty tab_A_tIsTurn_0 ann0 N Try.f31 [.int .i64 a0, .int .i64 a1] []
    = (match inB a0 0 6 with | true => (match inB a1 (IntKind.i64.wrap (0 - a0)) a0 with | true => some (.bool ((Int.tmod (IntKind.i64.wrap (a0 - a1)) 2) == 0), []) | false => some (.bool false, [])) | false => some (.bool false, [])) := by
  kernel_rfl

def gA_tIsTurn : GT := fun vs h => match vs, h with
  | [.int .i64 a0, .int .i64 a1], [] => .ite (inB a0 0 6) (.ite (inB a1 (IntKind.i64.wrap (0 - a0)) a0) (.ret (.bool ((Int.tmod (IntKind.i64.wrap (a0 - a1)) 2) == 0)) []) (.ret (.bool false) [])) (.ret (.bool false) [])
  | _, _ => .no
theorem okA_tIsTurn : FnT Try.prog 31 gA_tIsTurn := by
  intro vs hp v h' e
  unfold gA_tIsTurn at e
  split at e
  · exact FnT.runs tabok_A_tIsTurn_0 Try.func31 rfl rfl ann0 0 _ _ v h' (by rw [T.run_of]; exact Eq.trans (run_A_tIsTurn_0 0 _ _) e)
  · exact (T.no_inv e).elim
end
end Go.Proofs.Ythcjbchkagkaaaa.Ab

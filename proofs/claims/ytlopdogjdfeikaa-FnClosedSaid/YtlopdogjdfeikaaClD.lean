/- Numbers drawn, and gaps. Only lemmas. Printed by gen_closed.py. -/
import Derived.Test.YtlopdogjdfeikaaClA
namespace Go.Proofs.Ytlopdogjdfeikaa.Ab
set_option linter.unusedVariables false
set_option linter.unusedSimpArgs false
open Go
theorem wrap_n {n : Int} (h : -1000 ≤ n) (h2 : n ≤ 1000) : IntKind.i64.wrap n = n := wrap_z (by omega) (by omega)
theorem FnT.runs {f : FuncId} {fn : Func} {code : Code} {fns : Fns} (hfn : ∀ f, FnT Try.prog f (fns f)) (hf : Try.prog.funcs[f]? = some fn) (hb : fn.body = some code) (hn : (fn.name == "runtime.NumGoroutine") = false) (an : Ann) (N : Nat) :
    FnT Try.prog f (fun vs h => T.of (run ty fns an N fn vs h)) :=
  fnT hfn hf hb hn an fun vs h v h' e => ⟨N, by rw [T.run_of] at e; exact e⟩
def longB (n m : Nat) : Bool := decide ((n : Int) > 48) || decide ((m : Int) > 48)
def atOk (n : Nat) (l : List Int) (i : Int) : Bool := decide (l.length = n ∧ n < 2147483648 ∧ 0 ≤ i ∧ i < 1000)
def atF (l : List Int) (i k : Int) : Int := match decide (k ≤ 1) with
  | true => 0
  | false => match l[i.toNat]? with
    | some e => Int.tmod (IntKind.i64.wrap e) k
    | none => 0
def bytesB (l : List Int) : Bool := l.all (fun e => decide (0 ≤ e ∧ e < 256))
theorem atF_range {l : List Int} {i k : Int} (hb : bytesB l = true) (hi : 0 ≤ i) (hi2 : i < 1000) (hk : 1 ≤ k) : 0 ≤ atF l i k ∧ atF l i k < k := by
  unfold atF
  by_cases h1 : k ≤ 1
  · rw [decide_eq_true h1]
    show 0 ≤ (0 : Int) ∧ (0 : Int) < k
    omega
  · rw [decide_eq_false h1]
    dsimp only
    cases he : l[i.toNat]? with
    | some e =>
      obtain ⟨e0, e1⟩ := of_decide_eq_true (List.all_eq_true.mp hb e (List.mem_of_getElem? he))
      show 0 ≤ Int.tmod (IntKind.i64.wrap e) k ∧ Int.tmod (IntKind.i64.wrap e) k < k
      rw [wrap_z (by omega) (by omega), Int.tmod_eq_emod_of_nonneg e0]
      exact ⟨Int.emod_nonneg _ (by omega), Int.emod_lt_of_pos _ (by omega)⟩
    | none =>
      show 0 ≤ (0 : Int) ∧ (0 : Int) < k
      omega
def tab_lgA : Fns := tabT []
theorem tabok_lgA : ∀ f, FnT Try.prog f (tab_lgA f) := tabT_nil
theorem run_lgA (N : Nat) (n : Nat) (m : Nat) (r : Bool) (l : List Int) (q : Bool) (l' : List Int) : run ty tab_lgA ann0 N Try.f4 [.sl 0 0 n, .sl 1 0 m] [.at r (.int .u8 l), .at q (.int .u8 l')]
    = (match decide ((((n : Nat) : Int) : Int) > 48) with | true => some (.bool true, [.at r (.int .u8 l), .at q (.int .u8 l')]) | false => some (.bool (decide ((((m : Nat) : Int) : Int) > 48)), [.at r (.int .u8 l), .at q (.int .u8 l')])) := by
  kernel_rfl

def tab_lgB : Fns := tabT []
theorem tabok_lgB : ∀ f, FnT Try.prog f (tab_lgB f) := tabT_nil
theorem run_lgB (N : Nat) (n : Nat) (r : Bool) (l : List Int) : run ty tab_lgB ann0 N Try.f4 [.sl 0 0 n, .nil] [.at r (.int .u8 l)]
    = (match decide ((((n : Nat) : Int) : Int) > 48) with | true => some (.bool true, [.at r (.int .u8 l)]) | false => some (.bool false, [.at r (.int .u8 l)])) := by
  kernel_rfl

def tab_lgC : Fns := tabT []
theorem tabok_lgC : ∀ f, FnT Try.prog f (tab_lgC f) := tabT_nil
theorem run_lgC (N : Nat) (m : Nat) (r : Bool) (l : List Int) : run ty tab_lgC ann0 N Try.f4 [.nil, .sl 0 0 m] [.at r (.int .u8 l)]
    = some (.bool (decide ((((m : Nat) : Int) : Int) > 48)), [.at r (.int .u8 l)]) := by
  kernel_rfl

def tab_lgD : Fns := tabT []
theorem tabok_lgD : ∀ f, FnT Try.prog f (tab_lgD f) := tabT_nil
theorem run_lgD (N : Nat)  : run ty tab_lgD ann0 N Try.f4 [.nil, .nil] []
    = some (.bool false, []) := by
  kernel_rfl

def gLong : GT := fun vs h => match vs, h with
  | [.sl 0 0 n, .sl 1 0 m], [.at r (.int .u8 l), .at q (.int .u8 l')] => .ret (.bool (longB n m)) [.at r (.int .u8 l), .at q (.int .u8 l')]
  | [.sl 0 0 n, .nil], [.at r (.int .u8 l)] => .ret (.bool (longB n 0)) [.at r (.int .u8 l)]
  | [.nil, .sl 0 0 m], [.at r (.int .u8 l)] => .ret (.bool (longB 0 m)) [.at r (.int .u8 l)]
  | [.nil, .nil], [] => .ret (.bool (longB 0 0)) []
  | _, _ => .no
theorem ok_Long : FnT Try.prog 4 gLong := by
  intro vs hp v h' e
  unfold gLong at e
  split at e
  · obtain ⟨rfl, rfl⟩ := T.ret_inv e
    refine FnT.runs tabok_lgA Try.func4 rfl rfl ann0 0 _ _ _ _ ?_
    rw [T.run_of]
    refine Eq.trans (run_lgA 0 _ _ _ _ _ _) ?_
    unfold longB
    rename_i n m r q l l'
    cases decide ((n : Int) > 48) <;> rfl
  · obtain ⟨rfl, rfl⟩ := T.ret_inv e
    refine FnT.runs tabok_lgB Try.func4 rfl rfl ann0 0 _ _ _ _ ?_
    rw [T.run_of]
    refine Eq.trans (run_lgB 0 _ _ _) ?_
    unfold longB
    rename_i n r l
    cases decide ((n : Int) > 48) <;> rfl
  · obtain ⟨rfl, rfl⟩ := T.ret_inv e
    refine FnT.runs tabok_lgC Try.func4 rfl rfl ann0 0 _ _ _ _ ?_
    rw [T.run_of]
    refine Eq.trans (run_lgC 0 _ _ _) ?_
    unfold longB
    rfl
  · obtain ⟨rfl, rfl⟩ := T.ret_inv e
    refine FnT.runs tabok_lgD Try.func4 rfl rfl ann0 0 _ _ _ _ ?_
    rw [T.run_of]
    refine Eq.trans (run_lgD 0 ) ?_
    unfold longB
    rfl
  · exact (T.no_inv e).elim
def tab_atA : Fns := tabT []
theorem tabok_atA : ∀ f, FnT Try.prog f (tab_atA f) := tabT_nil
theorem run_atA (N : Nat) (n : Nat) (i : Int) (k : Int) (rw : Bool) (l : List Int) : run ty tab_atA ann0 N Try.f5 [.sl 0 0 n, .int .i64 i, .int .i64 k] [.at rw (.int .u8 l)]
    = (match decide ((k : Int) ≤ 1) with | true => some (.int .i64 0, [.at rw (.int .u8 l)]) | false => (match decide ((i : Int) ≥ ((n : Nat) : Int)) with | true => some (.int .i64 0, [.at rw (.int .u8 l)]) | false => (match decide (0 ≤ (i : Int) ∧ (i : Int) < ((n : Nat) : Int)) with | true => (match l[0 + (i).toNat * 1]? with | some e1 => (match decide (k = 0) with | true => none | false => some (.int .i64 (Int.tmod (IntKind.i64.wrap e1) k), [.at rw (.int .u8 l)])) | none => none) | false => none))) := by
  kernel_rfl

def tab_atB : Fns := tabT []
theorem tabok_atB : ∀ f, FnT Try.prog f (tab_atB f) := tabT_nil
theorem run_atB (N : Nat) (i : Int) (k : Int) : run ty tab_atB ann0 N Try.f5 [.nil, .int .i64 i, .int .i64 k] []
    = (match decide ((k : Int) ≤ 1) with | true => some (.int .i64 0, []) | false => (match decide ((i : Int) ≥ 0) with | true => some (.int .i64 0, []) | false => none)) := by
  kernel_rfl

def gAt : GT := fun vs h => match vs, h with
  | [.sl 0 0 n, .int .i64 i, .int .i64 k], [.at rw (.int .u8 l)] => .ite (atOk n l i) (.ret (.int .i64 (atF l i k)) [.at rw (.int .u8 l)]) .no
  | [.nil, .int .i64 i, .int .i64 k], [] => .ite (atOk 0 [] i) (.ret (.int .i64 (atF [] i k)) []) .no
  | _, _ => .no
theorem ok_At : FnT Try.prog 5 gAt := by
  intro vs hp v h' e
  unfold gAt at e
  split at e
  · rename_i n i k rw l
    obtain ⟨hd, e⟩ := T.pre_inv e
    obtain ⟨rfl, rfl⟩ := T.ret_inv e
    obtain ⟨hn, hn2, hi, hi2⟩ := of_decide_eq_true hd
    refine FnT.runs tabok_atA Try.func5 rfl rfl ann0 0 _ _ _ _ ?_
    rw [T.run_of]
    refine Eq.trans (run_atA 0 n i k rw l) ?_
    unfold atF
    by_cases h1 : k ≤ 1
    · rw [decide_eq_true h1]
    · rw [decide_eq_false h1]
      by_cases h2 : i < (n : Int)
      · have hx : l[i.toNat]? = some l[i.toNat] := List.getElem?_eq_getElem (by omega)
        rw [decide_eq_false (show ¬ i ≥ (n : Int) by omega), decide_eq_true (show 0 ≤ i ∧ i < (n : Int) from ⟨hi, h2⟩), show 0 + i.toNat * 1 = i.toNat by omega, hx]
        dsimp only
        rw [decide_eq_false (show ¬ k = 0 by omega)]
      · have hx : l[i.toNat]? = none := List.getElem?_eq_none (by omega)
        rw [decide_eq_true (show i ≥ (n : Int) by omega), hx]
  · rename_i i k
    obtain ⟨hd, e⟩ := T.pre_inv e
    obtain ⟨rfl, rfl⟩ := T.ret_inv e
    obtain ⟨hn, hn2, hi, hi2⟩ := of_decide_eq_true hd
    refine FnT.runs tabok_atB Try.func5 rfl rfl ann0 0 _ _ _ _ ?_
    rw [T.run_of]
    refine Eq.trans (run_atB 0 i k) ?_
    unfold atF
    by_cases h1 : k ≤ 1
    · rw [decide_eq_true h1]
    · rw [decide_eq_false h1, decide_eq_true (show i ≥ 0 by omega), List.getElem?_nil]
  · exact (T.no_inv e).elim
def r8G (x y : Nat) : Nat := fmax .f64 (fop .sub .f64 (up x) (up y)) (fop .sub .f64 (up y) (up x))
def gG8 : G := fun vs h => match vs, h with | [.fl .f32 x, .fl .f32 y], [] => some (.fl .f64 (r8G x y), []) | _, _ => none
def nmO {α : Type} (x : α) : Option α := some x
def tab_r8g : Fns := tabT []
theorem tabok_r8g : ∀ f, FnT Try.prog f (tab_r8g f) := tabT_nil
theorem run_r8g (N : Nat) (x : Nat) (y : Nat) : run ty tab_r8g ann0 N Try.f9 [.fl .f32 x, .fl .f32 y] []
    = (match fconv .f32 x .f64 with | some c1 => (match fconv .f32 y .f64 with | some c2 => (match fconv .f32 y .f64 with | some c3 => (match fconv .f32 x .f64 with | some c4 => some (.fl .f64 (fmax .f64 (fop .sub .f64 c1 c2) (fop .sub .f64 c3 c4)), []) | none => none) | none => none) | none => none) | none => none) := by
  kernel_rfl

theorem ok_r8g : FnT Try.prog 9 (gT gG8) := by
  refine fnT tabok_r8g Try.func9 rfl rfl ann0 fun vs h v h' e => ⟨0, ?_⟩
  rw [T.run_of] at e
  unfold gG8 at e
  split at e
  case h_2 => cases e
  rename_i x y
  cases e
  refine Eq.trans (run_r8g 0 x y) ?_
  simp only [fconv_eq]
  rfl
end Go.Proofs.Ytlopdogjdfeikaa.Ab

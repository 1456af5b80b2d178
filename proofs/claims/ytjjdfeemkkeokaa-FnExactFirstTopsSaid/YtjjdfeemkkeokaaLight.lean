/- 'LightSteps': what it computes, and its law. Only lemmas. -/
import Derived.Test.YtjjdfeemkkeokaaPump
namespace Go.Proofs.Ytjjdfeemkkeokaa.Ab
set_option linter.unusedVariables false
set_option linter.unusedSimpArgs false
open Go

/-- What follows the loop whose first region is 'r', in the row of codes that it ends. -/
def tailIn (r : Nat) : Code → Option Code
  | .seq a b => match loopIn r a with
    | some _ => (match tailIn r a with | some c => some c | none => some b)
    | none => tailIn r b
  | _ => none
def tailOf (r : Nat) (fn : Func) : Code :=
  match fn.body with
  | some c => match tailIn r c with
    | some b => b
    | none => .skip
  | none => .skip
abbrev kEnd (fn : Func) (k : Nat) : X → St → Option (V × H) := fun x st => match x with | .exit _ => none | _ => finish fn k st
abbrev kSeq (fns : Fns) (an : Ann) (N k : Nat) (c : Code) (K : X → St → Option (V × H)) : X → St → Option (V × H) := fun x st => match x with | .norm => exec ty fns an N k c st K | x => K x st
abbrev kBlk (id : Nat) (K : X → St → Option (V × H)) : X → St → Option (V × H) := fun x st => match x with
  | .exit j => match decide (j = id) with
    | true => K .norm st
    | false => K (.exit j) st
  | x => K x st

def timesB (h : Nat) (n : Int) : Bool := nonB h && inB n 0 512
def gTimes : G := fun vs h => match vs, h with | [.fl .f32 x, .int .i64 n], [] => some (.bool (timesB x n), []) | _, _ => none
theorem ok_l04Times : FnOk Try.prog 65 gTimes := by
  refine fnOk (tab_cons (k := 64) ok_l02Least (tab_cons (k := 50) ok_l00In tab_nil)) Try.func65 rfl rfl ann0 fun vs h v h' e => ⟨0, ?_⟩
  unfold gTimes at e
  split at e
  · cases e
    rename_i x n
    refine Eq.trans (b := match nonB x with | true => some (.bool (inB n 0 512), []) | false => some (.bool false, [])) (by kernel_rfl) ?_
    unfold timesB
    cases nonB x <;> rfl
  · cases e
theorem ok_areSteps : FnOk Try.prog 67 gTimes := by
  refine fnOk (tab_cons (k := 77) ok_IsFinite (tab_cons (k := 48) ok_within tab_nil)) Try.func67 rfl rfl ann0 fun vs h v h' e => ⟨0, ?_⟩
  unfold gTimes at e
  split at e
  · cases e
    rename_i x n
    refine Eq.trans (b := match finB x with
      | true => (match (gtB x 0 || eqB x 0) with | true => some (.bool (inB n 0 512), []) | false => some (.bool false, []))
      | false => some (.bool false, [])) (by kernel_rfl) ?_
    unfold timesB nonB
    cases finB x <;> cases gtB x 0 <;> cases eqB x 0 <;> rfl
  · cases e

def liA (pump gain u l : Nat) : Nat := fop .sub .f32 (fop .sub .f32 pump u) (fop .mul .f32 (fop .mul .f32 gain u) l)
def liB (loss gain spill u l : Nat) : Nat := fop .add .f32 (fop .mul .f32 (fop .sub .f32 (fop .mul .f32 gain u) loss) l) (fop .mul .f32 spill u)
def liU (pump gain h u l : Nat) : Nat := fop .add .f32 u (fop .mul .f32 h (liA pump gain u l))
def liL (loss gain spill h u l : Nat) : Nat := fop .add .f32 l (fop .mul .f32 h (liB loss gain spill u l))
def lightL (pump loss gain spill h : Nat) (n : Int) : Nat → Int → Nat → Nat → Option (Nat × Nat)
  | 0, _, _, _ => none
  | M + 1, t, u, l => match decide (t < n) with
    | true => lightL pump loss gain spill h n M (IntKind.i64.wrap (t + 1)) (liU pump gain h u l) (liL loss gain spill h u l)
    | false => some (u, l)
theorem lightL_some {pump loss gain spill h : Nat} {n : Int} (hn : n ≤ 512) : ∀ (M : Nat) (t : Int) (u l : Nat), 0 ≤ t → n + 1 ≤ (M : Int) + t → 1 ≤ M → ∃ r, lightL pump loss gain spill h n M t u l = some r := by
  intro M
  induction M with
  | zero => intro t u l _ _ h1; omega
  | succ M ih =>
    intro t u l h0 hM _
    unfold lightL
    by_cases ht : t < n
    · rw [decide_eq_true ht, wrap_s (by omega) (by omega)]
      exact ih _ _ _ (by omega) (by omega) (by omega)
    · rw [decide_eq_false ht]
      exact ⟨_, rfl⟩
def liOk (u l pump loss gain spill h : Nat) (n : Int) : Bool := finB u && finB l && nonB pump && posB loss && posB gain && nonB spill && timesB h n
theorem li_some {u l pump loss gain spill h : Nat} {n : Int} (hok : timesB h n = true) : ∃ r, lightL pump loss gain spill h n 513 0 u l = some r := by
  have hn : inB n 0 512 = true := by
    simp only [timesB, Bool.and_eq_true] at hok
    exact hok.2
  simp only [inB, Bool.and_eq_true, decide_eq_true_eq] at hn
  exact lightL_some hn.2 _ _ _ _ (by omega) (by omega) (by omega)
def liR (u l pump loss gain spill h : Nat) (n : Int) : Nat × Nat := (lightL pump loss gain spill h n 513 0 u l).getD (0, 0)
def liAll (u l pump loss gain spill h : Nat) (n : Int) : Bool := liOk u l pump loss gain spill h n && (finB (liR u l pump loss gain spill h n).1 && finB (liR u l pump loss gain spill h n).2)
abbrev threeV (b : Bool) (x y : Nat) : V := .tup [.a (.fl .f32 x), .a (.fl .f32 y), .a (.bool b)]
def gLight : G := fun vs hp => match vs, hp with
  | [.fl .f32 u, .fl .f32 l, .fl .f32 pump, .fl .f32 loss, .fl .f32 gain, .fl .f32 spill, .fl .f32 h, .int .i64 n], [] =>
    some (threeV (liAll u l pump loss gain spill h n) (cond (liAll u l pump loss gain spill h n) (liR u l pump loss gain spill h n).1 0) (cond (liAll u l pump loss gain spill h n) (liR u l pump loss gain spill h n).2 0), [])
  | _, _ => none

def annLispec : Ann := ⟨fun r => if r = 4 then some ([0, 1, 2, 3, 4, 5, 6, 7, 19], [0, 1]) else none, fun _ _ => .quiet⟩
def tabLispec : Fns := tab [(63, gF1 finB), (64, gF1 nonB), (59, gF1 posB), (65, gTimes)]
abbrev kpLispec : Option (List Nat × List Nat) := some ([0, 1, 2, 3, 4, 5, 6, 7, 19], [0, 1])
def stLispec (u l pump loss gain spill h : Nat) (n t : Int) : St := ⟨[.fl .f32 u, .fl .f32 l, .fl .f32 pump, .fl .f32 loss, .fl .f32 gain, .fl .f32 spill, .fl .f32 h, .int .i64 n, .any, .any, .any, .any, .any, .any, .any, .any, .any, .any, .any, .int .i64 t, .any, .any, .any, .any, .any, .any, .any, .any, .any, .any, .any, .any, .any, .any, .any, .any, .any, .any, .any, .any, .any, .any, .any, .any, .any, .any, .any, .any, .any, .any, .any, .any, .any, .any, .any, .any, .any, .any, .any, .any, .any, .any, .any, .any, .any, .any, .any, .any, .any, .any, .any, .any, .any, .any, .any, .any, .any, .any, .any, .any, .any, .any, .any, .any, .any, .any, .any, .any, .any, .any, .any, .any, .any, .any, .any, .any, .any, .any, .any, .any, .any], []⟩
def endLispec (u l : Nat) : St := ⟨[.fl .f32 u, .fl .f32 l, .any, .any, .any, .any, .any, .any, .any, .any, .any, .any, .any, .any, .any, .any, .any, .any, .any, .any, .any, .any, .any, .any, .any, .any, .any, .any, .any, .any, .any, .any, .any, .any, .any, .any, .any, .any, .any, .any, .any, .any, .any, .any, .any, .any, .any, .any, .any, .any, .any, .any, .any, .any, .any, .any, .any, .any, .any, .any, .any, .any, .any, .any, .any, .any, .any, .any, .any, .any, .any, .any, .any, .any, .any, .any, .any, .any, .any, .any, .any, .any, .any, .any, .any, .any, .any, .any, .any, .any, .any, .any, .any, .any, .any, .any, .any, .any, .any, .any, .any], []⟩
theorem step_Lispec {R : Type} (N M : Nat) (u l pump loss gain spill h : Nat) (n t : Int) (K : X → St → Option R) :
    loopH 0 kpLispec (fun st K => exec ty tabLispec annLispec N 0 (loopOf 4 Try.f29) st K) (M + 1) (stLispec u l pump loss gain spill h n t) K
    = match decide (t < n) with
      | true => loopH 0 kpLispec (fun st K => exec ty tabLispec annLispec N 0 (loopOf 4 Try.f29) st K) M (stLispec (liU pump gain h u l) (liL loss gain spill h u l) pump loss gain spill h n (IntKind.i64.wrap (t + 1))) K
      | false => K (.exit 0) (endLispec u l) := by
  kernel_rfl
theorem loop_Lispec {R : Type} (N : Nat) (pump loss gain spill h : Nat) (n : Int) (K : X → St → Option R) : ∀ (M : Nat) (t : Int) (u l : Nat),
    loopH 0 kpLispec (fun st K => exec ty tabLispec annLispec N 0 (loopOf 4 Try.f29) st K) M (stLispec u l pump loss gain spill h n t) K
    = match lightL pump loss gain spill h n M t u l with
      | some r => K (.exit 0) (endLispec r.1 r.2)
      | none => none := by
  intro M
  induction M with
  | zero => intro t u l; rfl
  | succ M ih =>
    intro t u l
    rw [step_Lispec]
    unfold lightL
    cases decide (t < n) with
    | true => exact ih _ _ _
    | false => rfl
def liEndspec (x y : Nat) : Option (V × H) := match !finB x with
      | true => some (threeV false 0 0, [])
      | false => match !finB y with
        | true => some (threeV false 0 0, [])
        | false => some (threeV true x y, [])
theorem end_Lispec (N x y : Nat) : kBlk 0 (kSeq tabLispec annLispec N 0 (tailOf 4 Try.f29) (kEnd Try.f29 0)) (.exit 0) (endLispec x y) = liEndspec x y := by
  kernel_rfl
theorem all_Lispec (N : Nat) (pump loss gain spill h : Nat) (n : Int) (M : Nat) (t : Int) (u l : Nat) :
    loopH 0 kpLispec (fun st K => exec ty tabLispec annLispec N 0 (loopOf 4 Try.f29) st K) M (stLispec u l pump loss gain spill h n t) (kBlk 0 (kSeq tabLispec annLispec N 0 (tailOf 4 Try.f29) (kEnd Try.f29 0)))
    = match lightL pump loss gain spill h n M t u l with
      | some r => liEndspec r.1 r.2
      | none => none := by
  rw [loop_Lispec]
  cases lightL pump loss gain spill h n M t u l with
  | none => rfl
  | some r => exact end_Lispec N r.1 r.2
theorem run_Lispec (N : Nat) (u l pump loss gain spill h : Nat) (n : Int) : run ty tabLispec annLispec N Try.f29 [.fl .f32 u, .fl .f32 l, .fl .f32 pump, .fl .f32 loss, .fl .f32 gain, .fl .f32 spill, .fl .f32 h, .int .i64 n] []
    = match !finB u with
      | true => some (threeV false 0 0, [])
      | false => match !finB l with
      | true => some (threeV false 0 0, [])
      | false => match !nonB pump with
      | true => some (threeV false 0 0, [])
      | false => match !posB loss with
      | true => some (threeV false 0 0, [])
      | false => match !posB gain with
      | true => some (threeV false 0 0, [])
      | false => match !nonB spill with
      | true => some (threeV false 0 0, [])
      | false => match !timesB h n with
      | true => some (threeV false 0 0, [])
      | false => loopH 0 kpLispec (fun st K => exec ty tabLispec annLispec N 0 (loopOf 4 Try.f29) st K) N (stLispec u l pump loss gain spill h n 0) (kBlk 0 (kSeq tabLispec annLispec N 0 (tailOf 4 Try.f29) (kEnd Try.f29 0))) := by
  kernel_rfl
theorem ok_specLight : FnOk Try.prog 29 gLight := by
  refine fnOk (tab_cons (k := 63) ok_l01Finite (tab_cons (k := 64) ok_l02Least (tab_cons (k := 59) ok_l02Above (tab_cons (k := 65) ok_l04Times tab_nil)))) Try.func29 rfl rfl annLispec fun vs h v h' e => ⟨513, ?_⟩
  unfold gLight at e
  split at e
  · cases e
    rename_i u l pump loss gain spill h n
    refine Eq.trans (run_Lispec 513 u l pump loss gain spill h n) ?_
    rw [all_Lispec]
    unfold liAll
    unfold liOk
    cases ht : timesB h n with
    | false =>
      generalize finB u = b1
      generalize finB l = b2
      generalize nonB pump = b3
      generalize posB loss = b4
      generalize posB gain = b5
      generalize nonB spill = b6
      simp only [Bool.and_false, Bool.false_and, cond_false, Bool.not_false]
      cases b1
      · rfl
      cases b2
      · rfl
      cases b3
      · rfl
      cases b4
      · rfl
      cases b5
      · rfl
      cases b6
      · rfl
      rfl
    | true =>
      obtain ⟨⟨x, y⟩, hr⟩ := li_some (u := u) (l := l) (pump := pump) (loss := loss) (gain := gain) (spill := spill) ht
      unfold liR
      rw [hr]
      simp only [Option.getD_some]
      unfold liEndspec
      generalize finB u = b1
      generalize finB l = b2
      generalize nonB pump = b3
      generalize posB loss = b4
      generalize posB gain = b5
      generalize nonB spill = b6
      generalize finB x = b7
      generalize finB y = b8
      cases b1
      · rfl
      cases b2
      · rfl
      cases b3
      · rfl
      cases b4
      · rfl
      cases b5
      · rfl
      cases b6
      · rfl
      cases b7 <;> cases b8 <;> rfl
  · cases e

def annLiimpl : Ann := ⟨fun r => if r = 4 then some ([0, 1, 2, 3, 4, 5, 6, 46, 47], [0, 1]) else none, fun _ _ => .quiet⟩
def tabLiimpl : Fns := tab [(52, gAll finB), (66, gAll nonB), (61, gAll posB), (67, gTimes)]
abbrev kpLiimpl : Option (List Nat × List Nat) := some ([0, 1, 2, 3, 4, 5, 6, 46, 47], [0, 1])
def stLiimpl (u l pump loss gain spill h : Nat) (n t : Int) : St := ⟨[.fl .f32 u, .fl .f32 l, .fl .f32 pump, .fl .f32 loss, .fl .f32 gain, .fl .f32 spill, .fl .f32 h, .any, .any, .any, .any, .any, .any, .any, .any, .any, .any, .any, .any, .any, .any, .any, .any, .any, .any, .any, .any, .any, .any, .any, .any, .any, .any, .any, .any, .any, .any, .any, .any, .any, .any, .any, .any, .any, .any, .any, .int .i64 n, .int .i64 t, .any, .any, .any, .any, .any, .any, .any, .any, .any, .any, .any, .any, .any, .any, .any, .any, .any, .any, .any, .any, .any, .any, .any, .any, .any, .any, .any, .any, .any, .any, .any, .any, .any, .any, .any, .any, .any, .any, .any], []⟩
def endLiimpl (u l : Nat) : St := ⟨[.fl .f32 u, .fl .f32 l, .any, .any, .any, .any, .any, .any, .any, .any, .any, .any, .any, .any, .any, .any, .any, .any, .any, .any, .any, .any, .any, .any, .any, .any, .any, .any, .any, .any, .any, .any, .any, .any, .any, .any, .any, .any, .any, .any, .any, .any, .any, .any, .any, .any, .any, .any, .any, .any, .any, .any, .any, .any, .any, .any, .any, .any, .any, .any, .any, .any, .any, .any, .any, .any, .any, .any, .any, .any, .any, .any, .any, .any, .any, .any, .any, .any, .any, .any, .any, .any, .any, .any, .any, .any, .any], []⟩
theorem step_Liimpl {R : Type} (N M : Nat) (u l pump loss gain spill h : Nat) (n t : Int) (K : X → St → Option R) :
    loopH 0 kpLiimpl (fun st K => exec ty tabLiimpl annLiimpl N 0 (loopOf 4 Try.f30) st K) (M + 1) (stLiimpl u l pump loss gain spill h n t) K
    = match decide (t < n) with
      | true => loopH 0 kpLiimpl (fun st K => exec ty tabLiimpl annLiimpl N 0 (loopOf 4 Try.f30) st K) M (stLiimpl (liU pump gain h u l) (liL loss gain spill h u l) pump loss gain spill h n (IntKind.i64.wrap (t + 1))) K
      | false => K (.exit 0) (endLiimpl u l) := by
  kernel_rfl
theorem loop_Liimpl {R : Type} (N : Nat) (pump loss gain spill h : Nat) (n : Int) (K : X → St → Option R) : ∀ (M : Nat) (t : Int) (u l : Nat),
    loopH 0 kpLiimpl (fun st K => exec ty tabLiimpl annLiimpl N 0 (loopOf 4 Try.f30) st K) M (stLiimpl u l pump loss gain spill h n t) K
    = match lightL pump loss gain spill h n M t u l with
      | some r => K (.exit 0) (endLiimpl r.1 r.2)
      | none => none := by
  intro M
  induction M with
  | zero => intro t u l; rfl
  | succ M ih =>
    intro t u l
    rw [step_Liimpl]
    unfold lightL
    cases decide (t < n) with
    | true => exact ih _ _ _
    | false => rfl
def liEndimpl (x y : Nat) : Option (V × H) := match !(finB x && (finB y && true)) with
      | true => some (threeV false 0 0, [])
      | false => some (threeV true x y, [])
theorem end_Liimpl (N x y : Nat) : kBlk 0 (kSeq tabLiimpl annLiimpl N 0 (tailOf 4 Try.f30) (kEnd Try.f30 0)) (.exit 0) (endLiimpl x y) = liEndimpl x y := by
  kernel_rfl
theorem all_Liimpl (N : Nat) (pump loss gain spill h : Nat) (n : Int) (M : Nat) (t : Int) (u l : Nat) :
    loopH 0 kpLiimpl (fun st K => exec ty tabLiimpl annLiimpl N 0 (loopOf 4 Try.f30) st K) M (stLiimpl u l pump loss gain spill h n t) (kBlk 0 (kSeq tabLiimpl annLiimpl N 0 (tailOf 4 Try.f30) (kEnd Try.f30 0)))
    = match lightL pump loss gain spill h n M t u l with
      | some r => liEndimpl r.1 r.2
      | none => none := by
  rw [loop_Liimpl]
  cases lightL pump loss gain spill h n M t u l with
  | none => rfl
  | some r => exact end_Liimpl N r.1 r.2
theorem run_Liimpl (N : Nat) (u l pump loss gain spill h : Nat) (n : Int) : run ty tabLiimpl annLiimpl N Try.f30 [.fl .f32 u, .fl .f32 l, .fl .f32 pump, .fl .f32 loss, .fl .f32 gain, .fl .f32 spill, .fl .f32 h, .int .i64 n] []
    = match !(finB u && (finB l && true)) with
      | true => some (threeV false 0 0, [])
      | false => match !(nonB pump && (nonB spill && true)) with
      | true => some (threeV false 0 0, [])
      | false => match !(posB loss && (posB gain && true)) with
      | true => some (threeV false 0 0, [])
      | false => match !timesB h n with
      | true => some (threeV false 0 0, [])
      | false => loopH 0 kpLiimpl (fun st K => exec ty tabLiimpl annLiimpl N 0 (loopOf 4 Try.f30) st K) N (stLiimpl u l pump loss gain spill h n 0) (kBlk 0 (kSeq tabLiimpl annLiimpl N 0 (tailOf 4 Try.f30) (kEnd Try.f30 0))) := by
  kernel_rfl
theorem ok_implLight : FnOk Try.prog 30 gLight := by
  refine fnOk (tab_cons (k := 52) ok_areFinite (tab_cons (k := 66) ok_areRotor (tab_cons (k := 61) ok_arePositive (tab_cons (k := 67) ok_areSteps tab_nil)))) Try.func30 rfl rfl annLiimpl fun vs h v h' e => ⟨513, ?_⟩
  unfold gLight at e
  split at e
  · cases e
    rename_i u l pump loss gain spill h n
    refine Eq.trans (run_Liimpl 513 u l pump loss gain spill h n) ?_
    rw [all_Liimpl]
    unfold liAll
    unfold liOk
    cases ht : timesB h n with
    | false =>
      generalize finB u = b1
      generalize finB l = b2
      generalize nonB pump = b3
      generalize posB loss = b4
      generalize posB gain = b5
      generalize nonB spill = b6
      simp only [Bool.and_false, Bool.false_and, cond_false, Bool.not_false]
      cases b1
      · rfl
      cases b2
      · rfl
      cases b3
      · rfl
      cases b6
      · cases b4 <;> cases b5 <;> rfl
      cases b4
      · rfl
      cases b5
      · rfl
      rfl
    | true =>
      obtain ⟨⟨x, y⟩, hr⟩ := li_some (u := u) (l := l) (pump := pump) (loss := loss) (gain := gain) (spill := spill) ht
      unfold liR
      rw [hr]
      simp only [Option.getD_some]
      unfold liEndimpl
      generalize finB u = b1
      generalize finB l = b2
      generalize nonB pump = b3
      generalize posB loss = b4
      generalize posB gain = b5
      generalize nonB spill = b6
      generalize finB x = b7
      generalize finB y = b8
      cases b1
      · rfl
      cases b2
      · rfl
      cases b3
      · rfl
      cases b6
      · cases b4 <;> cases b5 <;> rfl
      cases b4
      · rfl
      cases b5
      · rfl
      cases b7 <;> cases b8 <;> rfl
  · cases e

def gLawLight : G := fun vs h => match vs, h with | [.fl .f32 _, .fl .f32 _, .fl .f32 _, .fl .f32 _, .fl .f32 _, .fl .f32 _, .fl .f32 _, .int .i64 _], [] => some (.bool true, []) | _, _ => none
def threeLaw (y z : Nat) (b : Bool) : Option (V × H) :=
  match fconv .f32 y .f64 with
  | none => none
  | some d => match fconv .f32 y .f64 with
    | none => none
    | some d' => match !sameB d d' with
      | true => some (.bool false, [])
      | false => match fconv .f32 z .f64 with
        | none => none
        | some c => match fconv .f32 z .f64 with
          | none => none
          | some c' => match !sameB c c' with
            | true => some (.bool false, [])
            | false => match !(b == b) with
              | true => some (.bool false, [])
              | false => some (.bool true, [])
theorem threeLaw_eq (y z : Nat) (b : Bool) : threeLaw y z b = some (.bool true, []) := by
  unfold threeLaw
  simp only [fconv_eq, sameB_self, beq_self_eq_true, Bool.not_true]
theorem ok_lawLight : FnOk Try.prog 9 gLawLight := by
  refine fnOk (tab_cons (k := 29) ok_specLight (tab_cons (k := 30) ok_implLight (tab_cons (k := 28) ok_sameFloat tab_nil))) Try.func9 rfl rfl ann0 fun vs h v h' e => ⟨0, ?_⟩
  unfold gLawLight at e
  split at e
  · cases e
    rename_i u l pump loss gain spill h n
    exact Eq.trans (b := threeLaw (cond (liAll u l pump loss gain spill h n) (liR u l pump loss gain spill h n).1 0) (cond (liAll u l pump loss gain spill h n) (liR u l pump loss gain spill h n).2 0) (liAll u l pump loss gain spill h n)) (by kernel_rfl) (threeLaw_eq _ _ _)
  · cases e
end Go.Proofs.Ytjjdfeemkkeokaa.Ab

/- Lists of numbers: equal ones, checked ones. Only lemmas. -/
import Derived.Test.YthcjbchkagkaaaaKont
namespace Go.Proofs.Ythcjbchkagkaaaa.Ab
set_option linter.unusedVariables false
set_option linter.unusedSimpArgs false
open Go

def eqL : List Nat → List Nat → Bool
  | x :: l, y :: l' => match !sameB (up x) (up y) with
    | true => false
    | false => eqL l l'
  | _, _ => true
theorem eqL_self : ∀ l, eqL l l = true
  | [] => rfl
  | x :: l => by
    unfold eqL
    rw [sameB_self]
    exact eqL_self l

def annEq : Ann := ⟨fun r => if r = 4 then some ([0, 1, 5], [4]) else none, fun _ _ => .quiet⟩
abbrev kpEq : Option (List Nat × List Nat) := some ([0, 1, 5], [4])
def tabEq : Fns := tab [(17, gSame)]
def hEq (r1 r2 : Bool) (l l' : List Nat) : H := [.at r1 (.fl .f32 l), .at r2 (.fl .f32 l')]
def stEq (n : Nat) (i : Int) (h : H) : St := ⟨[.sl 0 0 n, .sl 1 0 n, .any, .any, .any, .int .i64 i, .any, .any, .any, .any, .any, .any, .any, .any, .any, .any, .any, .any, .any, .any, .any, .any, .any, .any, .any, .any, .any, .any, .any], h⟩
def endEq (v : V) (h : H) : St := ⟨[.any, .any, .any, .any, v, .any, .any, .any, .any, .any, .any, .any, .any, .any, .any, .any, .any, .any, .any, .any, .any, .any, .any, .any, .any, .any, .any, .any, .any], h⟩
def eqTree {R : Type} (n : Nat) (i : Int) (l l' : List Nat) (A Z next : Option R) : Option R :=
  match decide (i < (n : Int)) with
  | true => match decide (0 ≤ i ∧ i < (n : Int)) with
    | true => match l[0 + i.toNat * 1]? with
      | some x => match fconv .f32 x .f64 with
        | none => none
        | some d => match decide (0 ≤ i ∧ i < (n : Int)) with
          | true => match l'[0 + i.toNat * 1]? with
            | some y => match fconv .f32 y .f64 with
              | none => none
              | some e => match !sameB d e with
                | true => A
                | false => next
            | none => none
          | false => none
      | none => none
    | false => none
  | false => Z
theorem step_Eq {R : Type} (N M n : Nat) (i : Int) (r1 r2 : Bool) (l l' : List Nat) (K : X → St → Option R) :
    loopH 2 kpEq (fun st K => exec ty tabEq annEq N 2 (loopOf 4 Try.f20) st K) (M + 1) (stEq n i (hEq r1 r2 l l')) K
    = eqTree n i l l' (K .ret (endEq (.bool false) (hEq r1 r2 l l'))) (K (.exit 0) (endEq .any (hEq r1 r2 l l'))) (loopH 2 kpEq (fun st K => exec ty tabEq annEq N 2 (loopOf 4 Try.f20) st K) M (stEq n (IntKind.i64.wrap (i + 1)) (hEq r1 r2 l l')) K) := by
  kernel_rfl
theorem eq_plain {R : Type} (l l' : List Nat) (n : Nat) (hn : l.length = n) (hb : n < 2147483648) (L : Nat → Int → Option R) (A Z : Option R)
    (hs : ∀ M i, L (M + 1) i = eqTree n i l l' A Z (L M (IntKind.i64.wrap (i + 1)))) :
    ∀ suf suf' pre pre', l = pre ++ suf → l' = pre' ++ suf' → pre.length = pre'.length → suf.length = suf'.length → ∀ M, L (suf.length + 1 + M) pre.length = match eqL suf suf' with | true => Z | false => A := by
  intro suf
  induction suf with
  | nil =>
    intro suf' pre pre' hl _ _ _ M
    have hlen : pre.length = n := by rw [← hn, hl]; simp
    rw [show ([] : List Nat).length + 1 + M = M + 1 by simp; omega, hs]
    unfold eqTree
    rw [show decide ((pre.length : Int) < (n : Int)) = false by simp; omega]
    rfl
  | cons x suf ih =>
    intro suf' pre pre' hl hl' hp hsl M
    cases suf' with
    | nil => simp at hsl
    | cons y suf' =>
      have hlen : pre.length + suf.length + 1 = n := by rw [← hn, hl]; simp; omega
      rw [show (x :: suf).length + 1 + M = (suf.length + 1 + M) + 1 by simp; omega, hs]
      have hget : l[0 + (pre.length : Int).toNat * 1]? = some x := by
        rw [show 0 + (pre.length : Int).toNat * 1 = pre.length by omega, hl]
        simp
      have hget' : l'[0 + (pre.length : Int).toNat * 1]? = some y := by
        rw [show 0 + (pre.length : Int).toNat * 1 = pre'.length by omega, hl']
        simp
      unfold eqTree
      rw [show decide ((pre.length : Int) < (n : Int)) = true by simp; omega, show decide (0 ≤ (pre.length : Int) ∧ (pre.length : Int) < (n : Int)) = true by simp; omega]
      simp only [hget, hget', fconv_eq, eqL]
      cases sameB (up x) (up y) with
      | false => rfl
      | true =>
        have := ih suf' (pre ++ [x]) (pre' ++ [y]) (by rw [hl]; simp) (by rw [hl']; simp) (by simp [hp]) (by simpa using hsl) M
        rw [wrap_s (by omega) (by omega)]
        have e : ((pre.length : Int) + 1) = (((pre ++ [x]).length : Nat) : Int) := by simp
        rw [e]
        exact this
theorem run_Eq (N n : Nat) (r1 r2 : Bool) (l l' : List Nat) : run ty tabEq annEq N Try.f20 [.sl 0 0 n, .sl 1 0 n] (hEq r1 r2 l l')
    = match (n : Int) != (n : Int) with
      | true => some (.bool false, hEq r1 r2 l l')
      | false => loopH 2 kpEq (fun st K => exec ty tabEq annEq N 2 (loopOf 4 Try.f20) st K) N (stEq n 0 (hEq r1 r2 l l')) (kBlk 0 (kSeq tabEq annEq N 2 (tailOf 4 Try.f20) (kEnd Try.f20 2))) := by
  kernel_rfl
theorem retEq (N : Nat) (r1 r2 : Bool) (l l' : List Nat) : kBlk 0 (kSeq tabEq annEq N 2 (tailOf 4 Try.f20) (kEnd Try.f20 2)) .ret (endEq (.bool false) (hEq r1 r2 l l')) = some (.bool false, hEq r1 r2 l l') := by kernel_rfl
theorem exitEq (N : Nat) (r1 r2 : Bool) (l l' : List Nat) : kBlk 0 (kSeq tabEq annEq N 2 (tailOf 4 Try.f20) (kEnd Try.f20 2)) (.exit 0) (endEq .any (hEq r1 r2 l l')) = some (.bool true, hEq r1 r2 l l') := by kernel_rfl
def gEqF : G := fun vs h => match vs, h with
  | [.sl 0 0 n, .sl 1 0 m], [.at r1 (.fl .f32 l), .at r2 (.fl .f32 l')] => match decide (l.length = n ∧ l'.length = n ∧ m = n ∧ n < 2147483648) with
    | true => some (.bool (eqL l l'), [.at r1 (.fl .f32 l), .at r2 (.fl .f32 l')])
    | false => none
  | [.nil, .nil], [] => some (.bool true, [])
  | _, _ => none
theorem ok_eqF : FnOk Try.prog 20 gEqF := by
  refine fnOk (tab_cons (k := 17) ok_sameFloat tab_nil) Try.func20 rfl rfl annEq fun vs h v h' e => ?_
  have hx : (∃ n r1 r2 l l', vs = [.sl 0 0 n, .sl 1 0 n] ∧ h = hEq r1 r2 l l' ∧ l.length = n ∧ l'.length = n ∧ n < 2147483648 ∧ v = .bool (eqL l l') ∧ h' = hEq r1 r2 l l') ∨ (vs = [.nil, .nil] ∧ h = [] ∧ v = .bool true ∧ h' = []) := by
    unfold gEqF at e
    split at e
    · split at e
      · rename_i hd
        have hd := of_decide_eq_true hd
        obtain ⟨h1, h2, rfl, h4⟩ := hd
        cases e
        exact Or.inl ⟨_, _, _, _, _, rfl, rfl, h1, h2, h4, rfl, rfl⟩
      · cases e
    · cases e
      exact Or.inr ⟨rfl, rfl, rfl, rfl⟩
    · cases e
  rcases hx with ⟨n, r1, r2, l, l', rfl, rfl, h1, h2, hb, rfl, rfl⟩ | ⟨rfl, rfl, rfl, rfl⟩
  · refine ⟨n + 1, Eq.trans (run_Eq (n + 1) n r1 r2 l l') ?_⟩
    rw [show ((n : Int) != (n : Int)) = false by simp]
    have hp := eq_plain l l' n h1 hb (fun M i => loopH 2 kpEq (fun st K => exec ty tabEq annEq (n + 1) 2 (loopOf 4 Try.f20) st K) M (stEq n i (hEq r1 r2 l l')) (kBlk 0 (kSeq tabEq annEq (n + 1) 2 (tailOf 4 Try.f20) (kEnd Try.f20 2)))) _ _ (fun M i => step_Eq (n + 1) M n i r1 r2 l l' _) l l' [] [] rfl rfl rfl (by rw [h1, h2]) 0
    rw [show l.length + 1 + 0 = n + 1 by omega] at hp
    refine Eq.trans hp ?_
    rw [retEq, exitEq]
    cases eqL l l' <;> rfl
  · exact ⟨1, by kernel_rfl⟩

/-! ### lists that are checked -/
def idxTree {R : Type} (p : Nat → Bool) (l : List Nat) (n : Nat) (i : Int) (A Z next : Option R) : Option R :=
  match decide (i < (n : Int)) with
  | true => match decide (0 ≤ i ∧ i < (n : Int)) with
    | true => match l[0 + i.toNat * 1]? with
      | some x => match !p x with
        | true => A
        | false => next
      | none => none
    | false => none
  | false => Z
theorem lst_plain {R : Type} (p : Nat → Bool) (l : List Nat) (n : Nat) (hn : l.length = n) (hb : n < 2147483648) (L : Nat → Int → Option R) (A Z : Option R)
    (hs : ∀ M i, L (M + 1) i = idxTree p l n i A Z (L M (IntKind.i64.wrap (i + 1)))) :
    ∀ suf pre, l = pre ++ suf → ∀ M, L (suf.length + 1 + M) pre.length = match suf.all p with | true => Z | false => A := by
  intro suf
  induction suf with
  | nil =>
    intro pre hl M
    have hlen : pre.length = n := by rw [← hn, hl]; simp
    rw [show ([] : List Nat).length + 1 + M = M + 1 by simp; omega, hs]
    unfold idxTree
    rw [show decide ((pre.length : Int) < (n : Int)) = false by simp; omega]
    rfl
  | cons x suf ih =>
    intro pre hl M
    have hlen : pre.length + suf.length + 1 = n := by rw [← hn, hl]; simp; omega
    rw [show (x :: suf).length + 1 + M = (suf.length + 1 + M) + 1 by simp; omega, hs]
    have hget : l[0 + (pre.length : Int).toNat * 1]? = some x := by
      rw [show 0 + (pre.length : Int).toNat * 1 = pre.length by omega, hl]
      simp
    unfold idxTree
    rw [show decide ((pre.length : Int) < (n : Int)) = true by simp; omega, show decide (0 ≤ (pre.length : Int) ∧ (pre.length : Int) < (n : Int)) = true by simp; omega]
    simp only [hget, List.all_cons]
    cases p x with
    | false => rfl
    | true =>
      have := ih (pre ++ [x]) (by rw [hl]; simp) M
      rw [wrap_s (by omega) (by omega)]
      have e : ((pre.length : Int) + 1) = (((pre ++ [x]).length : Nat) : Int) := by simp
      rw [e]
      simpa using this
def annLs : Ann := ⟨fun r => if r = 2 then some ([0, 6, 7], [0, 2, 3]) else none, fun _ _ => .quiet⟩
abbrev kpLs : Option (List Nat × List Nat) := some ([0, 6, 7], [0, 2, 3])
def tabLs : Fns := tab [(76, gF1 finB)]
def hLs (rw : Bool) (l : List Nat) : H := [.at rw (.fl .f32 l)]
def stLs (n : Nat) (i : Int) (h : H) : St := ⟨[.sl 0 0 n, .any, .any, .any, .any, .any, .int .i64 n, .int .i64 i, .any, .any, .any, .any, .any, .any, .any, .any, .any, .any], h⟩
def retLsS (n : Nat) (h : H) : St := ⟨[.sl 0 0 n, .any, .nil, .bool false, .any, .any, .any, .any, .any, .any, .any, .any, .any, .any, .any, .any, .any, .any], h⟩
def exLsS (n : Nat) (h : H) : St := ⟨[.sl 0 0 n, .any, .any, .any, .any, .any, .any, .any, .any, .any, .any, .any, .any, .any, .any, .any, .any, .any], h⟩
theorem step_Ls {R : Type} (N M n : Nat) (i : Int) (rw : Bool) (l : List Nat) (K : X → St → Option R) :
    loopH 1 kpLs (fun st K => exec ty tabLs annLs N 1 (loopOf 2 Try.f98) st K) (M + 1) (stLs n i (hLs rw l)) K
    = idxTree finB l n i (K .ret (retLsS n (hLs rw l))) (K (.exit 0) (exLsS n (hLs rw l))) (loopH 1 kpLs (fun st K => exec ty tabLs annLs N 1 (loopOf 2 Try.f98) st K) M (stLs n (IntKind.i64.wrap (i + 1)) (hLs rw l)) K) := by
  kernel_rfl
theorem run_Ls (N n : Nat) (rw : Bool) (l : List Nat) : run ty tabLs annLs N Try.f98 [.sl 0 0 n] (hLs rw l)
    = loopH 1 kpLs (fun st K => exec ty tabLs annLs N 1 (loopOf 2 Try.f98) st K) N (stLs n 0 (hLs rw l)) (kBlk 0 (kSeq tabLs annLs N 1 (tailOf 2 Try.f98) (kEnd Try.f98 1))) := by
  kernel_rfl
theorem retLs (N n : Nat) (rw : Bool) (l : List Nat) : kBlk 0 (kSeq tabLs annLs N 1 (tailOf 2 Try.f98) (kEnd Try.f98 1)) .ret (retLsS n (hLs rw l)) = some (.tup [.a .nil, .a (.bool false)], hLs rw l) := by kernel_rfl
theorem exitLs (N n : Nat) (rw : Bool) (l : List Nat) : kBlk 0 (kSeq tabLs annLs N 1 (tailOf 2 Try.f98) (kEnd Try.f98 1)) (.exit 0) (exLsS n (hLs rw l)) = some (.tup [.a (.sl 0 0 n), .a (.bool true)], hLs rw l) := by kernel_rfl
def gLs : G := fun vs h => match vs, h with
  | [.sl 0 0 n], [.at rw (.fl .f32 l)] => match decide (l.length = n ∧ n < 2147483648) with
    | true => (match l.all finB with
      | true => some (.tup [.a (.sl 0 0 n), .a (.bool true)], [.at rw (.fl .f32 l)])
      | false => some (.tup [.a .nil, .a (.bool false)], [.at rw (.fl .f32 l)]))
    | false => none
  | _, _ => none
theorem gLs_inv {vs : List V} {h : H} {v : V} {h' : H} (e : gLs vs h = some (v, h')) : ∃ n rw l, vs = [.sl 0 0 n] ∧ h = hLs rw l ∧ l.length = n ∧ n < 2147483648 ∧
    (match l.all finB with | true => some (.tup [.a (.sl 0 0 n), .a (.bool true)], hLs rw l) | false => some (.tup [.a .nil, .a (.bool false)], hLs rw l)) = some (v, h') := by
  unfold gLs at e
  split at e
  · split at e
    · rename_i hd
      have hd := of_decide_eq_true hd
      exact ⟨_, _, _, rfl, rfl, hd.1, hd.2, e⟩
    · cases e
  · cases e
theorem ok_l03List : FnOk Try.prog 98 gLs := by
  refine fnOk (tab_cons (k := 76) ok_l01Finite tab_nil) Try.func98 rfl rfl annLs fun vs h v h' e => ?_
  obtain ⟨n, rw, l, rfl, rfl, h1, hb, he⟩ := gLs_inv e
  refine ⟨n + 1, Eq.trans (run_Ls (n + 1) n rw l) ?_⟩
  have hp := lst_plain finB l n h1 hb (fun M i => loopH 1 kpLs (fun st K => exec ty tabLs annLs (n + 1) 1 (loopOf 2 Try.f98) st K) M (stLs n i (hLs rw l)) (kBlk 0 (kSeq tabLs annLs (n + 1) 1 (tailOf 2 Try.f98) (kEnd Try.f98 1)))) _ _ (fun M i => step_Ls (n + 1) M n i rw l _) l [] rfl 0
  rw [show l.length + 1 + 0 = n + 1 by omega] at hp
  refine Eq.trans hp ?_
  rw [retLs, exitLs]
  exact he
theorem ok_checkedNumbers : FnOk Try.prog 56 gLs := by
  refine fnOk (tab_cons (k := 54) ok_areFinite tab_nil) Try.func56 rfl rfl ann0 fun vs h v h' e => ⟨0, ?_⟩
  obtain ⟨n, rw, l, rfl, rfl, h1, hb, he⟩ := gLs_inv e
  have hc : tab [(54, gAll finB)] 54 [.sl 0 0 n] [.at rw (.fl .f32 l)] = some (.bool (l.all finB), [.at rw (.fl .f32 l)]) := gAll_eq ⟨h1, hb⟩
  unfold hLs
  conv => lhs; whnf
  simp only [hc]
  unfold hLs at he
  cases ha : l.all finB with
  | true =>
    rw [ha] at he
    refine Eq.trans ?_ he
    kernel_rfl
  | false =>
    rw [ha] at he
    refine Eq.trans ?_ he
    kernel_rfl
end Go.Proofs.Ythcjbchkagkaaaa.Ab

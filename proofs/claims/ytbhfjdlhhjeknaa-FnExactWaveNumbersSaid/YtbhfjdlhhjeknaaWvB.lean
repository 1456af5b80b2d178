/- Valid steps; finite complex numbers. Only lemmas. Printed by gen_waven.py. -/
import Derived.Test.YtbhfjdlhhjeknaaWvA
namespace Go.Proofs.Ytbhfjdlhhjeknaa.Ab
set_option linter.unusedVariables false
set_option linter.unusedSimpArgs false
open Go
theorem near32_sign (neg : Bool) {m : Nat} {p : Int} (hm : m ≠ 0) (hp : -149 ≤ p) : FloatKind.f32.format.order (Ieee.single.nearest neg m p) 0 = some (if neg then .lt else .gt) := by
  have c1 : Ieee.single.signWeight = 2147483648 := by decide
  have c2 : Ieee.single.binade = 8388608 := by decide
  have c3 : Ieee.single.infRung = 2139095040 := by decide
  have c4 : Ieee.single.leastPlace = -149 := by decide
  have c5 : Ieee.single.fractionBits = 23 := by decide
  have hr : ∃ r, Ieee.single.nearest neg m p = Ieee.single.word neg r ∧ 1 ≤ r ∧ r ≤ 2139095040 := by
    unfold Ieee.Format.nearest
    rw [if_neg hm, c2, c3, c4, c5]
    refine ⟨_, rfl, ?_, Nat.min_le_right _ _⟩
    generalize hlast : max (p + ((m.log2 : Nat) : Int) - ((23 : Nat) : Int)) (-149) = last
    have hk : 1 ≤ (last - -149).toNat * 8388608 + Ieee.Toward.even.cut neg (m <<< (p - last).toNat) (last - p).toNat := by
      by_cases h : last = -149
      · rw [show (last - p).toNat = 0 by omega, cut_zero, Nat.shiftLeft_eq]
        have : 0 < m * 2 ^ (p - last).toNat := Nat.mul_pos (by omega) (Nat.pow_pos (by decide))
        omega
      · omega
    exact Nat.le_min.2 ⟨hk, by decide⟩
  obtain ⟨r, hr, h1, h2⟩ := hr
  rw [hr]
  have hz : FloatKind.f32.format.read 0 = .number false 0 (-149) := by decide +kernel
  show Ieee.single.order _ _ = _
  unfold Ieee.Format.order
  have hz : Ieee.single.read 0 = _ := hz
  rw [hz]
  have hrd : (Ieee.single.read (Ieee.single.word neg r) = .infinity neg) ∨ ∃ m' e', Ieee.single.read (Ieee.single.word neg r) = .number neg m' e' ∧ m' ≠ 0 := by
    unfold Ieee.Format.read Ieee.Format.word
    rw [c1, c2, c3, c4]
    dsimp only
    have hmm : (if neg = true then 2147483648 + r else r) % 2147483648 = r := by split <;> omega
    have hs : ((if neg = true then 2147483648 + r else r) / 2147483648 % 2 == 1) = neg := by
      cases neg
      · rw [if_neg (by decide), Nat.div_eq_of_lt (by omega)]; rfl
      · rw [if_pos rfl, Nat.add_div_left _ (by decide), Nat.div_eq_of_lt (by omega)]; rfl
    rw [hmm, hs]
    by_cases q1 : r < 8388608
    · rw [if_pos q1]
      exact .inr ⟨_, _, rfl, by omega⟩
    · rw [if_neg q1]
      by_cases q2 : r < 2139095040
      · rw [if_pos q2]
        exact .inr ⟨_, _, rfl, by omega⟩
      · rw [if_neg q2, if_pos (by omega)]
        exact .inl rfl
  rcases hrd with hrd | ⟨m', e', hrd, hm'⟩
  · rw [hrd]
    cases neg <;> rfl
  · rw [hrd]
    unfold Ieee.Datum.order
    dsimp only
    have h0 : Ieee.signed false 0 (-149 - min e' (-149)).toNat = 0 := by simp [Ieee.signed]
    rw [h0]
    unfold Ieee.signed
    rw [Nat.shiftLeft_eq]
    have hpos : 0 < m' * 2 ^ (e' - min e' (-149)).toNat := Nat.mul_pos (by omega) (Nat.pow_pos (by decide))
    generalize m' * 2 ^ (e' - min e' (-149)).toNat = K at hpos
    cases neg
    · simp only [Bool.false_eq_true, if_false]
      rw [Int.compare_eq_gt.2 (by omega)]
    · simp only [if_true]
      rw [Int.compare_eq_lt.2 (by omega)]
/-- A difference has the sign of the comparison. -/
theorem sub_sign {x y : Nat} (hx : finB x = true) (hy : finB y = true) : FloatKind.f32.format.order (fop .sub .f32 x y) 0 = FloatKind.f32.format.order x y := by
  obtain ⟨s, m, i, hs⟩ := num_of_fin hx
  obtain ⟨t, n, j, ht⟩ := num_of_fin hy
  have hs : Ieee.single.read x = _ := hs
  have ht : Ieee.single.read y = _ := ht
  have place : ∀ {z : Nat} {b : Bool} {q : Nat} {e : Int}, Ieee.single.read z = .number b q e → -149 ≤ e := by
    intro z b q e h
    exact read_gen .f32 z b q e h
  have h1 := place hs
  have h2 := place ht
  have hneg : Ieee.signed (!t) n (j - min i j).toNat = - Ieee.signed t n (j - min i j).toNat := by unfold Ieee.signed; cases t <;> simp
  have e : fop .sub .f32 x y = Ieee.single.nearest (if Ieee.signed s m (i - min i j).toNat + Ieee.signed (!t) n (j - min i j).toNat = 0 then s && !t else decide (Ieee.signed s m (i - min i j).toNat + Ieee.signed (!t) n (j - min i j).toNat < 0)) (Ieee.signed s m (i - min i j).toNat + Ieee.signed (!t) n (j - min i j).toNat).natAbs (min i j) := by
    unfold fop floatBits
    show (Ieee.single.sub x y).getD _ = _
    unfold Ieee.Format.sub
    rw [hs, ht]
    rfl
  have ho : FloatKind.f32.format.order x y = some (compare (Ieee.signed s m (i - min i j).toNat) (Ieee.signed t n (j - min i j).toNat)) := by
    show Ieee.single.order x y = _
    unfold Ieee.Format.order
    rw [hs, ht]
    rfl
  rw [e, ho, hneg]
  generalize Ieee.signed s m (i - min i j).toNat = a
  generalize Ieee.signed t n (j - min i j).toNat = b
  rcases Int.lt_trichotomy a b with h | h | h
  · rw [if_neg (by omega), near32_sign _ (by omega) (by omega), decide_eq_true (show a + -b < 0 by omega), Int.compare_eq_lt.2 h]
    rfl
  · subst h
    rw [show a + -a = 0 by omega, if_pos rfl, Int.compare_eq_eq.2 rfl]
    have hz : ∀ c : Bool, Ieee.single.nearest c (0 : Int).natAbs (min i j) = Ieee.single.word c 0 := by
      intro c
      unfold Ieee.Format.nearest
      rw [if_pos (by decide)]
    rw [hz]
    cases s && !t <;> decide +kernel
  · rw [if_neg (by omega), near32_sign _ (by omega) (by omega), decide_eq_false (show ¬ a + -b < 0 by omega), Int.compare_eq_gt.2 h]
    rfl
theorem fin_le {x y : Nat} (hx : finB x = true) (hy : finB y = true) : (ltB x y || eqB x y) = !gtB x y := by
  obtain ⟨s, m, i, hs⟩ := num_of_fin hx
  obtain ⟨t, n, j, ht⟩ := num_of_fin hy
  obtain ⟨o, ho⟩ := order_some (x := x) (y := y) (by unfold isN; show (FloatKind.f32.format.read x).isNaN = false; rw [hs]; rfl) (by unfold isN; show (FloatKind.f32.format.read y).isNaN = false; rw [ht]; rfl)
  unfold ltB eqB gtB
  rw [ho]
  cases o <;> rfl
def ascB (l : List Nat) : Bool := (List.range (l.length - 1)).all fun i => gtB (l.getD (i + 1) 0) (l.getD i 0)
def vsB (l0 l1 : List Nat) : Bool := decide (l0.length < 12) && (decide (l1.length = l0.length + 1) && (l0.all finB && (l1.all finB && ascB l0)))
theorem all_getD {l : List Nat} {q : Nat → Bool} (h : l.all q = true) {i : Nat} (hi : i < l.length) : q (l.getD i 0) = true := by
  rw [List.getD_eq_getElem?_getD, List.getElem?_eq_getElem hi, Option.getD_some]
  exact List.all_eq_true.mp h _ (List.getElem_mem hi)
def wvQ (e h : Nat) : Bool := gtB e h || ltB e h
def wvV (e h : Nat) : Nat × Nat := match gtB e h with | true => (rootF (fop .sub .f32 e h), 0) | false => (0, rootF (fop .sub .f32 h e))
def wvL (e : Nat) (l : List Nat) : List (Nat × Nat) := l.map (wvV e)
def wnOk (l0 l1 : List Nat) (e : Nat) : Bool := vsB l0 l1 && (finB e && (l1.all (wvQ e) && (wvL e l1).all cfB))
theorem wn_len {l0 l1 : List Nat} {e : Nat} (h : wnOk l0 l1 e = true) : (wvL e l1).length < 100 := by
  unfold wnOk vsB at h
  simp only [Bool.and_eq_true] at h
  have h1 := of_decide_eq_true h.1.1
  have h2 := of_decide_eq_true h.1.2.1
  unfold wvL
  rw [List.length_map]
  omega
def gAsc : GT := fun vs h => match vs, h with
  | [.sl 0 0 n], [.at rw (.fl .f32 l)] => .ite (decide (l.length = n ∧ n < 2147483648)) (.ret (.bool (ascB l)) [.at rw (.fl .f32 l)]) .no
  | _, _ => .no
def gIs : GT := fun vs h => match vs, h with
  | [.ptr 0 0], [.at r (.as 1 [.sl 1 0 n, .sl 2 0 m]), .at r0 (.fl .f32 l0), .at r1 (.fl .f32 l1)] => .ite (decide (l0.length = n ∧ n < 2147483648 ∧ l1.length = m ∧ m < 2147483648)) (.ret (.bool (vsB l0 l1)) [.at r (.as 1 [.sl 1 0 n, .sl 2 0 m]), .at r0 (.fl .f32 l0), .at r1 (.fl .f32 l1)]) .no
  | _, _ => .no
def gVs : GT := fun vs h => match vs, h with
  | [.g [.sl 0 0 n, .sl 1 0 m]], [.at r0 (.fl .f32 l0), .at r1 (.fl .f32 l1)] => .ite (decide (l0.length = n ∧ n < 2147483648 ∧ l1.length = m ∧ m < 2147483648)) (.ret (.bool (vsB l0 l1)) [.at r0 (.fl .f32 l0), .at r1 (.fl .f32 l1)]) .no
  | _, _ => .no
def gCF : GT := fun vs h => match vs, h with
  | [.sl 0 0 n], [.at rw (.cx .f32 l)] => .ite (decide (l.length = n ∧ n < 2147483648)) (.ret (.bool (l.all cfB)) [.at rw (.cx .f32 l)]) .no
  | _, _ => .no
def an_ascI : Ann := ⟨fun r => if r = 2 then some ([0, 3], [2]) else none, fun _ _ => .quiet⟩
def tab_ascI : Fns := tabT []
theorem tabok_ascI : ∀ f, FnT Try.prog f (tab_ascI f) := tabT_nil
def st_ascI2 (list0n : Nat) (i3 : Int) (rw0 : Bool) (l0 : List Nat) : St := ⟨(.sl 0 0 list0n :: .any :: .any :: .int .i64 i3 :: (anys 17 [])), [.at rw0 (.fl .f32 l0)]⟩
abbrev kp_ascI2 : Option (List Nat × List Nat) := some ([0, 3], [2])
noncomputable def lp_ascI2 {R : Type} (N M : Nat) (s : St) (K : X → St → Option R) : Option R := loopH 1 kp_ascI2 (fun st K => exec ty tab_ascI an_ascI N 1 (atOf [true, false, true, false, false] Try.f134) st K) M s K
noncomputable def bk_ascI2 {R : Type} (N M : Nat) (K : X → St → Option R) : X → St → Option R := fun x st => match x with | .norm => tidyK 1 (kp_ascI2.map (·.1)) st fun st => lp_ascI2 N M st K | x => tidyK 1 (kp_ascI2.map (·.2)) st fun st => K x st
noncomputable def kt_ascI2 {R : Type} (N : Nat) (K : X → St → Option R) : X → St → Option R := kBlkR 0 (kSeqR tab_ascI an_ascI N 1 (atOf [true, true] Try.f134) (K))
def en_ascI2_0 (rw0 : Bool) (l0 : List Nat) : St := ⟨(.any :: .any :: .bool false :: (anys 18 [])), [.at rw0 (.fl .f32 l0)]⟩
def en_ascI2_1 (rw0 : Bool) (l0 : List Nat) : St := ⟨(anys 21 []), [.at rw0 (.fl .f32 l0)]⟩
theorem run_ascI (N : Nat) (n : Nat) (rw : Bool) (l : List Nat) : run ty tab_ascI an_ascI N Try.f134 [.sl 0 0 n] [.at rw (.fl .f32 l)]
    = lp_ascI2 N N (st_ascI2 n 1 rw l) (kt_ascI2 N (kEnd Try.f134 1)) := by
  kernel_rfl
theorem step_ascI2 {R : Type} (N M : Nat) (K : X → St → Option R) (list0n : Nat) (i3 : Int) (rw0 : Bool) (l0 : List Nat) : lp_ascI2 N (M + 1) (st_ascI2 list0n i3 rw0 l0) K
    = (match decide ((i3 : Int) < ((list0n : Nat) : Int)) with | true => (match decide (0 ≤ (i3 : Int) ∧ (i3 : Int) < ((list0n : Nat) : Int)) with | true => (match l0[0 + (i3).toNat * 1]? with | some e1 => (match decide (0 ≤ (IntKind.i64.wrap (i3 - 1) : Int) ∧ (IntKind.i64.wrap (i3 - 1) : Int) < ((list0n : Nat) : Int)) with | true => (match l0[0 + (IntKind.i64.wrap (i3 - 1)).toNat * 1]? with | some e2 => (match !(gtB e1 e2) with | true => K .ret (en_ascI2_0 rw0 l0) | false => lp_ascI2 N M (st_ascI2 list0n (IntKind.i64.wrap (i3 + 1)) rw0 l0) K) | none => none) | false => none) | none => none) | false => none) | false => K (.exit 0) (en_ascI2_1 rw0 l0)) := by
  kernel_rfl
theorem end_ascI2_0 (N : Nat) (rw0 : Bool) (l0 : List Nat) : kt_ascI2 N (kEnd Try.f134 1) .ret (en_ascI2_0 rw0 l0)
    = some (.bool false, [.at rw0 (.fl .f32 l0)]) := by
  kernel_rfl
theorem end_ascI2_1 (N : Nat) (rw0 : Bool) (l0 : List Nat) : kt_ascI2 N (kEnd Try.f134 1) (.exit 0) (en_ascI2_1 rw0 l0)
    = some (.bool true, [.at rw0 (.fl .f32 l0)]) := by
  kernel_rfl

theorem ok_ascI : FnT Try.prog 134 gAsc := by
  refine fnT tabok_ascI Try.func134 rfl rfl an_ascI fun vs h v h' e => ?_
  unfold gAsc at e
  split at e
  case h_2 => exact (T.no_inv e).elim
  rename_i n rw l
  obtain ⟨hd, e⟩ := T.pre_inv e
  obtain ⟨rfl, rfl⟩ := T.ret_inv e
  obtain ⟨rfl, hb⟩ := of_decide_eq_true hd
  refine ⟨l.length - 1 + 1, Eq.trans (run_ascI _ _ _ _) ?_⟩
  have hs := scanR (l.length - 1) (fun i => !gtB (l.getD (i + 1) 0) (l.getD i 0)) (fun M i => lp_ascI2 (l.length - 1 + 1) M (st_ascI2 l.length (i + 1) rw l) (kt_ascI2 (l.length - 1 + 1) (kEnd Try.f134 1))) (some (.bool false, [.at rw (.fl .f32 l)])) (some (.bool true, [.at rw (.fl .f32 l)])) (fun M i hi => ?_) (fun M => ?_)
  · refine Eq.trans hs ?_
    rw [any_not]
    unfold ascB
    cases ((List.range (l.length - 1)).all fun i => gtB (l.getD (i + 1) 0) (l.getD i 0)) <;> rfl
  · have w1 : IntKind.i64.wrap (((i : Nat) : Int) + 1 - 1) = ((i : Nat) : Int) := by rw [wrap_z (by omega) (by omega)]; omega
    have w2 : IntKind.i64.wrap (((i : Nat) : Int) + 1 + 1) = ((i + 1 : Nat) : Int) + 1 := by rw [wrap_z (by omega) (by omega)]; omega
    have c1 : ((i : Nat) : Int) + 1 = ((i + 1 : Nat) : Int) := by omega
    rw [step_ascI2, w1, w2, c1, dlt (show i + 1 < l.length by omega), din (show i + 1 < l.length by omega), ix, getD_some' (show i + 1 < l.length by omega), din (show i < l.length by omega), ix, getD_some' (show i < l.length by omega)]
    try dsimp only
    rw [end_ascI2_0]
    try rfl
  · have c1 : (((l.length - 1 : Nat)) : Int) + 1 = ((l.length - 1 + 1 : Nat) : Int) := by omega
    rw [step_ascI2, c1, dge (show l.length ≤ l.length - 1 + 1 by omega), end_ascI2_1]
def tab_vsI : Fns := tabT [(81, gAllT finB), (134, gAsc)]
theorem tabok_vsI : ∀ f, FnT Try.prog f (tab_vsI f) := (tabT_cons (k := 81) ok_areFinite (tabT_cons (k := 134) ok_ascI tabT_nil))
theorem run_vsI (N : Nat) (n : Nat) (m : Nat) (r0 : Bool) (l0 : List Nat) (r1 : Bool) (l1 : List Nat) : run ty tab_vsI ann0 N Try.f70 [.g [.sl 0 0 n, .sl 1 0 m]] [.at r0 (.fl .f32 l0), .at r1 (.fl .f32 l1)]
    = (match decide ((((n : Nat) : Int) : Int) < 12) with | true => (match ((m : Nat) : Int) == (IntKind.i64.wrap (((n : Nat) : Int) + 1)) with | true => (match decide (l0.length = n ∧ n < 2147483648) with | true => (match l0.all finB with | true => (match decide (l1.length = m ∧ m < 2147483648) with | true => (match l1.all finB with | true => (match decide (l0.length = n ∧ n < 2147483648) with | true => some (.bool (ascB l0), [.at r0 (.fl .f32 l0), .at r1 (.fl .f32 l1)]) | false => none) | false => some (.bool false, [.at r0 (.fl .f32 l0), .at r1 (.fl .f32 l1)])) | false => none) | false => some (.bool false, [.at r0 (.fl .f32 l0), .at r1 (.fl .f32 l1)])) | false => none) | false => some (.bool false, [.at r0 (.fl .f32 l0), .at r1 (.fl .f32 l1)])) | false => some (.bool false, [.at r0 (.fl .f32 l0), .at r1 (.fl .f32 l1)])) := by
  kernel_rfl

theorem ok_vsI : FnT Try.prog 70 gVs := by
  refine fnT tabok_vsI Try.func70 rfl rfl ann0 fun vs h v h' e => ⟨0, ?_⟩
  unfold gVs at e
  split at e
  case h_2 => exact (T.no_inv e).elim
  rename_i n m r0 l0 r1 l1
  obtain ⟨hd, e⟩ := T.pre_inv e
  obtain ⟨rfl, rfl⟩ := T.ret_inv e
  obtain ⟨rfl, hb, rfl, hb2⟩ := of_decide_eq_true hd
  refine Eq.trans (run_vsI 0 l0.length l1.length r0 l0 r1 l1) ?_
  unfold vsB
  by_cases h12 : l0.length < 12
  case neg =>
    rw [decide_eq_false h12, decide_eq_false (show ¬ ((l0.length : Nat) : Int) < 12 by omega)]
    rfl
  rw [decide_eq_true h12, decide_eq_true (show ((l0.length : Nat) : Int) < 12 by omega)]
  have w1 : IntKind.i64.wrap (((l0.length : Nat) : Int) + 1) = ((l0.length + 1 : Nat) : Int) := by rw [wrap_z (by omega) (by omega)]; omega
  rw [w1]
  have hq : (((l1.length : Nat) : Int) == ((l0.length + 1 : Nat) : Int)) = decide (l1.length = l0.length + 1) := by
    by_cases h : l1.length = l0.length + 1
    · rw [h, decide_eq_true rfl]; simp
    · rw [decide_eq_false h]
      have : ((l1.length : Nat) : Int) ≠ ((l0.length + 1 : Nat) : Int) := by omega
      simpa using this
  rw [hq]
  by_cases hl : l1.length = l0.length + 1
  case neg =>
    rw [decide_eq_false hl]
    rfl
  rw [decide_eq_true hl]
  rw [decide_eq_true (show l0.length = l0.length ∧ l0.length < 2147483648 from ⟨rfl, hb⟩)]
  cases l0.all finB
  · rfl
  rw [decide_eq_true (show l1.length = l1.length ∧ l1.length < 2147483648 from ⟨rfl, hb2⟩)]
  cases l1.all finB
  · rfl
  rfl
def an_isS : Ann := ⟨fun r => if r = 5 then some ([0, 3, 4], [2]) else none, fun _ _ => .quiet⟩
def tab_isS : Fns := tabT [(132, gAllT finB)]
theorem tabok_isS : ∀ f, FnT Try.prog f (tab_isS f) := (tabT_cons (k := 132) ok_l02Finite tabT_nil)
def st_isS5 (n3 : Int) (i4 : Int) (rw0 : Bool) (b0_0n : Nat) (b0_1n : Nat) (rw1 : Bool) (l1 : List Nat) (rw2 : Bool) (l2 : List Nat) : St := ⟨(.ptr 0 0 :: .any :: .any :: .int .i64 n3 :: .int .i64 i4 :: (anys 54 [])), [.at rw0 (.as 1 [.sl 1 0 b0_0n, .sl 2 0 b0_1n]), .at rw1 (.fl .f32 l1), .at rw2 (.fl .f32 l2)]⟩
abbrev kp_isS5 : Option (List Nat × List Nat) := some ([0, 3, 4], [2])
noncomputable def lp_isS5 {R : Type} (N M : Nat) (s : St) (K : X → St → Option R) : Option R := loopH 3 kp_isS5 (fun st K => exec ty tab_isS an_isS N 3 (atOf [true, true, true, false, true, false, false] Try.f66) st K) M s K
noncomputable def bk_isS5 {R : Type} (N M : Nat) (K : X → St → Option R) : X → St → Option R := fun x st => match x with | .norm => tidyK 3 (kp_isS5.map (·.1)) st fun st => lp_isS5 N M st K | x => tidyK 3 (kp_isS5.map (·.2)) st fun st => K x st
noncomputable def kt_isS5 {R : Type} (N : Nat) (K : X → St → Option R) : X → St → Option R := kBlkR 0 (kSeqR tab_isS an_isS N 3 (atOf [true, true, true, true] Try.f66) (K))
def en_isS5_0 (rw0 : Bool) (b0_0n : Nat) (b0_1n : Nat) (rw1 : Bool) (l1 : List Nat) (rw2 : Bool) (l2 : List Nat) : St := ⟨(.any :: .any :: .bool false :: (anys 56 [])), [.at rw0 (.as 1 [.sl 1 0 b0_0n, .sl 2 0 b0_1n]), .at rw1 (.fl .f32 l1), .at rw2 (.fl .f32 l2)]⟩
def en_isS5_1 (rw0 : Bool) (b0_0n : Nat) (b0_1n : Nat) (rw1 : Bool) (l1 : List Nat) (rw2 : Bool) (l2 : List Nat) : St := ⟨(anys 59 []), [.at rw0 (.as 1 [.sl 1 0 b0_0n, .sl 2 0 b0_1n]), .at rw1 (.fl .f32 l1), .at rw2 (.fl .f32 l2)]⟩
theorem run_isS (N : Nat) (r : Bool) (n : Nat) (m : Nat) (r0 : Bool) (l0 : List Nat) (r1 : Bool) (l1 : List Nat) : run ty tab_isS an_isS N Try.f66 [.ptr 0 0] [.at r (.as 1 [.sl 1 0 n, .sl 2 0 m]), .at r0 (.fl .f32 l0), .at r1 (.fl .f32 l1)]
    = (match decide ((((n : Nat) : Int) : Int) ≥ 12) with | true => some (.bool false, [.at r (.as 1 [.sl 1 0 n, .sl 2 0 m]), .at r0 (.fl .f32 l0), .at r1 (.fl .f32 l1)]) | false => (match ((m : Nat) : Int) != (IntKind.i64.wrap (((n : Nat) : Int) + 1)) with | true => some (.bool false, [.at r (.as 1 [.sl 1 0 n, .sl 2 0 m]), .at r0 (.fl .f32 l0), .at r1 (.fl .f32 l1)]) | false => (match decide (l0.length = n ∧ n < 2147483648) with | true => (match !(l0.all finB) with | true => some (.bool false, [.at r (.as 1 [.sl 1 0 n, .sl 2 0 m]), .at r0 (.fl .f32 l0), .at r1 (.fl .f32 l1)]) | false => (match decide (l1.length = m ∧ m < 2147483648) with | true => (match !(l1.all finB) with | true => some (.bool false, [.at r (.as 1 [.sl 1 0 n, .sl 2 0 m]), .at r0 (.fl .f32 l0), .at r1 (.fl .f32 l1)]) | false => lp_isS5 N N (st_isS5 ((n : Nat) : Int) 1 r n m r0 l0 r1 l1) (kt_isS5 N (kEnd Try.f66 3))) | false => none)) | false => none))) := by
  kernel_rfl
theorem step_isS5 {R : Type} (N M : Nat) (K : X → St → Option R) (n3 : Int) (i4 : Int) (rw0 : Bool) (b0_0n : Nat) (b0_1n : Nat) (rw1 : Bool) (l1 : List Nat) (rw2 : Bool) (l2 : List Nat) : lp_isS5 N (M + 1) (st_isS5 n3 i4 rw0 b0_0n b0_1n rw1 l1 rw2 l2) K
    = (match decide ((i4 : Int) < n3) with | true => (match decide (0 ≤ (i4 : Int) ∧ (i4 : Int) < ((b0_0n : Nat) : Int)) with | true => (match l1[0 + (i4).toNat * 1]? with | some e1 => (match decide (0 ≤ (IntKind.i64.wrap (i4 - 1) : Int) ∧ (IntKind.i64.wrap (i4 - 1) : Int) < ((b0_0n : Nat) : Int)) with | true => (match l1[0 + (IntKind.i64.wrap (i4 - 1)).toNat * 1]? with | some e2 => (match ltB e1 e2 || eqB e1 e2 with | true => K .ret (en_isS5_0 rw0 b0_0n b0_1n rw1 l1 rw2 l2) | false => lp_isS5 N M (st_isS5 n3 (IntKind.i64.wrap (i4 + 1)) rw0 b0_0n b0_1n rw1 l1 rw2 l2) K) | none => none) | false => none) | none => none) | false => none) | false => K (.exit 0) (en_isS5_1 rw0 b0_0n b0_1n rw1 l1 rw2 l2)) := by
  kernel_rfl
theorem end_isS5_0 (N : Nat) (rw0 : Bool) (b0_0n : Nat) (b0_1n : Nat) (rw1 : Bool) (l1 : List Nat) (rw2 : Bool) (l2 : List Nat) : kt_isS5 N (kEnd Try.f66 3) .ret (en_isS5_0 rw0 b0_0n b0_1n rw1 l1 rw2 l2)
    = some (.bool false, [.at rw0 (.as 1 [.sl 1 0 b0_0n, .sl 2 0 b0_1n]), .at rw1 (.fl .f32 l1), .at rw2 (.fl .f32 l2)]) := by
  kernel_rfl
theorem end_isS5_1 (N : Nat) (rw0 : Bool) (b0_0n : Nat) (b0_1n : Nat) (rw1 : Bool) (l1 : List Nat) (rw2 : Bool) (l2 : List Nat) : kt_isS5 N (kEnd Try.f66 3) (.exit 0) (en_isS5_1 rw0 b0_0n b0_1n rw1 l1 rw2 l2)
    = some (.bool true, [.at rw0 (.as 1 [.sl 1 0 b0_0n, .sl 2 0 b0_1n]), .at rw1 (.fl .f32 l1), .at rw2 (.fl .f32 l2)]) := by
  kernel_rfl

theorem ok_isS : FnT Try.prog 66 gIs := by
  refine fnT tabok_isS Try.func66 rfl rfl an_isS fun vs h v h' e => ?_
  unfold gIs at e
  split at e
  case h_2 => exact (T.no_inv e).elim
  rename_i r n m r0 l0 r1 l1
  obtain ⟨hd, e⟩ := T.pre_inv e
  obtain ⟨rfl, rfl⟩ := T.ret_inv e
  obtain ⟨rfl, hb, rfl, hb2⟩ := of_decide_eq_true hd
  refine ⟨l0.length - 1 + 1, Eq.trans (run_isS _ r l0.length l1.length r0 l0 r1 l1) ?_⟩
  unfold vsB
  by_cases h12 : l0.length < 12
  case neg =>
    rw [decide_eq_false h12, decide_eq_true (show ((l0.length : Nat) : Int) ≥ 12 by omega)]
    rfl
  rw [decide_eq_true h12, decide_eq_false (show ¬ ((l0.length : Nat) : Int) ≥ 12 by omega)]
  have w1 : IntKind.i64.wrap (((l0.length : Nat) : Int) + 1) = ((l0.length + 1 : Nat) : Int) := by rw [wrap_z (by omega) (by omega)]; omega
  rw [w1, neq_dec]
  by_cases hl : l1.length = l0.length + 1
  case neg =>
    rw [decide_eq_false hl, decide_eq_false (show ¬ ((l1.length : Nat) : Int) = ((l0.length + 1 : Nat) : Int) by omega)]
    rfl
  rw [decide_eq_true hl, decide_eq_true (show ((l1.length : Nat) : Int) = ((l0.length + 1 : Nat) : Int) by omega)]
  rw [decide_eq_true (show l0.length = l0.length ∧ l0.length < 2147483648 from ⟨rfl, hb⟩)]
  cases hf : l0.all finB
  · rfl
  rw [decide_eq_true (show l1.length = l1.length ∧ l1.length < 2147483648 from ⟨rfl, hb2⟩)]
  cases hf2 : l1.all finB
  · rfl
  have hs := scanR (l0.length - 1) (fun i => !gtB (l0.getD (i + 1) 0) (l0.getD i 0)) (fun M i => lp_isS5 (l0.length - 1 + 1) M (st_isS5 ((l0.length : Nat) : Int) (i + 1) r l0.length l1.length r0 l0 r1 l1) (kt_isS5 (l0.length - 1 + 1) (kEnd Try.f66 3))) (some (.bool false, [.at r (.as 1 [.sl 1 0 l0.length, .sl 2 0 l1.length]), .at r0 (.fl .f32 l0), .at r1 (.fl .f32 l1)])) (some (.bool true, [.at r (.as 1 [.sl 1 0 l0.length, .sl 2 0 l1.length]), .at r0 (.fl .f32 l0), .at r1 (.fl .f32 l1)])) (fun M i hi => ?_) (fun M => ?_)
  · refine Eq.trans hs ?_
    rw [any_not]
    unfold ascB
    cases ((List.range (l0.length - 1)).all fun i => gtB (l0.getD (i + 1) 0) (l0.getD i 0)) <;> rfl
  · have w1 : IntKind.i64.wrap (((i : Nat) : Int) + 1 - 1) = ((i : Nat) : Int) := by rw [wrap_z (by omega) (by omega)]; omega
    have w2 : IntKind.i64.wrap (((i : Nat) : Int) + 1 + 1) = ((i + 1 : Nat) : Int) + 1 := by rw [wrap_z (by omega) (by omega)]; omega
    have c1 : ((i : Nat) : Int) + 1 = ((i + 1 : Nat) : Int) := by omega
    rw [step_isS5, w1, w2, c1, dlt (show i + 1 < l0.length by omega), din (show i + 1 < l0.length by omega), ix, getD_some' (show i + 1 < l0.length by omega), din (show i < l0.length by omega), ix, getD_some' (show i < l0.length by omega)]
    try dsimp only
    rw [fin_le (all_getD hf (show i + 1 < l0.length by omega)) (all_getD hf (show i < l0.length by omega)), end_isS5_0]
    try rfl
  · have c1 : (((l0.length - 1 : Nat)) : Int) + 1 = ((l0.length - 1 + 1 : Nat) : Int) := by omega
    rw [step_isS5, c1, dge (show l0.length ≤ l0.length - 1 + 1 by omega), end_isS5_1]
def gCFin : GT := fun vs h => match vs, h with | [.cx .f32 a b], [] => .ret (.bool (cfB (a, b))) [] | _, _ => .no
def tab_icI : Fns := tabT [(81, gAllT finB)]
theorem tabok_icI : ∀ f, FnT Try.prog f (tab_icI f) := (tabT_cons (k := 81) ok_areFinite tabT_nil)
theorem run_icI (N : Nat) (a : Nat) (b : Nat) : run ty tab_icI ann0 N Try.f74 [.cx .f32 a b] []
    = some (.bool (finB a && (finB b && true)), []) := by
  kernel_rfl

theorem ok_icI : FnT Try.prog 74 gCFin := by
  refine fnT tabok_icI Try.func74 rfl rfl ann0 fun vs h v h' e => ⟨0, ?_⟩
  unfold gCFin at e
  split at e
  case h_2 => exact (T.no_inv e).elim
  rename_i a b
  obtain ⟨rfl, rfl⟩ := T.ret_inv e
  refine Eq.trans (run_icI 0 _ _) ?_
  unfold cfB
  cases finB a <;> cases finB b <;> rfl
def tab_icS : Fns := tabT [(67, gT (gF1 finB))]
theorem tabok_icS : ∀ f, FnT Try.prog f (tab_icS f) := (tabT_cons (k := 67) ok_l01Finite tabT_nil)
theorem run_icS (N : Nat) (a : Nat) (b : Nat) : run ty tab_icS ann0 N Try.f168 [.cx .f32 a b] []
    = (match finB a with | true => some (.bool (finB b), []) | false => some (.bool false, [])) := by
  kernel_rfl

theorem ok_icS : FnT Try.prog 168 gCFin := by
  refine fnT tabok_icS Try.func168 rfl rfl ann0 fun vs h v h' e => ⟨0, ?_⟩
  unfold gCFin at e
  split at e
  case h_2 => exact (T.no_inv e).elim
  rename_i a b
  obtain ⟨rfl, rfl⟩ := T.ret_inv e
  refine Eq.trans (run_icS 0 _ _) ?_
  unfold cfB
  cases finB a <;> cases finB b <;> rfl
def an_cfS : Ann := ⟨fun r => if r = 2 then some ([0, 3], [2]) else none, fun _ _ => .quiet⟩
def tab_cfS : Fns := tabT [(168, gCFin)]
theorem tabok_cfS : ∀ f, FnT Try.prog f (tab_cfS f) := (tabT_cons (k := 168) ok_icS tabT_nil)
def st_cfS2 (list0n : Nat) (i3 : Int) (rw0 : Bool) (l0 : List (Nat × Nat)) : St := ⟨(.sl 0 0 list0n :: .any :: .any :: .int .i64 i3 :: (anys 12 [])), [.at rw0 (.cx .f32 l0)]⟩
abbrev kp_cfS2 : Option (List Nat × List Nat) := some ([0, 3], [2])
noncomputable def lp_cfS2 {R : Type} (N M : Nat) (s : St) (K : X → St → Option R) : Option R := loopH 1 kp_cfS2 (fun st K => exec ty tab_cfS an_cfS N 1 (atOf [true, false, true, false, false] Try.f133) st K) M s K
noncomputable def bk_cfS2 {R : Type} (N M : Nat) (K : X → St → Option R) : X → St → Option R := fun x st => match x with | .norm => tidyK 1 (kp_cfS2.map (·.1)) st fun st => lp_cfS2 N M st K | x => tidyK 1 (kp_cfS2.map (·.2)) st fun st => K x st
noncomputable def kt_cfS2 {R : Type} (N : Nat) (K : X → St → Option R) : X → St → Option R := kBlkR 0 (kSeqR tab_cfS an_cfS N 1 (atOf [true, true] Try.f133) (K))
def en_cfS2_0 (rw0 : Bool) (l0 : List (Nat × Nat)) : St := ⟨(.any :: .any :: .bool false :: (anys 13 [])), [.at rw0 (.cx .f32 l0)]⟩
def en_cfS2_1 (rw0 : Bool) (l0 : List (Nat × Nat)) : St := ⟨(anys 16 []), [.at rw0 (.cx .f32 l0)]⟩
theorem run_cfS (N : Nat) (n : Nat) (rw : Bool) (l : List (Nat × Nat)) : run ty tab_cfS an_cfS N Try.f133 [.sl 0 0 n] [.at rw (.cx .f32 l)]
    = lp_cfS2 N N (st_cfS2 n 0 rw l) (kt_cfS2 N (kEnd Try.f133 1)) := by
  kernel_rfl
theorem step_cfS2 {R : Type} (N M : Nat) (K : X → St → Option R) (list0n : Nat) (i3 : Int) (rw0 : Bool) (l0 : List (Nat × Nat)) : lp_cfS2 N (M + 1) (st_cfS2 list0n i3 rw0 l0) K
    = (match decide ((i3 : Int) < ((list0n : Nat) : Int)) with | true => (match decide (0 ≤ (i3 : Int) ∧ (i3 : Int) < ((list0n : Nat) : Int)) with | true => (match l0[0 + (i3).toNat * 1]? with | some (e1, e2) => (match !(cfB (e1, e2)) with | true => K .ret (en_cfS2_0 rw0 l0) | false => lp_cfS2 N M (st_cfS2 list0n (IntKind.i64.wrap (i3 + 1)) rw0 l0) K) | none => none) | false => none) | false => K (.exit 0) (en_cfS2_1 rw0 l0)) := by
  kernel_rfl
theorem end_cfS2_0 (N : Nat) (rw0 : Bool) (l0 : List (Nat × Nat)) : kt_cfS2 N (kEnd Try.f133 1) .ret (en_cfS2_0 rw0 l0)
    = some (.bool false, [.at rw0 (.cx .f32 l0)]) := by
  kernel_rfl
theorem end_cfS2_1 (N : Nat) (rw0 : Bool) (l0 : List (Nat × Nat)) : kt_cfS2 N (kEnd Try.f133 1) (.exit 0) (en_cfS2_1 rw0 l0)
    = some (.bool true, [.at rw0 (.cx .f32 l0)]) := by
  kernel_rfl

theorem ok_cfS : FnT Try.prog 133 gCF := by
  refine fnT tabok_cfS Try.func133 rfl rfl an_cfS fun vs h v h' e => ?_
  unfold gCF at e
  split at e
  case h_2 => exact (T.no_inv e).elim
  rename_i n rw l
  obtain ⟨hd, e⟩ := T.pre_inv e
  obtain ⟨rfl, rfl⟩ := T.ret_inv e
  obtain ⟨rfl, hb⟩ := of_decide_eq_true hd
  refine ⟨l.length + 1, Eq.trans (run_cfS _ _ _ _) ?_⟩
  refine Eq.trans (scan0 l (fun z => !cfB z) (fun M i => lp_cfS2 (l.length + 1) M (st_cfS2 l.length i rw l) (kt_cfS2 (l.length + 1) (kEnd Try.f133 1))) (fun _ => some (.bool false, [.at rw (.cx .f32 l)])) (some (.bool true, [.at rw (.cx .f32 l)])) (fun M i x hx => ?_) (fun M => ?_)) ?_
  · have hi := lt_of_get hx
    obtain ⟨x1, x2⟩ := x
    simp only [step_cfS2, dlt hi, din hi, ix, hx, wr (show i < 2147483648 by omega), end_cfS2_0] <;> (cases !cfB (x1, x2) <;> rfl)
  · simp only [step_cfS2, dge (Nat.le_refl _), end_cfS2_1]
  · rw [← first_all cfB l 0]
    cases firstIx (fun z => !cfB z) l 0 <;> rfl
def tab_wn1 : Fns := tabT [(74, gCFin)]
theorem tabok_wn1 : ∀ f, FnT Try.prog f (tab_wn1 f) := (tabT_cons (k := 74) ok_icI tabT_nil)
theorem run_wn1 (N : Nat) (a : Nat) (b : Nat) : run ty tab_wn1 ann0 N Try.f73 [.cx .f32 a b] []
    = some (.bool (!(cfB (a, b))), []) := by
  kernel_rfl

def gNotC : GT := fun vs h => match vs, h with | [.cx .f32 a b], [] => .ret (.bool (!cfB (a, b))) [] | _, _ => .no
theorem ok_wn1 : FnT Try.prog 73 gNotC := by
  refine fnT tabok_wn1 Try.func73 rfl rfl ann0 fun vs h v h' e => ⟨0, ?_⟩
  unfold gNotC at e
  split at e
  case h_2 => exact (T.no_inv e).elim
  rename_i a b
  obtain ⟨rfl, rfl⟩ := T.ret_inv e
  exact run_wn1 0 _ _
def gIxC : GT := fun vs h => match vs, h with
  | [.sl 0 0 n, .fn f'], [.at rw (.cx .f32 l)] => if f' = 73 then .ite (decide (l.length = n ∧ n < 2147483648)) (.ret (.int .i64 (ixOf (fun z => !cfB z) l)) [.at rw (.cx .f32 l)]) .no else .no
  | _, _ => .no
def gCoC : GT := fun vs h => match vs, h with
  | [.sl 0 0 n, .fn f'], [.at rw (.cx .f32 l)] => if f' = 73 then .ite (decide (l.length = n ∧ n < 2147483648)) (.ret (.bool (!(l.all cfB))) [.at rw (.cx .f32 l)]) .no else .no
  | _, _ => .no
theorem ix_allC (l : List (Nat × Nat)) : (decide (ixOf (fun z => !cfB z) l ≥ 0)) = !(l.all cfB) := by
  rw [← ix_all cfB l, Bool.not_not]
def an_ixC : Ann := ⟨fun r => if r = 2 then some ([0, 1, 7, 8], [4]) else none, fun _ _ => .quiet⟩
def tab_ixC : Fns := tabT [(73, gNotC)]
theorem tabok_ixC : ∀ f, FnT Try.prog f (tab_ixC f) := (tabT_cons (k := 73) ok_wn1 tabT_nil)
def st_ixC2 (s0n : Nat) (t7 : Int) (t8 : Int) (rw0 : Bool) (l0 : List (Nat × Nat)) : St := ⟨(.sl 0 0 s0n :: .fn 73 :: .any :: .any :: .any :: .any :: .any :: .int .i64 t7 :: .int .i64 t8 :: (anys 10 [])), [.at rw0 (.cx .f32 l0)]⟩
abbrev kp_ixC2 : Option (List Nat × List Nat) := some ([0, 1, 7, 8], [4])
noncomputable def lp_ixC2 {R : Type} (N M : Nat) (s : St) (K : X → St → Option R) : Option R := loopH 1 kp_ixC2 (fun st K => exec ty tab_ixC an_ixC N 1 (atOf [true, false, true, false, false] Try.f135) st K) M s K
noncomputable def bk_ixC2 {R : Type} (N M : Nat) (K : X → St → Option R) : X → St → Option R := fun x st => match x with | .norm => tidyK 1 (kp_ixC2.map (·.1)) st fun st => lp_ixC2 N M st K | x => tidyK 1 (kp_ixC2.map (·.2)) st fun st => K x st
noncomputable def kt_ixC2 {R : Type} (N : Nat) (K : X → St → Option R) : X → St → Option R := kBlkR 0 (kSeqR tab_ixC an_ixC N 1 (atOf [true, true] Try.f135) (K))
def en_ixC2_0 (t4 : Int) (rw0 : Bool) (l0 : List (Nat × Nat)) : St := ⟨(.any :: .any :: .any :: .any :: .int .i64 t4 :: (anys 14 [])), [.at rw0 (.cx .f32 l0)]⟩
def en_ixC2_1 (rw0 : Bool) (l0 : List (Nat × Nat)) : St := ⟨(anys 19 []), [.at rw0 (.cx .f32 l0)]⟩
theorem run_ixC (N : Nat) (n : Nat) (rw : Bool) (l : List (Nat × Nat)) : run ty tab_ixC an_ixC N Try.f135 [.sl 0 0 n, .fn 73] [.at rw (.cx .f32 l)]
    = lp_ixC2 N N (st_ixC2 n ((n : Nat) : Int) 0 rw l) (kt_ixC2 N (kEnd Try.f135 1)) := by
  kernel_rfl
theorem step_ixC2 {R : Type} (N M : Nat) (K : X → St → Option R) (s0n : Nat) (t7 : Int) (t8 : Int) (rw0 : Bool) (l0 : List (Nat × Nat)) : lp_ixC2 N (M + 1) (st_ixC2 s0n t7 t8 rw0 l0) K
    = (match decide ((t8 : Int) < t7) with | true => (match decide (0 ≤ (t8 : Int) ∧ (t8 : Int) < ((s0n : Nat) : Int)) with | true => (match l0[0 + (t8).toNat * 1]? with | some (e1, e2) => (match !cfB (e1, e2) with | true => K .ret (en_ixC2_0 t8 rw0 l0) | false => lp_ixC2 N M (st_ixC2 s0n t7 (IntKind.i64.wrap (t8 + 1)) rw0 l0) K) | none => none) | false => none) | false => K (.exit 0) (en_ixC2_1 rw0 l0)) := by
  kernel_rfl
theorem end_ixC2_0 (N : Nat) (t4 : Int) (rw0 : Bool) (l0 : List (Nat × Nat)) : kt_ixC2 N (kEnd Try.f135 1) .ret (en_ixC2_0 t4 rw0 l0)
    = some (.int .i64 t4, [.at rw0 (.cx .f32 l0)]) := by
  kernel_rfl
theorem end_ixC2_1 (N : Nat) (rw0 : Bool) (l0 : List (Nat × Nat)) : kt_ixC2 N (kEnd Try.f135 1) (.exit 0) (en_ixC2_1 rw0 l0)
    = some (.int .i64 (-1), [.at rw0 (.cx .f32 l0)]) := by
  kernel_rfl

theorem ok_ixC : FnT Try.prog 135 gIxC := by
  refine fnT tabok_ixC Try.func135 rfl rfl an_ixC fun vs h v h' e => ?_
  unfold gIxC at e
  split at e
  · rename_i n f' rw l
    split at e
    · rename_i hf
      subst hf
      obtain ⟨hd, e⟩ := T.pre_inv e
      obtain ⟨rfl, rfl⟩ := T.ret_inv e
      obtain ⟨rfl, hb⟩ := of_decide_eq_true hd
      refine ⟨l.length + 1, Eq.trans (run_ixC _ _ _ _) ?_⟩
      refine Eq.trans (scan0 l (fun z => !cfB z) (fun M i => lp_ixC2 (l.length + 1) M (st_ixC2 l.length ((l.length : Nat) : Int) i rw l) (kt_ixC2 (l.length + 1) (kEnd Try.f135 1))) (fun j => some (.int .i64 (j : Int), [.at rw (.cx .f32 l)])) (some (.int .i64 (-1), [.at rw (.cx .f32 l)])) (fun M i x hx => ?_) (fun M => ?_)) ?_
      · have hi := lt_of_get hx
        obtain ⟨x1, x2⟩ := x
        simp only [step_ixC2, dlt hi, din hi, ix, hx, wr (show i < 2147483648 by omega), end_ixC2_0] <;> (cases !cfB (x1, x2) <;> rfl)
      · simp only [step_ixC2, dge (Nat.le_refl _), end_ixC2_1]
      · unfold ixOf
        cases firstIx (fun z => !cfB z) l 0 <;> rfl
    · exact (T.no_inv e).elim
  · exact (T.no_inv e).elim
def tab_coC : Fns := tabT [(135, gIxC)]
theorem tabok_coC : ∀ f, FnT Try.prog f (tab_coC f) := (tabT_cons (k := 135) ok_ixC tabT_nil)
theorem run_coC (N : Nat) (n : Nat) (rw : Bool) (l : List (Nat × Nat)) : run ty tab_coC ann0 N Try.f72 [.sl 0 0 n, .fn 73] [.at rw (.cx .f32 l)]
    = (match decide (l.length = n ∧ n < 2147483648) with | true => some (.bool (decide ((ixOf (fun z => !cfB z) l : Int) ≥ 0)), [.at rw (.cx .f32 l)]) | false => none) := by
  kernel_rfl

theorem ok_coC : FnT Try.prog 72 gCoC := by
  refine fnT tabok_coC Try.func72 rfl rfl ann0 fun vs h v h' e => ⟨0, ?_⟩
  unfold gCoC at e
  split at e
  · split at e
    · rename_i n f' rw l hf
      subst hf
      obtain ⟨hd, e⟩ := T.pre_inv e
      obtain ⟨rfl, rfl⟩ := T.ret_inv e
      refine Eq.trans (run_coC 0 _ _ _) ?_
      rw [hd, ix_allC]
    · exact (T.no_inv e).elim
  · exact (T.no_inv e).elim
end Go.Proofs.Ytbhfjdlhhjeknaa.Ab

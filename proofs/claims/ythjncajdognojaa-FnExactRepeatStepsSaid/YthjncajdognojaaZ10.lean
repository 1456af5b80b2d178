/- What the proof names: lemmas and words, merged by a program from its parts. No condition. -/
import Derived.Test.YthjncajdognojaaZ9
import Derived.Lib.SmallJoins
namespace Go.Proofs.Ythjncajdognojaa.Ab
set_option linter.unusedVariables false
set_option linter.unusedSimpArgs false
open Go Go.ChangeShapes Go.WideShapes Go.RowKit Go.Deep Go.WideElems Go.Joins
section
variable {H : Type} {enc : TypeId × Value → H} {P : Program} {t u0 u1 e0 e1 : TypeId} {W : World} {v : Value} {d : DataW H} {ps : List MemPlace} {r : Reach} {b0 : Nat}
theorem okWide_of_cell {e : TypeId} (ht : P.underlying t = some (.slice e)) (h : Cell.okWide P W r b0 t v) : Value.okWide P W r b0 t v := by
  simp only [Value.okWide, ht]
  exact h
theorem open_st2 {f0 f1 : Field} (hs : P.underlying t = some (.struct #[f0, f1])) (hone : oneCellFields P #[f0, f1] = true) (hC : P.cellsOf t = 2) (hct : P.cellTypes P.depth t = some [u0, u1])
    (h0 : P.underlying u0 = some (.slice e0)) (h1 : P.underlying u1 = some (.slice e1)) (e0 : f0.type = u0) (e1 : f1.type = u1)
    (hv : Value.okWide P W r b0 t v) (h : DataW.Trod enc P W 0 (fun _ => true) true t v d ps) :
    ∃ (v0 v1 : Value) (y0 y1 : DataW H × List MemPlace), v = .agg #[v0, v1] ∧ Value.okWide P W r b0 u0 v0 ∧ Value.okWide P W r b0 u1 v1 ∧
      DataW.Trod enc P W 0 (fun _ => true) true u0 v0 y0.1 y0.2 ∧ DataW.Trod enc P W 0 (fun _ => true) true u1 v1 y1.1 y1.2 := by
  obtain ⟨v0, v1, y0, y1, n, rfl, _, _, k0, k1⟩ := Go.Joins.open_agg2 hs hone hC hv h
  subst e0
  subst e1
  simp only [Value.okWide, hs] at hv
  obtain ⟨cs, hcs, _, ts, hts, _, hall⟩ := hv
  cases hcs
  rw [hct] at hts
  cases hts
  obtain ⟨w0, hw0, c0⟩ := hall 0 v0 rfl
  obtain ⟨w1, hw1, c1⟩ := hall 1 v1 rfl
  obtain rfl : w0 = f0.type := by simpa using hw0.symm
  obtain rfl : w1 = f1.type := by simpa using hw1.symm
  have d0 := okWide_of_cell h0 c0
  have d1 := okWide_of_cell h1 c1
  obtain ⟨_, _, _, rfl⟩ := okWide_slice h0 d0
  obtain ⟨_, _, _, rfl⟩ := okWide_slice h1 d1
  exact ⟨_, _, y0, y1, rfl, d0, d1, ⟨n, by simpa [Value.cells] using k0⟩, ⟨n, by simpa [Value.cells] using k1⟩⟩
end
theorem len_le {m : M} {n : Nat} {v : Value} (rp : ∀ (μ : Mu) i, μ.l[i]? = some m → RepA μ (.sl i 0 n) v) : n ≤ 9223372036854775807 := by
  obtain ⟨_, _, c, _, _, h1, h2, _⟩ := rp ⟨noZ, [m]⟩ 0 rfl
  exact Nat.le_trans h1 h2
end Go.Proofs.Ythjncajdognojaa.Ab

namespace Go.Proofs.Ythjncajdognojaa.Ab
set_option linter.unusedVariables false
set_option linter.unusedSimpArgs false
open Go
def finB (x : Nat) : Bool := FloatKind.f32.format.order (fop .sub .f32 x x) 0 == some .eq
def ltB (x y : Nat) : Bool := FloatKind.f32.format.order x y == some .lt
def gtB (x y : Nat) : Bool := FloatKind.f32.format.order x y == some .gt
def eqB (x y : Nat) : Bool := FloatKind.f32.format.order x y == some .eq
theorem fin_order {x : Nat} (h : finB x = true) (hn : isN .f32 x = true) : False := by
  unfold finB at h
  have h1 : fop .sub .f32 x x = qnan .f32 := by
    unfold fop
    cases e : floatBits .sub .f32 x x with
    | none => rfl
    | some r => have := floatBits_some e; rw [hn] at this; exact absurd this.1 (by decide)
  rw [h1, order_nan (Or.inl (isN_qnan _))] at h
  exact absurd h (by decide)
theorem order_some {x y : Nat} (hx : isN .f32 x = false) (hy : isN .f32 y = false) : ∃ o, FloatKind.f32.format.order x y = some o := by
  unfold isN at hx hy
  unfold Ieee.Format.order
  have hx' : (FloatKind.f32.format.read x).isNaN = false := hx
  have hy' : (FloatKind.f32.format.read y).isNaN = false := hy
  revert hx' hy'
  cases FloatKind.f32.format.read x <;> cases FloatKind.f32.format.read y <;> intro a b <;> first | exact ⟨_, rfl⟩ | exact Bool.noConfusion (show true = false from a) | exact Bool.noConfusion (show true = false from b)
theorem fin_cmp {x : Nat} (h : finB x = true) : ∃ o, FloatKind.f32.format.order x 0 = some o := by
  cases hn : isN .f32 x with
  | true => exact (fin_order h hn).elim
  | false => exact order_some hn (by decide)
theorem fconv_up (b : Nat) : ∃ y, fconv .f32 b .f64 = some y := by
  unfold fconv
  rw [if_neg (by decide)]
  split
  · exact ⟨_, rfl⟩
  · rename_i hn
    unfold floatToFloatBits
    rw [if_neg (by decide)]
    cases hd : FloatKind.f32.decode b with
    | nan s f => rw [hd] at hn; exact absurd rfl hn
    | infinity s => exact ⟨_, rfl⟩
    | number s m e =>
      have hb : m < 2 ^ 24 ∧ -149 ≤ e ∧ e ≤ 104 := by
        have hd' : Ieee.single.read b = .number s m e := hd
        unfold Ieee.Format.read at hd'
        have c1 : Ieee.single.signWeight = 2147483648 := by decide
        have c2 : Ieee.single.binade = 8388608 := by decide
        have c3 : Ieee.single.infRung = 2139095040 := by decide
        have c4 : Ieee.single.leastPlace = -149 := by decide
        simp only [c1, c2, c3, c4] at hd'
        split at hd'
        · simp only [Ieee.Datum.number.injEq] at hd'; omega
        · split at hd'
          · simp only [Ieee.Datum.number.injEq] at hd'; omega
          · split at hd' <;> cases hd'
      have hi : (FloatKind.f64.decode (FloatKind.f64.encode (.number s m e))).isInfinity = false := by
        show (Ieee.double.read (Ieee.double.nearest s m e)).isInfinity = false
        have c1 : Ieee.double.signWeight = 9223372036854775808 := by decide
        have c2 : Ieee.double.binade = 4503599627370496 := by decide
        have c3 : Ieee.double.infRung = 9218868437227405312 := by decide
        have c4 : Ieee.double.leastPlace = -1074 := by decide
        have c5 : Ieee.double.fractionBits = 52 := by decide
        have fin : ∀ r : Nat, r < 9218868437227405312 → (Ieee.double.read (Ieee.double.word s r)).isInfinity = false := by
          intro r hr
          unfold Ieee.Format.read Ieee.Format.word
          simp only [c1, c2, c3, c4]
          have hm : (if s = true then 9223372036854775808 + r else r) % 9223372036854775808 = r := by split <;> omega
          rw [hm]
          split
          · rfl
          · first | rfl | (rw [if_pos hr]; rfl)
        unfold Ieee.Format.nearest
        split
        · exact fin 0 (by decide)
        · rename_i hm
          simp only [c2, c3, c4, c5]
          have hl : m.log2 < 24 := (Nat.log2_lt hm).2 hb.1
          have hmax : max (e + (m.log2 : Int) - (52 : Nat)) (-1074) = e + (m.log2 : Int) - 52 := by omega
          rw [hmax]
          have hz : (e + (m.log2 : Int) - 52 - e).toNat = 0 := by omega
          have hs : (e - (e + (m.log2 : Int) - 52)).toNat = 52 - m.log2 := by omega
          rw [hz, hs]
          have hk : Ieee.Toward.even.cut s (m <<< (52 - m.log2)) 0 = m <<< (52 - m.log2) := by
            unfold Ieee.Toward.cut
            simp [Nat.mod_one]
          rw [hk]
          have hlt : m <<< (52 - m.log2) < 9007199254740992 := by
            rw [Nat.shiftLeft_eq]
            have h1 : m < 2 ^ (m.log2 + 1) := Nat.lt_log2_self
            have h2 : 2 ^ (m.log2 + 1) * 2 ^ (52 - m.log2) = 9007199254740992 := by
              rw [← Nat.pow_add]
              have : m.log2 + 1 + (52 - m.log2) = 53 := by omega
              rw [this]
            calc m * 2 ^ (52 - m.log2) < 2 ^ (m.log2 + 1) * 2 ^ (52 - m.log2) := Nat.mul_lt_mul_of_pos_right h1 (Nat.pow_pos (by decide))
              _ = _ := h2
          generalize m <<< (52 - m.log2) = q at hlt
          have hq : (e + (m.log2 : Int) - 52 - -1074).toNat ≤ 1149 := by omega
          generalize (e + (m.log2 : Int) - 52 - -1074).toNat = p at hq
          refine fin _ (Nat.lt_of_le_of_lt (Nat.min_le_left _ _) (Nat.lt_of_lt_of_le (Nat.add_lt_add_of_le_of_lt (Nat.mul_le_mul_right _ hq) hlt) (by decide)))
      dsimp only
      rw [hi]
      exact ⟨_, rfl⟩
def up (b : Nat) : Nat := (fconv .f32 b .f64).getD 0
theorem fconv_eq (b : Nat) : fconv .f32 b .f64 = some (up b) := by
  obtain ⟨y, h⟩ := fconv_up b
  unfold up
  rw [h]; rfl
def eqD (x y : Nat) : Bool := FloatKind.f64.format.order x y == some .eq
def gtD (x y : Nat) : Bool := FloatKind.f64.format.order x y == some .gt
def one64 : Nat := 4607182418800017408
def sameB (a b : Nat) : Bool :=
  cond (!eqD a a || !eqD b b) (!eqD a a && !eqD b b) (cond (eqD a 0 && eqD b 0) (gtD (fop .quo .f64 one64 a) 0 == gtD (fop .quo .f64 one64 b) 0) (eqD a b))
theorem sameB_self (a : Nat) : sameB a a = true := by
  unfold sameB
  cases h : eqD a a <;> cases h2 : eqD a 0 <;> simp
def gSame : G := fun vs h => match vs, h with | [.fl .f64 a, .fl .f64 b], [] => some (.bool (sameB a b), []) | _, _ => none
end Go.Proofs.Ythjncajdognojaa.Ab

namespace Go.Proofs.Ythjncajdognojaa.Ab
set_option linter.unusedVariables false
set_option linter.unusedSimpArgs false
open Go
def anys (n : Nat) (l : List V) : List V := Nat.rec (motive := fun _ => List V) l (fun _ r => .any :: r) n
abbrev kEnd (fn : Func) (k : Nat) : X → St → Option (V × H) := fun x st => match x with | .exit _ => none | _ => finish ty fn k st
abbrev kSeqR {R : Type} (fns : Fns) (an : Ann) (N k : Nat) (c : Code) (K : X → St → Option R) : X → St → Option R := fun x st => match x with | .norm => exec ty fns an N k c st K | x => K x st
abbrev kBlkR {R : Type} (id : Nat) (K : X → St → Option R) : X → St → Option R := fun x st => match x with
  | .exit j => match decide (j = id) with
    | true => K .norm st
    | false => K (.exit j) st
  | x => K x st
def cAt : List Bool → Code → Code
  | [], c => c
  | false :: p, .seq a _ => cAt p a
  | true :: p, .seq _ b => cAt p b
  | false :: p, .cond _ a _ => cAt p a
  | true :: p, .cond _ _ b => cAt p b
  | _ :: p, .block _ b => cAt p b
  | _ :: p, .loop b => cAt p b
  | _ :: p, .scope b => cAt p b
  | _, _ => .skip
def atOf (p : List Bool) (fn : Func) : Code := match fn.body with | some c => cAt p c | none => .skip
theorem T.ite_inv {b : Bool} {x y : T} {v : V} {h' : H} (e : (T.ite b x y).run = some (v, h')) : (b = true ∧ x.run = some (v, h')) ∨ (b = false ∧ y.run = some (v, h')) := by
  cases b with
  | true => exact .inl ⟨rfl, e⟩
  | false => exact .inr ⟨rfl, e⟩
theorem T.pre_inv {b : Bool} {x : T} {v : V} {h' : H} (e : (T.ite b x .no).run = some (v, h')) : b = true ∧ x.run = some (v, h') := by
  rcases T.ite_inv e with h | ⟨_, h⟩
  · exact h
  · cases h
theorem T.ret_inv {a v : V} {g h' : H} (e : (T.ret a g).run = some (v, h')) : v = a ∧ h' = g := by cases e; exact ⟨rfl, rfl⟩
theorem T.no_inv {v : V} {h' : H} (e : T.no.run = some (v, h')) : False := by cases e
def posB (x : Nat) : Bool := finB x && gtB x 0
def gF1 (p : Nat → Bool) : G := fun vs h => match vs, h with | [.fl .f32 x], [] => some (.bool (p x), []) | _, _ => none
theorem not_pos (x : Nat) : (match !finB x with | true => true | false => ltB x 0 || eqB x 0) = !posB x := by
  unfold posB
  cases h : finB x with
  | false => rfl
  | true =>
    obtain ⟨o, ho⟩ := fin_cmp h
    unfold ltB eqB gtB
    rw [ho]
    cases o <;> rfl
theorem wrap_s {n : Int} (h0 : 0 ≤ n) (h1 : n < 9223372036854775808) : IntKind.i64.wrap n = n := by
  simp only [IntKind.wrap, IntKind.signed, IntKind.bits]
  first | omega | (simp; omega)
theorem wrap_z {n : Int} (h0 : -9223372036854775808 ≤ n) (h1 : n < 9223372036854775808) : IntKind.i64.wrap n = n := by
  simp only [IntKind.wrap, IntKind.signed, IntKind.bits]
  first | omega | (simp; omega)
theorem dlt {i n : Nat} (h : i < n) : decide ((i : Int) < (n : Int)) = true := by simp; omega
theorem dge {i n : Nat} (h : n ≤ i) : decide ((i : Int) < (n : Int)) = false := by simp; omega
theorem din {i n : Nat} (h : i < n) : decide (0 ≤ (i : Int) ∧ (i : Int) < ((n : Nat) : Int)) = true := by simp; omega
theorem ix {i : Nat} : 0 + ((i : Nat) : Int).toNat * 1 = i := by omega
theorem wr {i : Nat} (h : i < 2147483648) : IntKind.i64.wrap ((i : Int) + 1) = ((i + 1 : Nat) : Int) := by
  rw [wrap_s (by omega) (by omega)]; omega
theorem lt_of_get {α : Type} {l : List α} {i : Nat} {x : α} (h : l[i]? = some x) : i < l.length := (List.getElem?_eq_some_iff.1 h).1
def firstIx {α : Type} (t : α → Bool) : List α → Nat → Option Nat
  | [], _ => none
  | x :: l, i => match t x with
    | true => some i
    | false => firstIx t l (i + 1)
theorem scan {R α : Type} (l : List α) (t : α → Bool) (L : Nat → Int → Option R) (A : Nat → Option R) (Z : Option R)
    (hs : ∀ (M i : Nat) x, l[i]? = some x → L (M + 1) i = match t x with | true => A i | false => L M ((i + 1 : Nat) : Int))
    (he : ∀ M, L (M + 1) (l.length : Nat) = Z) :
    ∀ suf pre, l = pre ++ suf → ∀ M, L (suf.length + 1 + M) pre.length = match firstIx t suf pre.length with | some j => A j | none => Z := by
  intro suf
  induction suf with
  | nil =>
    intro pre hl M
    have hlen : pre.length = l.length := by rw [hl]; simp
    rw [show ([] : List α).length + 1 + M = M + 1 by simp; omega, hlen, he]
    rfl
  | cons x suf ih =>
    intro pre hl M
    rw [show (x :: suf).length + 1 + M = (suf.length + 1 + M) + 1 by simp; omega, hs _ _ x (by rw [hl]; simp)]
    unfold firstIx
    cases t x with
    | true => rfl
    | false =>
      have := ih (pre ++ [x]) (by rw [hl]; simp) M
      have e : pre.length + 1 = (pre ++ [x]).length := by simp
      rw [e]
      exact this
theorem scan0 {R α : Type} (l : List α) (t : α → Bool) (L : Nat → Int → Option R) (A : Nat → Option R) (Z : Option R)
    (hs : ∀ (M i : Nat) x, l[i]? = some x → L (M + 1) i = match t x with | true => A i | false => L M ((i + 1 : Nat) : Int))
    (he : ∀ M, L (M + 1) (l.length : Nat) = Z) : L (l.length + 1) 0 = match firstIx t l 0 with | some j => A j | none => Z := scan l t L A Z hs he l [] rfl 0
def ixOf {α : Type} (p : α → Bool) (l : List α) : Int := match firstIx p l 0 with | some j => (j : Int) | none => -1
theorem first_all {α : Type} (p : α → Bool) : ∀ (l : List α) (i : Nat), (firstIx (fun x => !p x) l i).isNone = l.all p
  | [], i => rfl
  | x :: l, i => by
    unfold firstIx
    simp only [List.all_cons]
    cases p x with
    | true => simp only [Bool.not_true, Bool.true_and]; exact first_all p l (i + 1)
    | false => simp
theorem ix_all {α : Type} (p : α → Bool) (l : List α) : (!(decide (ixOf (fun x => !p x) l ≥ 0))) = l.all p := by
  rw [← first_all p l 0]
  unfold ixOf
  cases firstIx (fun x => !p x) l 0 with
  | none => rfl
  | some j => simp
def rounds {σ : Type} (f : Nat → σ → σ) : Nat → Nat → σ → σ
  | 0, _, s => s
  | k + 1, i, s => rounds f k (i + 1) (f i s)
theorem count_up {R σ : Type} (n : Nat) (f : Nat → σ → σ) (L : Nat → Nat → σ → Option R) (Z : σ → Option R) (inv : Nat → σ → Prop)
    (hs : ∀ M i s, i < n → inv i s → L (M + 1) i s = L M (i + 1) (f i s) ∧ inv (i + 1) (f i s))
    (he : ∀ M s, inv n s → L (M + 1) n s = Z s) :
    ∀ k i s, i + k = n → inv i s → ∀ M, L (k + 1 + M) i s = Z (rounds f k i s) := by
  intro k
  induction k with
  | zero =>
    intro i s hi hv M
    have : i = n := by omega
    subst this
    rw [show 0 + 1 + M = M + 1 by omega]
    exact he M s hv
  | succ k ih =>
    intro i s hi hv M
    rw [show k + 1 + 1 + M = (k + 1 + M) + 1 by omega]
    obtain ⟨h1, h2⟩ := hs (k + 1 + M) i s (by omega) hv
    rw [h1]
    exact ih (i + 1) _ (by omega) h2 M
theorem rounds_append {α : Type} (g : Nat → α) : ∀ k i (l : List α), rounds (fun i l => l ++ [g i]) k i l = l ++ (List.range' i k).map g
  | 0, i, l => by simp [rounds]
  | k + 1, i, l => by
    show rounds _ k (i + 1) (l ++ [g i]) = _
    rw [rounds_append g k (i + 1)]
    simp [List.range'_succ]
def apok (rw : Bool) (n sz len e q bt : Nat) : Bool := rw && decide (n * sz = len ∧ e = sz) && boundB q bt
theorem apc {i b : Nat} {α : Type} {l : List α} (h : l.length = i) (hi : i < 2147483648) (hb : b ≤ 16) : apok true i 1 l.length 1 (i + 1) b = true := by
  have h2 : (i + 1) * b ≤ 2147483648 * 16 := Nat.mul_le_mul (by omega) hb
  unfold apok
  rw [decide_eq_true (show i * 1 = l.length ∧ 1 = 1 from ⟨by omega, rfl⟩)]
  unfold boundB
  rw [decide_eq_true (show i + 1 ≤ 9223372036854775807 ∧ (i + 1) * b ≤ 140737488355328 from ⟨by omega, by omega⟩)]
  rfl
def marks (k : Int) (n : Nat) : List Nat := (List.range' 0 n).map fun i : Nat => floatOfInt .f32 (k + (i : Int))
theorem marks_get {k : Int} {n i : Nat} (h : i < n) : (marks k n)[i]? = some (floatOfInt .f32 (k + (i : Int))) := by simp [marks, h]
theorem order_self {k : FloatKind} {x : Nat} (h : isN k x = false) : k.format.order x x = some .eq := by
  unfold isN at h
  have h : (k.format.read x).isNaN = false := h
  unfold Ieee.Format.order
  revert h
  cases k.format.read x with
  | nan s f => intro h; exact Bool.noConfusion (show true = false from h)
  | infinity s => intro _; cases s <;> rfl
  | number s m e =>
    intro _
    unfold Ieee.Datum.order
    simp
theorem mark_rounds (g : Int → Nat) : ∀ k i (q : Int) (pre r : List Nat), r.length = k → pre.length = i → rounds (fun i (s : Int × List Nat) => (s.1 + 1, s.2.set i (g s.1))) k i (q, pre ++ r) = (q + (k : Int), pre ++ (List.range' 0 k).map fun j : Nat => g (q + (j : Int)))
  | 0, i, q, pre, r, hr, _ => by
    have : r = [] := by simpa using hr
    subst this
    simp [rounds]
  | k + 1, i, q, pre, [], hr, _ => by simp at hr
  | k + 1, i, q, pre, x :: r, hr, hp => by
    show rounds _ k (i + 1) (q + 1, (pre ++ x :: r).set i (g q)) = _
    have e : (pre ++ x :: r).set i (g q) = (pre ++ [g q]) ++ r := by
      rw [List.set_append_right _ _ (by omega)]
      simp [hp]
    rw [e, mark_rounds g k (i + 1) (q + 1) _ _ (by simpa using hr) (by simp [hp])]
    simp only [List.append_assoc, Prod.mk.injEq]
    refine ⟨by omega, ?_⟩
    congr 1
    rw [List.range'_succ, List.map_cons, show (0 : Nat) + 1 = 1 from rfl, List.range'_eq_map_range, List.range'_eq_map_range]
    simp only [List.map_map, List.singleton_append, List.cons.injEq]
    refine ⟨by simp, ?_⟩
    apply List.map_congr_left
    intro j _
    simp only [Function.comp]
    congr 1
    omega
theorem mark_all (q : Int) (l : List Nat) (n : Nat) (h : l.length = n) : rounds (fun i (s : Int × List Nat) => (s.1 + 1, s.2.set i (floatOfInt .f32 s.1))) n 0 (q, l) = (q + (n : Int), marks q n) := mark_rounds (floatOfInt .f32) n 0 q [] l h rfl
end Go.Proofs.Ythjncajdognojaa.Ab

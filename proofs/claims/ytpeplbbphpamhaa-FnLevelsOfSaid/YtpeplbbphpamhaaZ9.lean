/- What the proof names: lemmas and words, merged by a program from its parts. No condition. -/
import Derived.Test.YtpeplbbphpamhaaZ8
import Derived.Carry
namespace Go.Proofs.Ytpeplbbphpamhaa.Ab
set_option linter.unusedVariables false
set_option linter.unusedSimpArgs false
open Go Go.ChangeShapes Go.WideShapes Go.RowKit
section
variable {H : Type} {enc : TypeId × Value → H} {P : Program} {w : World} {base : Nat} {spare : Nat → Bool} {held : Bool} {fuel : Nat} {t : TypeId} {cs : List Value} {x : DataW H × List MemPlace}
theorem list_of {α : Type} {p : Nat → α → Prop} : ∀ n, (∀ i, i < n → ∃ x, p i x) → ∃ l : List α, l.length = n ∧ ∀ i x, l[i]? = some x → p i x
  | 0, _ => ⟨[], rfl, fun i x h => by simp at h⟩
  | n + 1, h => by
    obtain ⟨l, h1, h2⟩ := list_of n (fun i hi => h i (by omega))
    obtain ⟨x, hx⟩ := h n (by omega)
    refine ⟨l ++ [x], by simp [h1], fun i y hy => ?_⟩
    by_cases hi : i < l.length
    · rw [List.getElem?_append_left hi] at hy
      exact h2 i y hy
    · rw [List.getElem?_append_right (by omega)] at hy
      have hlt : i - l.length < 1 := by simpa using (List.getElem?_eq_some_iff.1 hy).1
      have e : i = n := by omega
      subst e
      rw [show i - l.length = 0 by omega] at hy
      simp at hy
      subst hy
      exact hx
theorem slice_open {W : World} {e : TypeId} {v : Value} {d : DataW H} {ps : List MemPlace} {r : Reach} {b0 : Nat} {Q : Value → Prop} (ht : P.underlying t = some (.slice e)) (hc : P.cellsOf e = 1)
    (hQ : ∀ n cs y, DataW.trod enc P W 0 (fun _ => true) true n e cs = some y → ∃ u, cs = [u] ∧ Q u)
    (hval : Value.okWide P W r b0 t v) (hd : DataW.Trod enc P W 0 (fun _ => true) true t v d ps) :
    v = .slice none 0 0 ∨ ∃ b off len cap, v = .slice (some ⟨b, off, none⟩) len cap ∧ len ≤ cap ∧ cap ≤ maxLen ∧ b < W.heap.size ∧ ∀ i, i < len → ∃ u, W.cell? ⟨b, off + i, none⟩ = some u ∧ Q u := by
  obtain ⟨a0, l0, c0, rfl⟩ := okWide_slice ht hval
  obtain ⟨fuel, hf⟩ := hd
  rcases DataW.trod_slice ht hf with ⟨hcs, _⟩ | ⟨a, len, cap, elems, rest, n, _, hcs, hx, hb, hl, hm, hlen, hel, _⟩
  · left
    simpa [Value.cells] using hcs
  · right
    have hcs' : a0 = some a ∧ l0 = len ∧ c0 = cap := by simpa [Value.cells] using hcs
    obtain ⟨rfl, rfl, rfl⟩ := hcs'
    obtain ⟨b, off, spot⟩ := a
    simp only [Value.okWide, ht, Cell.okWide, Cell.ok, World.has] at hval
    obtain ⟨_, _, _, hsp, row, cells, hsh, _⟩ := hval
    have hsp : spot = none := hsp
    subst hsp
    have hlt : b < W.heap.size := by
      unfold World.shape? at hsh
      by_cases h : b < W.heap.size
      · exact h
      · rw [Array.getElem?_eq_none (by omega)] at hsh
        cases hsh
    refine ⟨b, off, l0, c0, rfl, hl, hm, hlt, fun i hi => ?_⟩
    have h1 := hel i hi
    rw [hc, Nat.mul_one] at h1
    have hi' : i < elems.length := by omega
    rw [List.getElem?_eq_getElem hi', Option.bind_eq_some_iff] at h1
    obtain ⟨cs', h2, h3⟩ := h1
    obtain ⟨u, rfl, hu⟩ := hQ _ _ _ h3
    refine ⟨u, ?_, hu⟩
    have := cell_of_cells?_one h2
    rwa [add_plain] at this
end
def RoB (w : World) (m : M) (b : B) : Prop := ∃ c, b = .at false c ∧ m.blk < w.heap.size ∧ ∀ p x, c.get? p = some x → ∃ u, w.cell? ⟨m.blk, m.off + p, none⟩ = some u ∧ ∀ μ, RepA μ x u
def RoBs (w : World) : List M → List B → Prop
  | [], [] => True
  | m :: μ, b :: h => RoB w m b ∧ RoBs w μ h
  | _, _ => False
theorem RoBs.get {w : World} : ∀ {μ : List M} {h : List B}, RoBs w μ h → μ.length = h.length ∧ ∀ (i : Nat) (m : M) (b : B), μ[i]? = some m → h[i]? = some b → RoB w m b
  | [], [], _ => ⟨rfl, fun i m b hm _ => by simp at hm⟩
  | m :: μ, b :: h, ⟨h1, h2⟩ => by
    obtain ⟨h3, h4⟩ := RoBs.get h2
    refine ⟨by simp [h3], fun i m' b' hm hb => ?_⟩
    cases i with
    | zero => simp at hm hb; subst hm; subst hb; exact h1
    | succ i => exact h4 i m' b' (by simpa using hm) (by simpa using hb)
theorem Rel.ro {w : World} {μ : List M} {h : List B} (hr : RoBs w μ h) : Rel ⟨noZ, μ⟩ h w := by
  obtain ⟨h1, h2⟩ := hr.get
  refine ⟨h1, fun i m rw c hm hb j x hx => ?_, fun i m c hm hb => ?_, fun i m rw c hm hb _ => ?_, fun i j m n c rw d _ hm _ hb _ _ => ?_, fun k cur h => by cases h⟩
  · obtain ⟨c', e, _, hc⟩ := h2 i m _ hm hb
    cases e
    obtain ⟨u, hu, hr⟩ := hc j x hx
    exact ⟨u, hu, hr _⟩
  · obtain ⟨c', e, _⟩ := h2 i m _ hm hb
    cases e
  · exact (h2 i m _ hm hb).choose_spec.2.1
  · obtain ⟨c', e, _⟩ := h2 i m _ hm hb
    cases e
theorem not_wr_ro {w : World} {μ : List M} {h : List B} (hr : RoBs w μ h) (k : Nat) : ¬ Wr ⟨noZ, μ⟩ h k := by
  rintro ⟨i, m, c, hm, hb, _⟩
  obtain ⟨c', e, _⟩ := hr.get.2 i m _ hm hb
  cases e
section
variable {H : Type} {enc : TypeId × Value → H} {P : Program} {t e : TypeId} {W : World} {v : Value} {d : DataW H} {ps : List MemPlace} {r : Reach} {b0 : Nat}
theorem open_ints' {k : IntKind} (ht : P.underlying t = some (.slice e)) (he : P.underlying e = some (.int k)) (hc : P.cellsOf e = 1)
    (hval : Value.okWide P W r b0 t v) (hd : DataW.Trod enc P W 0 (fun _ => true) true t v d ps) :
    v = .slice none 0 0 ∨ ∃ (m : M) (l : List Int), RoB W m (.at false (.int k l)) ∧ (∀ z ∈ l, (Lit.int k z).wf = true) ∧ ∀ (μ : Mu) i, μ.l[i]? = some m → RepA μ (.sl i 0 l.length) v := by
  rcases slice_open (Q := fun u => ∃ z, u = .int k z ∧ (Lit.int k z).wf = true) ht hc (fun n cs y h => by obtain ⟨b, h1, _, h2⟩ := DataW.trod_int he h; exact ⟨_, h1, b, rfl, h2⟩) hval hd with h | ⟨b, off, len, cap, rfl, h1, h2, h3, h4⟩
  · exact .inl h
  · right
    obtain ⟨zs, hz, hzs⟩ := list_of (p := fun i z => W.cell? ⟨b, off + i, none⟩ = some (.int k z) ∧ (Lit.int k z).wf = true) len (fun i hi => by obtain ⟨u, hu, z, rfl, hw⟩ := h4 i hi; exact ⟨z, hu, hw⟩)
    refine ⟨⟨b, off, false, 0, 0, 0⟩, zs, ⟨_, rfl, h3, fun p x hx => ?_⟩, fun z hz' => ?_, fun μ i hm => ⟨_, ⟨b, off + 0, none⟩, cap, hm, by rw [hz, Nat.add_zero], by rw [hz]; exact h1, h2, fun _ => rfl, fun _ ho => by cases ho⟩⟩
    · unfold C.get? C.getK at hx
      cases hp : zs[p]? with
      | none => simp only [hp] at hx; cases hx
      | some z =>
        simp only [hp] at hx
        cases hx
        exact ⟨_, (hzs p z hp).1, fun μ => rfl⟩
    · obtain ⟨i, hi⟩ := List.getElem?_of_mem hz'
      exact (hzs i z hi).2
end
end Go.Proofs.Ytpeplbbphpamhaa.Ab

namespace Go.Proofs.Ytpeplbbphpamhaa.Ab
set_option linter.unusedVariables false
set_option linter.unusedSimpArgs false
open Go
def finB (x : Nat) : Bool := FloatKind.f32.format.order (fop .sub .f32 x x) 0 == some .eq
def ltB (x y : Nat) : Bool := FloatKind.f32.format.order x y == some .lt
def gtB (x y : Nat) : Bool := FloatKind.f32.format.order x y == some .gt
def eqB (x y : Nat) : Bool := FloatKind.f32.format.order x y == some .eq
theorem fconv_up (b : Nat) : ∃ y, fconv .f32 b .f64 = some y := by
  unfold fconv
  rw [if_neg (by decide)]
  split
  · exact ⟨_, rfl⟩
  · rename_i hn
    unfold floatToFloatBits
    rw [if_neg (by decide)]
    cases hd : FloatKind.f32.decode b with
    | nan s f => rw [hd] at hn; exact absurd rfl hn
    | infinity s => exact ⟨_, rfl⟩
    | number s m e =>
      have hb : m < 2 ^ 24 ∧ -149 ≤ e ∧ e ≤ 104 := by
        have hd' : Ieee.single.read b = .number s m e := hd
        unfold Ieee.Format.read at hd'
        have c1 : Ieee.single.signWeight = 2147483648 := by decide
        have c2 : Ieee.single.binade = 8388608 := by decide
        have c3 : Ieee.single.infRung = 2139095040 := by decide
        have c4 : Ieee.single.leastPlace = -149 := by decide
        simp only [c1, c2, c3, c4] at hd'
        split at hd'
        · simp only [Ieee.Datum.number.injEq] at hd'; omega
        · split at hd'
          · simp only [Ieee.Datum.number.injEq] at hd'; omega
          · split at hd' <;> cases hd'
      have hi : (FloatKind.f64.decode (FloatKind.f64.encode (.number s m e))).isInfinity = false := by
        show (Ieee.double.read (Ieee.double.nearest s m e)).isInfinity = false
        have c1 : Ieee.double.signWeight = 9223372036854775808 := by decide
        have c2 : Ieee.double.binade = 4503599627370496 := by decide
        have c3 : Ieee.double.infRung = 9218868437227405312 := by decide
        have c4 : Ieee.double.leastPlace = -1074 := by decide
        have c5 : Ieee.double.fractionBits = 52 := by decide
        have fin : ∀ r : Nat, r < 9218868437227405312 → (Ieee.double.read (Ieee.double.word s r)).isInfinity = false := by
          intro r hr
          unfold Ieee.Format.read Ieee.Format.word
          simp only [c1, c2, c3, c4]
          have hm : (if s = true then 9223372036854775808 + r else r) % 9223372036854775808 = r := by split <;> omega
          rw [hm]
          split
          · rfl
          · first | rfl | (rw [if_pos hr]; rfl)
        unfold Ieee.Format.nearest
        split
        · exact fin 0 (by decide)
        · rename_i hm
          simp only [c2, c3, c4, c5]
          have hl : m.log2 < 24 := (Nat.log2_lt hm).2 hb.1
          have hmax : max (e + (m.log2 : Int) - (52 : Nat)) (-1074) = e + (m.log2 : Int) - 52 := by omega
          rw [hmax]
          have hz : (e + (m.log2 : Int) - 52 - e).toNat = 0 := by omega
          have hs : (e - (e + (m.log2 : Int) - 52)).toNat = 52 - m.log2 := by omega
          rw [hz, hs]
          have hk : Ieee.Toward.even.cut s (m <<< (52 - m.log2)) 0 = m <<< (52 - m.log2) := by
            unfold Ieee.Toward.cut
            simp [Nat.mod_one]
          rw [hk]
          have hlt : m <<< (52 - m.log2) < 9007199254740992 := by
            rw [Nat.shiftLeft_eq]
            have h1 : m < 2 ^ (m.log2 + 1) := Nat.lt_log2_self
            have h2 : 2 ^ (m.log2 + 1) * 2 ^ (52 - m.log2) = 9007199254740992 := by
              rw [← Nat.pow_add]
              have : m.log2 + 1 + (52 - m.log2) = 53 := by omega
              rw [this]
            calc m * 2 ^ (52 - m.log2) < 2 ^ (m.log2 + 1) * 2 ^ (52 - m.log2) := Nat.mul_lt_mul_of_pos_right h1 (Nat.pow_pos (by decide))
              _ = _ := h2
          generalize m <<< (52 - m.log2) = q at hlt
          have hq : (e + (m.log2 : Int) - 52 - -1074).toNat ≤ 1149 := by omega
          generalize (e + (m.log2 : Int) - 52 - -1074).toNat = p at hq
          refine fin _ (Nat.lt_of_le_of_lt (Nat.min_le_left _ _) (Nat.lt_of_lt_of_le (Nat.add_lt_add_of_le_of_lt (Nat.mul_le_mul_right _ hq) hlt) (by decide)))
      dsimp only
      rw [hi]
      exact ⟨_, rfl⟩
def up (b : Nat) : Nat := (fconv .f32 b .f64).getD 0
theorem fconv_eq (b : Nat) : fconv .f32 b .f64 = some (up b) := by
  obtain ⟨y, h⟩ := fconv_up b
  unfold up
  rw [h]; rfl
def gtD (x y : Nat) : Bool := FloatKind.f64.format.order x y == some .gt
end Go.Proofs.Ytpeplbbphpamhaa.Ab

namespace Go.Proofs.Ytpeplbbphpamhaa.Ab
set_option linter.unusedVariables false
set_option linter.unusedSimpArgs false
open Go
def anys (n : Nat) (l : List V) : List V := Nat.rec (motive := fun _ => List V) l (fun _ r => .any :: r) n
abbrev kEnd (fn : Func) (k : Nat) : X → St → Option (V × H) := fun x st => match x with | .exit _ => none | _ => finish ty fn k st
abbrev kSeqR {R : Type} (fns : Fns) (an : Ann) (N k : Nat) (c : Code) (K : X → St → Option R) : X → St → Option R := fun x st => match x with | .norm => exec ty fns an N k c st K | x => K x st
abbrev kBlkR {R : Type} (id : Nat) (K : X → St → Option R) : X → St → Option R := fun x st => match x with
  | .exit j => match decide (j = id) with
    | true => K .norm st
    | false => K (.exit j) st
  | x => K x st
def cAt : List Bool → Code → Code
  | [], c => c
  | false :: p, .seq a _ => cAt p a
  | true :: p, .seq _ b => cAt p b
  | false :: p, .cond _ a _ => cAt p a
  | true :: p, .cond _ _ b => cAt p b
  | _ :: p, .block _ b => cAt p b
  | _ :: p, .loop b => cAt p b
  | _ :: p, .scope b => cAt p b
  | _, _ => .skip
def atOf (p : List Bool) (fn : Func) : Code := match fn.body with | some c => cAt p c | none => .skip
theorem T.ite_inv {b : Bool} {x y : T} {v : V} {h' : H} (e : (T.ite b x y).run = some (v, h')) : (b = true ∧ x.run = some (v, h')) ∨ (b = false ∧ y.run = some (v, h')) := by
  cases b with
  | true => exact .inl ⟨rfl, e⟩
  | false => exact .inr ⟨rfl, e⟩
theorem T.pre_inv {b : Bool} {x : T} {v : V} {h' : H} (e : (T.ite b x .no).run = some (v, h')) : b = true ∧ x.run = some (v, h') := by
  rcases T.ite_inv e with h | ⟨_, h⟩
  · exact h
  · cases h
theorem T.ret_inv {a v : V} {g h' : H} (e : (T.ret a g).run = some (v, h')) : v = a ∧ h' = g := by cases e; exact ⟨rfl, rfl⟩
theorem T.no_inv {v : V} {h' : H} (e : T.no.run = some (v, h')) : False := by cases e
def gF1 (p : Nat → Bool) : G := fun vs h => match vs, h with | [.fl .f32 x], [] => some (.bool (p x), []) | _, _ => none
theorem wrap_s {n : Int} (h0 : 0 ≤ n) (h1 : n < 9223372036854775808) : IntKind.i64.wrap n = n := by
  simp only [IntKind.wrap, IntKind.signed, IntKind.bits]
  first | omega | (simp; omega)
theorem wrap_z {n : Int} (h0 : -9223372036854775808 ≤ n) (h1 : n < 9223372036854775808) : IntKind.i64.wrap n = n := by
  simp only [IntKind.wrap, IntKind.signed, IntKind.bits]
  first | omega | (simp; omega)
theorem dlt {i n : Nat} (h : i < n) : decide ((i : Int) < (n : Int)) = true := by simp; omega
theorem dge {i n : Nat} (h : n ≤ i) : decide ((i : Int) < (n : Int)) = false := by simp; omega
theorem din {i n : Nat} (h : i < n) : decide (0 ≤ (i : Int) ∧ (i : Int) < ((n : Nat) : Int)) = true := by simp; omega
theorem ix {i : Nat} : 0 + ((i : Nat) : Int).toNat * 1 = i := by omega
theorem wr {i : Nat} (h : i < 2147483648) : IntKind.i64.wrap ((i : Int) + 1) = ((i + 1 : Nat) : Int) := by
  rw [wrap_s (by omega) (by omega)]; omega
theorem lt_of_get {α : Type} {l : List α} {i : Nat} {x : α} (h : l[i]? = some x) : i < l.length := (List.getElem?_eq_some_iff.1 h).1
def firstIx {α : Type} (t : α → Bool) : List α → Nat → Option Nat
  | [], _ => none
  | x :: l, i => match t x with
    | true => some i
    | false => firstIx t l (i + 1)
theorem scan {R α : Type} (l : List α) (t : α → Bool) (L : Nat → Int → Option R) (A : Nat → Option R) (Z : Option R)
    (hs : ∀ (M i : Nat) x, l[i]? = some x → L (M + 1) i = match t x with | true => A i | false => L M ((i + 1 : Nat) : Int))
    (he : ∀ M, L (M + 1) (l.length : Nat) = Z) :
    ∀ suf pre, l = pre ++ suf → ∀ M, L (suf.length + 1 + M) pre.length = match firstIx t suf pre.length with | some j => A j | none => Z := by
  intro suf
  induction suf with
  | nil =>
    intro pre hl M
    have hlen : pre.length = l.length := by rw [hl]; simp
    rw [show ([] : List α).length + 1 + M = M + 1 by simp; omega, hlen, he]
    rfl
  | cons x suf ih =>
    intro pre hl M
    rw [show (x :: suf).length + 1 + M = (suf.length + 1 + M) + 1 by simp; omega, hs _ _ x (by rw [hl]; simp)]
    unfold firstIx
    cases t x with
    | true => rfl
    | false =>
      have := ih (pre ++ [x]) (by rw [hl]; simp) M
      have e : pre.length + 1 = (pre ++ [x]).length := by simp
      rw [e]
      exact this
theorem scan0 {R α : Type} (l : List α) (t : α → Bool) (L : Nat → Int → Option R) (A : Nat → Option R) (Z : Option R)
    (hs : ∀ (M i : Nat) x, l[i]? = some x → L (M + 1) i = match t x with | true => A i | false => L M ((i + 1 : Nat) : Int))
    (he : ∀ M, L (M + 1) (l.length : Nat) = Z) : L (l.length + 1) 0 = match firstIx t l 0 with | some j => A j | none => Z := scan l t L A Z hs he l [] rfl 0
def ixOf {α : Type} (p : α → Bool) (l : List α) : Int := match firstIx p l 0 with | some j => (j : Int) | none => -1
theorem first_all {α : Type} (p : α → Bool) : ∀ (l : List α) (i : Nat), (firstIx (fun x => !p x) l i).isNone = l.all p
  | [], i => rfl
  | x :: l, i => by
    unfold firstIx
    simp only [List.all_cons]
    cases p x with
    | true => simp only [Bool.not_true, Bool.true_and]; exact first_all p l (i + 1)
    | false => simp
theorem ix_all {α : Type} (p : α → Bool) (l : List α) : (!(decide (ixOf (fun x => !p x) l ≥ 0))) = l.all p := by
  rw [← first_all p l 0]
  unfold ixOf
  cases firstIx (fun x => !p x) l 0 with
  | none => rfl
  | some j => simp
def rounds {σ : Type} (f : Nat → σ → σ) : Nat → Nat → σ → σ
  | 0, _, s => s
  | k + 1, i, s => rounds f k (i + 1) (f i s)
def apok (rw : Bool) (n sz len e q bt : Nat) : Bool := rw && decide (n * sz = len ∧ e = sz) && boundB q bt
theorem apc {i b : Nat} {α : Type} {l : List α} (h : l.length = i) (hi : i < 2147483648) (hb : b ≤ 16) : apok true i 1 l.length 1 (i + 1) b = true := by
  have h2 : (i + 1) * b ≤ 2147483648 * 16 := Nat.mul_le_mul (by omega) hb
  unfold apok
  rw [decide_eq_true (show i * 1 = l.length ∧ 1 = 1 from ⟨by omega, rfl⟩)]
  unfold boundB
  rw [decide_eq_true (show i + 1 ≤ 9223372036854775807 ∧ (i + 1) * b ≤ 140737488355328 from ⟨by omega, by omega⟩)]
  rfl
abbrev nilF : V := .tup [.a .nil, .a (.bool false)]
end Go.Proofs.Ytpeplbbphpamhaa.Ab

/- What the proof names: lemmas and words, merged by a program from its parts. No condition. -/
import Derived.Test.YtbhfjdlhhjeknaaZ8
import Derived.Carry
namespace Go.Proofs.Ytbhfjdlhhjeknaa.Ab
set_option linter.unusedVariables false
set_option linter.unusedSimpArgs false
open Go Go.ChangeShapes Go.WideShapes Go.RowKit
section
variable {H : Type} {enc : TypeId × Value → H} {P : Program} {w : World} {base : Nat} {spare : Nat → Bool} {held : Bool} {fuel : Nat} {t : TypeId} {cs : List Value} {x : DataW H × List MemPlace}
theorem list_of {α : Type} {p : Nat → α → Prop} : ∀ n, (∀ i, i < n → ∃ x, p i x) → ∃ l : List α, l.length = n ∧ ∀ i x, l[i]? = some x → p i x
  | 0, _ => ⟨[], rfl, fun i x h => by simp at h⟩
  | n + 1, h => by
    obtain ⟨l, h1, h2⟩ := list_of n (fun i hi => h i (by omega))
    obtain ⟨x, hx⟩ := h n (by omega)
    refine ⟨l ++ [x], by simp [h1], fun i y hy => ?_⟩
    by_cases hi : i < l.length
    · rw [List.getElem?_append_left hi] at hy
      exact h2 i y hy
    · rw [List.getElem?_append_right (by omega)] at hy
      have hlt : i - l.length < 1 := by simpa using (List.getElem?_eq_some_iff.1 hy).1
      have e : i = n := by omega
      subst e
      rw [show i - l.length = 0 by omega] at hy
      simp at hy
      subst hy
      exact hx
theorem slice_open {W : World} {e : TypeId} {v : Value} {d : DataW H} {ps : List MemPlace} {r : Reach} {b0 : Nat} {Q : Value → Prop} (ht : P.underlying t = some (.slice e)) (hc : P.cellsOf e = 1)
    (hQ : ∀ n cs y, DataW.trod enc P W 0 (fun _ => true) true n e cs = some y → ∃ u, cs = [u] ∧ Q u)
    (hval : Value.okWide P W r b0 t v) (hd : DataW.Trod enc P W 0 (fun _ => true) true t v d ps) :
    v = .slice none 0 0 ∨ ∃ b off len cap, v = .slice (some ⟨b, off, none⟩) len cap ∧ len ≤ cap ∧ cap ≤ maxLen ∧ b < W.heap.size ∧ ∀ i, i < len → ∃ u, W.cell? ⟨b, off + i, none⟩ = some u ∧ Q u := by
  obtain ⟨a0, l0, c0, rfl⟩ := okWide_slice ht hval
  obtain ⟨fuel, hf⟩ := hd
  rcases DataW.trod_slice ht hf with ⟨hcs, _⟩ | ⟨a, len, cap, elems, rest, n, _, hcs, hx, hb, hl, hm, hlen, hel, _⟩
  · left
    simpa [Value.cells] using hcs
  · right
    have hcs' : a0 = some a ∧ l0 = len ∧ c0 = cap := by simpa [Value.cells] using hcs
    obtain ⟨rfl, rfl, rfl⟩ := hcs'
    obtain ⟨b, off, spot⟩ := a
    simp only [Value.okWide, ht, Cell.okWide, Cell.ok, World.has] at hval
    obtain ⟨_, _, _, hsp, row, cells, hsh, _⟩ := hval
    have hsp : spot = none := hsp
    subst hsp
    have hlt : b < W.heap.size := by
      unfold World.shape? at hsh
      by_cases h : b < W.heap.size
      · exact h
      · rw [Array.getElem?_eq_none (by omega)] at hsh
        cases hsh
    refine ⟨b, off, l0, c0, rfl, hl, hm, hlt, fun i hi => ?_⟩
    have h1 := hel i hi
    rw [hc, Nat.mul_one] at h1
    have hi' : i < elems.length := by omega
    rw [List.getElem?_eq_getElem hi', Option.bind_eq_some_iff] at h1
    obtain ⟨cs', h2, h3⟩ := h1
    obtain ⟨u, rfl, hu⟩ := hQ _ _ _ h3
    refine ⟨u, ?_, hu⟩
    have := cell_of_cells?_one h2
    rwa [add_plain] at this
end
def RoB (w : World) (m : M) (b : B) : Prop := ∃ c, b = .at false c ∧ m.blk < w.heap.size ∧ ∀ p x, c.get? p = some x → ∃ u, w.cell? ⟨m.blk, m.off + p, none⟩ = some u ∧ ∀ μ, RepA μ x u
def RoBs (w : World) : List M → List B → Prop
  | [], [] => True
  | m :: μ, b :: h => RoB w m b ∧ RoBs w μ h
  | _, _ => False
theorem RoBs.get {w : World} : ∀ {μ : List M} {h : List B}, RoBs w μ h → μ.length = h.length ∧ ∀ (i : Nat) (m : M) (b : B), μ[i]? = some m → h[i]? = some b → RoB w m b
  | [], [], _ => ⟨rfl, fun i m b hm _ => by simp at hm⟩
  | m :: μ, b :: h, ⟨h1, h2⟩ => by
    obtain ⟨h3, h4⟩ := RoBs.get h2
    refine ⟨by simp [h3], fun i m' b' hm hb => ?_⟩
    cases i with
    | zero => simp at hm hb; subst hm; subst hb; exact h1
    | succ i => exact h4 i m' b' (by simpa using hm) (by simpa using hb)
theorem Rel.ro {w : World} {μ : List M} {h : List B} (hr : RoBs w μ h) : Rel ⟨noZ, μ⟩ h w := by
  obtain ⟨h1, h2⟩ := hr.get
  refine ⟨h1, fun i m rw c hm hb j x hx => ?_, fun i m c hm hb => ?_, fun i m rw c hm hb _ => ?_, fun i j m n c rw d _ hm _ hb _ _ => ?_, fun k cur h => by cases h⟩
  · obtain ⟨c', e, _, hc⟩ := h2 i m _ hm hb
    cases e
    obtain ⟨u, hu, hr⟩ := hc j x hx
    exact ⟨u, hu, hr _⟩
  · obtain ⟨c', e, _⟩ := h2 i m _ hm hb
    cases e
  · exact (h2 i m _ hm hb).choose_spec.2.1
  · obtain ⟨c', e, _⟩ := h2 i m _ hm hb
    cases e
theorem not_wr_ro {w : World} {μ : List M} {h : List B} (hr : RoBs w μ h) (k : Nat) : ¬ Wr ⟨noZ, μ⟩ h k := by
  rintro ⟨i, m, c, hm, hb, _⟩
  obtain ⟨c', e, _⟩ := hr.get.2 i m _ hm hb
  cases e
section
variable {H : Type} {enc : TypeId × Value → H} {P : Program} {t e : TypeId} {W : World} {v : Value} {d : DataW H} {ps : List MemPlace} {r : Reach} {b0 : Nat}
theorem open_ints' {k : IntKind} (ht : P.underlying t = some (.slice e)) (he : P.underlying e = some (.int k)) (hc : P.cellsOf e = 1)
    (hval : Value.okWide P W r b0 t v) (hd : DataW.Trod enc P W 0 (fun _ => true) true t v d ps) :
    v = .slice none 0 0 ∨ ∃ (m : M) (l : List Int), RoB W m (.at false (.int k l)) ∧ (∀ z ∈ l, (Lit.int k z).wf = true) ∧ ∀ (μ : Mu) i, μ.l[i]? = some m → RepA μ (.sl i 0 l.length) v := by
  rcases slice_open (Q := fun u => ∃ z, u = .int k z ∧ (Lit.int k z).wf = true) ht hc (fun n cs y h => by obtain ⟨b, h1, _, h2⟩ := DataW.trod_int he h; exact ⟨_, h1, b, rfl, h2⟩) hval hd with h | ⟨b, off, len, cap, rfl, h1, h2, h3, h4⟩
  · exact .inl h
  · right
    obtain ⟨zs, hz, hzs⟩ := list_of (p := fun i z => W.cell? ⟨b, off + i, none⟩ = some (.int k z) ∧ (Lit.int k z).wf = true) len (fun i hi => by obtain ⟨u, hu, z, rfl, hw⟩ := h4 i hi; exact ⟨z, hu, hw⟩)
    refine ⟨⟨b, off, false, 0, 0, 0⟩, zs, ⟨_, rfl, h3, fun p x hx => ?_⟩, fun z hz' => ?_, fun μ i hm => ⟨_, ⟨b, off + 0, none⟩, cap, hm, by rw [hz, Nat.add_zero], by rw [hz]; exact h1, h2, fun _ => rfl, fun _ ho => by cases ho⟩⟩
    · unfold C.get? C.getK at hx
      cases hp : zs[p]? with
      | none => simp only [hp] at hx; cases hx
      | some z =>
        simp only [hp] at hx
        cases hx
        exact ⟨_, (hzs p z hp).1, fun μ => rfl⟩
    · obtain ⟨i, hi⟩ := List.getElem?_of_mem hz'
      exact (hzs i z hi).2
end
end Go.Proofs.Ytbhfjdlhhjeknaa.Ab

namespace Go.Proofs.Ytbhfjdlhhjeknaa.Ab
set_option linter.unusedVariables false
set_option linter.unusedSimpArgs false
open Go
def finB (x : Nat) : Bool := FloatKind.f32.format.order (fop .sub .f32 x x) 0 == some .eq
def eqB (x y : Nat) : Bool := FloatKind.f32.format.order x y == some .eq
theorem fconv_up (b : Nat) : ∃ y, fconv .f32 b .f64 = some y := by
  unfold fconv
  rw [if_neg (by decide)]
  split
  · exact ⟨_, rfl⟩
  · rename_i hn
    unfold floatToFloatBits
    rw [if_neg (by decide)]
    cases hd : FloatKind.f32.decode b with
    | nan s f => rw [hd] at hn; exact absurd rfl hn
    | infinity s => exact ⟨_, rfl⟩
    | number s m e =>
      have hb : m < 2 ^ 24 ∧ -149 ≤ e ∧ e ≤ 104 := by
        have hd' : Ieee.single.read b = .number s m e := hd
        unfold Ieee.Format.read at hd'
        have c1 : Ieee.single.signWeight = 2147483648 := by decide
        have c2 : Ieee.single.binade = 8388608 := by decide
        have c3 : Ieee.single.infRung = 2139095040 := by decide
        have c4 : Ieee.single.leastPlace = -149 := by decide
        simp only [c1, c2, c3, c4] at hd'
        split at hd'
        · simp only [Ieee.Datum.number.injEq] at hd'; omega
        · split at hd'
          · simp only [Ieee.Datum.number.injEq] at hd'; omega
          · split at hd' <;> cases hd'
      have hi : (FloatKind.f64.decode (FloatKind.f64.encode (.number s m e))).isInfinity = false := by
        show (Ieee.double.read (Ieee.double.nearest s m e)).isInfinity = false
        have c1 : Ieee.double.signWeight = 9223372036854775808 := by decide
        have c2 : Ieee.double.binade = 4503599627370496 := by decide
        have c3 : Ieee.double.infRung = 9218868437227405312 := by decide
        have c4 : Ieee.double.leastPlace = -1074 := by decide
        have c5 : Ieee.double.fractionBits = 52 := by decide
        have fin : ∀ r : Nat, r < 9218868437227405312 → (Ieee.double.read (Ieee.double.word s r)).isInfinity = false := by
          intro r hr
          unfold Ieee.Format.read Ieee.Format.word
          simp only [c1, c2, c3, c4]
          have hm : (if s = true then 9223372036854775808 + r else r) % 9223372036854775808 = r := by split <;> omega
          rw [hm]
          split
          · rfl
          · first | rfl | (rw [if_pos hr]; rfl)
        unfold Ieee.Format.nearest
        split
        · exact fin 0 (by decide)
        · rename_i hm
          simp only [c2, c3, c4, c5]
          have hl : m.log2 < 24 := (Nat.log2_lt hm).2 hb.1
          have hmax : max (e + (m.log2 : Int) - (52 : Nat)) (-1074) = e + (m.log2 : Int) - 52 := by omega
          rw [hmax]
          have hz : (e + (m.log2 : Int) - 52 - e).toNat = 0 := by omega
          have hs : (e - (e + (m.log2 : Int) - 52)).toNat = 52 - m.log2 := by omega
          rw [hz, hs]
          have hk : Ieee.Toward.even.cut s (m <<< (52 - m.log2)) 0 = m <<< (52 - m.log2) := by
            unfold Ieee.Toward.cut
            simp [Nat.mod_one]
          rw [hk]
          have hlt : m <<< (52 - m.log2) < 9007199254740992 := by
            rw [Nat.shiftLeft_eq]
            have h1 : m < 2 ^ (m.log2 + 1) := Nat.lt_log2_self
            have h2 : 2 ^ (m.log2 + 1) * 2 ^ (52 - m.log2) = 9007199254740992 := by
              rw [← Nat.pow_add]
              have : m.log2 + 1 + (52 - m.log2) = 53 := by omega
              rw [this]
            calc m * 2 ^ (52 - m.log2) < 2 ^ (m.log2 + 1) * 2 ^ (52 - m.log2) := Nat.mul_lt_mul_of_pos_right h1 (Nat.pow_pos (by decide))
              _ = _ := h2
          generalize m <<< (52 - m.log2) = q at hlt
          have hq : (e + (m.log2 : Int) - 52 - -1074).toNat ≤ 1149 := by omega
          generalize (e + (m.log2 : Int) - 52 - -1074).toNat = p at hq
          refine fin _ (Nat.lt_of_le_of_lt (Nat.min_le_left _ _) (Nat.lt_of_lt_of_le (Nat.add_lt_add_of_le_of_lt (Nat.mul_le_mul_right _ hq) hlt) (by decide)))
      dsimp only
      rw [hi]
      exact ⟨_, rfl⟩
def up (b : Nat) : Nat := (fconv .f32 b .f64).getD 0
theorem fconv_eq (b : Nat) : fconv .f32 b .f64 = some (up b) := by
  obtain ⟨y, h⟩ := fconv_up b
  unfold up
  rw [h]; rfl
def gtD (x y : Nat) : Bool := FloatKind.f64.format.order x y == some .gt
end Go.Proofs.Ytbhfjdlhhjeknaa.Ab

namespace Go.Proofs.Ytbhfjdlhhjeknaa.Ab
set_option linter.unusedVariables false
set_option linter.unusedSimpArgs false
open Go
def anys (n : Nat) (l : List V) : List V := Nat.rec (motive := fun _ => List V) l (fun _ r => .any :: r) n
abbrev kEnd (fn : Func) (k : Nat) : X → St → Option (V × H) := fun x st => match x with | .exit _ => none | _ => finish ty fn k st
abbrev kSeqR {R : Type} (fns : Fns) (an : Ann) (N k : Nat) (c : Code) (K : X → St → Option R) : X → St → Option R := fun x st => match x with | .norm => exec ty fns an N k c st K | x => K x st
abbrev kBlkR {R : Type} (id : Nat) (K : X → St → Option R) : X → St → Option R := fun x st => match x with
  | .exit j => match decide (j = id) with
    | true => K .norm st
    | false => K (.exit j) st
  | x => K x st
def cAt : List Bool → Code → Code
  | [], c => c
  | false :: p, .seq a _ => cAt p a
  | true :: p, .seq _ b => cAt p b
  | false :: p, .cond _ a _ => cAt p a
  | true :: p, .cond _ _ b => cAt p b
  | _ :: p, .block _ b => cAt p b
  | _ :: p, .loop b => cAt p b
  | _ :: p, .scope b => cAt p b
  | _, _ => .skip
def atOf (p : List Bool) (fn : Func) : Code := match fn.body with | some c => cAt p c | none => .skip
theorem T.ite_inv {b : Bool} {x y : T} {v : V} {h' : H} (e : (T.ite b x y).run = some (v, h')) : (b = true ∧ x.run = some (v, h')) ∨ (b = false ∧ y.run = some (v, h')) := by
  cases b with
  | true => exact .inl ⟨rfl, e⟩
  | false => exact .inr ⟨rfl, e⟩
theorem T.pre_inv {b : Bool} {x : T} {v : V} {h' : H} (e : (T.ite b x .no).run = some (v, h')) : b = true ∧ x.run = some (v, h') := by
  rcases T.ite_inv e with h | ⟨_, h⟩
  · exact h
  · cases h
theorem T.ret_inv {a v : V} {g h' : H} (e : (T.ret a g).run = some (v, h')) : v = a ∧ h' = g := by cases e; exact ⟨rfl, rfl⟩
theorem T.no_inv {v : V} {h' : H} (e : T.no.run = some (v, h')) : False := by cases e
def ltD (x y : Nat) : Bool := FloatKind.f64.format.order x y == some .lt
def gF1 (p : Nat → Bool) : G := fun vs h => match vs, h with | [.fl .f32 x], [] => some (.bool (p x), []) | _, _ => none
theorem wrap_s {n : Int} (h0 : 0 ≤ n) (h1 : n < 9223372036854775808) : IntKind.i64.wrap n = n := by
  simp only [IntKind.wrap, IntKind.signed, IntKind.bits]
  first | omega | (simp; omega)
theorem wrap_z {n : Int} (h0 : -9223372036854775808 ≤ n) (h1 : n < 9223372036854775808) : IntKind.i64.wrap n = n := by
  simp only [IntKind.wrap, IntKind.signed, IntKind.bits]
  first | omega | (simp; omega)
theorem dlt {i n : Nat} (h : i < n) : decide ((i : Int) < (n : Int)) = true := by simp; omega
theorem dge {i n : Nat} (h : n ≤ i) : decide ((i : Int) < (n : Int)) = false := by simp; omega
theorem din {i n : Nat} (h : i < n) : decide (0 ≤ (i : Int) ∧ (i : Int) < ((n : Nat) : Int)) = true := by simp; omega
theorem ix {i : Nat} : 0 + ((i : Nat) : Int).toNat * 1 = i := by omega
theorem wr {i : Nat} (h : i < 2147483648) : IntKind.i64.wrap ((i : Int) + 1) = ((i + 1 : Nat) : Int) := by
  rw [wrap_s (by omega) (by omega)]; omega
theorem lt_of_get {α : Type} {l : List α} {i : Nat} {x : α} (h : l[i]? = some x) : i < l.length := (List.getElem?_eq_some_iff.1 h).1
def firstIx {α : Type} (t : α → Bool) : List α → Nat → Option Nat
  | [], _ => none
  | x :: l, i => match t x with
    | true => some i
    | false => firstIx t l (i + 1)
theorem scan {R α : Type} (l : List α) (t : α → Bool) (L : Nat → Int → Option R) (A : Nat → Option R) (Z : Option R)
    (hs : ∀ (M i : Nat) x, l[i]? = some x → L (M + 1) i = match t x with | true => A i | false => L M ((i + 1 : Nat) : Int))
    (he : ∀ M, L (M + 1) (l.length : Nat) = Z) :
    ∀ suf pre, l = pre ++ suf → ∀ M, L (suf.length + 1 + M) pre.length = match firstIx t suf pre.length with | some j => A j | none => Z := by
  intro suf
  induction suf with
  | nil =>
    intro pre hl M
    have hlen : pre.length = l.length := by rw [hl]; simp
    rw [show ([] : List α).length + 1 + M = M + 1 by simp; omega, hlen, he]
    rfl
  | cons x suf ih =>
    intro pre hl M
    rw [show (x :: suf).length + 1 + M = (suf.length + 1 + M) + 1 by simp; omega, hs _ _ x (by rw [hl]; simp)]
    unfold firstIx
    cases t x with
    | true => rfl
    | false =>
      have := ih (pre ++ [x]) (by rw [hl]; simp) M
      have e : pre.length + 1 = (pre ++ [x]).length := by simp
      rw [e]
      exact this
theorem scan0 {R α : Type} (l : List α) (t : α → Bool) (L : Nat → Int → Option R) (A : Nat → Option R) (Z : Option R)
    (hs : ∀ (M i : Nat) x, l[i]? = some x → L (M + 1) i = match t x with | true => A i | false => L M ((i + 1 : Nat) : Int))
    (he : ∀ M, L (M + 1) (l.length : Nat) = Z) : L (l.length + 1) 0 = match firstIx t l 0 with | some j => A j | none => Z := scan l t L A Z hs he l [] rfl 0
def ixOf {α : Type} (p : α → Bool) (l : List α) : Int := match firstIx p l 0 with | some j => (j : Int) | none => -1
theorem first_all {α : Type} (p : α → Bool) : ∀ (l : List α) (i : Nat), (firstIx (fun x => !p x) l i).isNone = l.all p
  | [], i => rfl
  | x :: l, i => by
    unfold firstIx
    simp only [List.all_cons]
    cases p x with
    | true => simp only [Bool.not_true, Bool.true_and]; exact first_all p l (i + 1)
    | false => simp
theorem ix_all {α : Type} (p : α → Bool) (l : List α) : (!(decide (ixOf (fun x => !p x) l ≥ 0))) = l.all p := by
  rw [← first_all p l 0]
  unfold ixOf
  cases firstIx (fun x => !p x) l 0 with
  | none => rfl
  | some j => simp
def rounds {σ : Type} (f : Nat → σ → σ) : Nat → Nat → σ → σ
  | 0, _, s => s
  | k + 1, i, s => rounds f k (i + 1) (f i s)
def apok (rw : Bool) (n sz len e q bt : Nat) : Bool := rw && decide (n * sz = len ∧ e = sz) && boundB q bt
theorem apc {i b : Nat} {α : Type} {l : List α} (h : l.length = i) (hi : i < 2147483648) (hb : b ≤ 16) : apok true i 1 l.length 1 (i + 1) b = true := by
  have h2 : (i + 1) * b ≤ 2147483648 * 16 := Nat.mul_le_mul (by omega) hb
  unfold apok
  rw [decide_eq_true (show i * 1 = l.length ∧ 1 = 1 from ⟨by omega, rfl⟩)]
  unfold boundB
  rw [decide_eq_true (show i + 1 ≤ 9223372036854775807 ∧ (i + 1) * b ≤ 140737488355328 from ⟨by omega, by omega⟩)]
  rfl
end Go.Proofs.Ytbhfjdlhhjeknaa.Ab

namespace Go.Proofs.Ytbhfjdlhhjeknaa.Ab
set_option linter.unusedVariables false
set_option linter.unusedSimpArgs false
open Go
def tab_IsFinite : Fns := tabT []
theorem tabok_IsFinite : ∀ f, FnT Try.prog f (tab_IsFinite f) := tabT_nil
theorem run_IsFinite (N : Nat) (x : Nat) : run ty tab_IsFinite ann0 N Try.f71 [.fl .f32 x] []
    = some (.bool (eqB (fop .sub .f32 x x) 0), []) := by
  kernel_rfl
theorem ok_IsFinite : FnT Try.prog 71 (gT (gF1 finB)) := by
  refine fnT tabok_IsFinite Try.func71 rfl rfl ann0 fun vs h v h' e => ⟨0, ?_⟩
  rw [T.run_of] at e
  unfold gF1 at e
  split at e
  case h_2 => cases e
  rename_i x
  cases e
  refine Eq.trans (run_IsFinite 0 x) ?_
  rfl
def inB (n lo hi : Int) : Bool := decide (n ≥ lo) && decide (n ≤ hi)
def gIn : G := fun vs h => match vs, h with | [.int .i64 n, .int .i64 a, .int .i64 b], [] => some (.bool (inB n a b), []) | _, _ => none
def tab_l00In : Fns := tabT []
theorem tabok_l00In : ∀ f, FnT Try.prog f (tab_l00In f) := tabT_nil
theorem run_l00In (N : Nat) (n : Int) (a : Int) (b : Int) : run ty tab_l00In ann0 N Try.f157 [.int .i64 n, .int .i64 a, .int .i64 b] []
    = (match decide ((n : Int) ≥ a) with | true => some (.bool (decide ((n : Int) ≤ b)), []) | false => some (.bool false, [])) := by
  kernel_rfl
theorem ok_l00In : FnT Try.prog 157 (gT gIn) := by
  refine fnT tabok_l00In Try.func157 rfl rfl ann0 fun vs h v h' e => ⟨0, ?_⟩
  rw [T.run_of] at e
  unfold gIn at e
  split at e
  case h_2 => cases e
  rename_i n a b
  cases e
  refine Eq.trans (run_l00In 0 n a b) ?_
  unfold inB
  cases decide (n ≥ a) <;> rfl
def tab_within : Fns := tabT []
theorem tabok_within : ∀ f, FnT Try.prog f (tab_within f) := tabT_nil
theorem run_within (N : Nat) (n : Int) (a : Int) (b : Int) : run ty tab_within ann0 N Try.f97 [.int .i64 n, .int .i64 a, .int .i64 b] []
    = (match decide ((n : Int) ≥ a) with | true => some (.bool (decide ((n : Int) ≤ b)), []) | false => some (.bool false, [])) := by
  kernel_rfl
theorem ok_within : FnT Try.prog 97 (gT gIn) := by
  refine fnT tabok_within Try.func97 rfl rfl ann0 fun vs h v h' e => ⟨0, ?_⟩
  rw [T.run_of] at e
  unfold gIn at e
  split at e
  case h_2 => cases e
  rename_i n a b
  cases e
  refine Eq.trans (run_within 0 n a b) ?_
  unfold inB
  cases decide (n ≥ a) <;> rfl
abbrev pairV (b : Bool) (y : Nat) : V := .tup [.a (.fl .f32 y), .a (.bool b)]
def gNumT : GT := fun vs h => match vs, h with | [.fl .f32 x], [] => .ite (finB x) (.ret (pairV true x) []) (.ret (pairV false 0) []) | _, _ => .no
def tab_checked : Fns := tabT [(71, gT (gF1 finB))]
theorem tabok_checked : ∀ f, FnT Try.prog f (tab_checked f) := (tabT_cons (k := 71) ok_IsFinite tabT_nil)
theorem run_checked (N : Nat) (x : Nat) : run ty tab_checked ann0 N Try.f85 [.fl .f32 x] []
    = (match !(finB x) with | true => some (.tup [.a (.fl .f32 0), .a (.bool false)], []) | false => some (.tup [.a (.fl .f32 x), .a (.bool true)], [])) := by
  kernel_rfl
theorem ok_checked : FnT Try.prog 85 (gNumT) := by
  refine fnT tabok_checked Try.func85 rfl rfl ann0 fun vs h v h' e => ⟨0, ?_⟩
  unfold gNumT at e
  split at e
  · rename_i x
    refine Eq.trans (run_checked 0 x) (Eq.trans ?_ e)
    show _ = T.k _ _
    simp only [T.k]
    cases finB x <;> rfl
  · exact (T.no_inv e).elim
end Go.Proofs.Ytbhfjdlhhjeknaa.Ab

namespace Go.Proofs.Ytbhfjdlhhjeknaa.Ab
set_option linter.unusedVariables false
set_option linter.unusedSimpArgs false
open Go
theorem RepA.noids {μ μ' : Mu} (hz : Zle μ.z μ'.z) {x : A} {cv : Value} (hx : x.ids = []) (r : RepA μ x cv) : RepA μ' x cv :=
  RepA.ren (ids := []) ⟨hz, fun j i m h => by simp at h⟩ (A.ren_plain hx []) r
def RoF (z : Nat → Option (Array Value)) (m : M) (D : List Int) : Prop := D = [] ∨ ∃ cur, z m.blk = some cur ∧ ∀ j d, D[j]? = some d → cur[m.off + j]? = some (.int .u32 d)
theorem RoF.mono {z z' : Nat → Option (Array Value)} (h : Zle z z') {m : M} {D : List Int} (r : RoF z m D) : RoF z' m D :=
  r.imp id fun ⟨cur, h1, h2⟩ => ⟨cur, h _ _ h1, h2⟩
theorem int_get {D : List Int} {j : Nat} {x : A} (h : (C.int .u32 D).get? j = some x) : ∃ d, D[j]? = some d ∧ x = .int .u32 d := by
  unfold C.get? C.getK at h
  cases hd : D[j]? with
  | none => simp only [hd] at h; cases h
  | some d => simp only [hd] at h; cases h; exact ⟨d, rfl, rfl⟩
theorem get_int {D : List Int} {j : Nat} {d : Int} (h : D[j]? = some d) : (C.int .u32 D).get? j = some (.int .u32 d) := by
  unfold C.get? C.getK
  simp only [h]
theorem Rel.ro1 {μ : Mu} {h : H} {w : World} (r : Rel μ h w) (m : M) (D : List Int) (hf : RoF μ.z m D) : Rel (μ.app [m]) (h ++ [.at false (.int .u32 D)]) w := by
  have hlen := r.len
  have split : ∀ (i : Nat) (m' : M) (b : B), (μ.l ++ [m])[i]? = some m' → (h ++ [.at false (.int .u32 D)])[i]? = some b →
      (μ.l[i]? = some m' ∧ h[i]? = some b) ∨ (i = μ.l.length ∧ m' = m ∧ b = .at false (.int .u32 D)) := by
    intro i m' b h1 h2
    by_cases hi : i < μ.l.length
    · rw [List.getElem?_append_left hi] at h1
      rw [List.getElem?_append_left (by omega)] at h2
      exact .inl ⟨h1, h2⟩
    · have hlt := getElem?_lt h1
      simp at hlt
      have hi' : i = μ.l.length := by omega
      subst hi'
      simp at h1
      rw [hlen] at h2
      simp at h2
      exact .inr ⟨rfl, h1.symm, h2.symm⟩
  have hblk : ∀ p x, (C.int .u32 D).get? p = some x → ∃ cur el, μ.z m.blk = some cur ∧ w.heap[m.blk]? = some (.cells cur el (0, 0)) ∧ ∃ d, x = .int .u32 d ∧ cur[m.off + p]? = some (.int .u32 d) := by
    intro p x hx
    obtain ⟨d, hd, rfl⟩ := int_get hx
    rcases hf with h0 | ⟨cur, h1, h2⟩
    · subst h0; simp at hd
    · obtain ⟨⟨el, h3⟩, _⟩ := r.fz _ _ h1
      exact ⟨cur, el, h1, h3, d, rfl, h2 p d hd⟩
  refine ⟨by simp [hlen], ?_, ?_, ?_, ?_, ?_⟩
  · intro i m' rw c' h1 h2 j x hx
    rcases split i m' _ h1 h2 with ⟨h1, h2⟩ | ⟨_, e, h2⟩
    · obtain ⟨cv, h3, h4⟩ := r.cell i m' rw c' h1 h2 j x hx
      exact ⟨cv, h3, h4.pre (.app μ _)⟩
    · cases h2
      obtain ⟨cur, el, _, h4, d, rfl, h5⟩ := hblk j x hx
      refine ⟨_, ?_, rfl⟩
      rw [e]
      simp only [World.cell?, h4]
      exact h5
  · intro i m' c' h1 h2
    rcases split i m' _ h1 h2 with ⟨h1, h2⟩ | ⟨_, _, h2⟩
    · exact r.own i m' c' h1 h2
    · cases h2
  · intro i m' rw c' h1 h2 hl
    rcases split i m' _ h1 h2 with ⟨h1, h2⟩ | ⟨_, e, h2⟩
    · exact r.lt i m' rw c' h1 h2 hl
    · cases h2
      rcases hl with hl | ⟨p, x, hx⟩
      · cases hl
      · obtain ⟨cur, el, _, h4, _⟩ := hblk p x hx
        rw [e]
        exact heap_lt h4
  · intro i j m' n c' rw d hij h1 h2 h3 h4 hl
    rcases split i m' _ h1 h3 with ⟨h1, h3⟩ | ⟨_, _, h3⟩
    · rcases split j n _ h2 h4 with ⟨h2, h4⟩ | ⟨e2, e2', h4⟩
      · exact r.sep i j m' n c' rw d hij h1 h2 h3 h4 hl
      · cases h4
        rcases hl with hl | ⟨p, x, hx⟩
        · cases hl
        · obtain ⟨cur, el, h5, _⟩ := hblk p x hx
          rw [e2']
          exact (r.fz _ _ h5).2 i m' c' h1 h3
    · cases h3
  · intro k cur hk
    refine ⟨(r.fz k cur hk).1, fun i m' c' h1 h2 => ?_⟩
    rcases split i m' _ h1 h2 with ⟨h1, h2⟩ | ⟨_, _, h2⟩
    · exact (r.fz k cur hk).2 i m' c' h1 h2
    · cases h2
theorem Rel.thaw {μ : Mu} {h : H} {w : World} (r : Rel μ h w) {D : List Int} {cv : Value} (hs : SlZ μ.z D cv) :
    ∃ m, RoF μ.z m D ∧ Rel (μ.app [m]) (h ++ [.at false (.int .u32 D)]) w ∧ RepA (μ.app [m]) (.ro h.length D.length) cv := by
  rcases hs with ⟨rfl, rfl⟩ | ⟨b, off, c, rfl, h2, h3, h4⟩
  · exact ⟨⟨0, 0, false, 0, 0, 0⟩, .inl rfl, r.ro1 _ _ (.inl rfl), _, new_at r.len, .inr ⟨rfl, rfl⟩⟩
  · exact ⟨⟨b, off, false, 0, 0, 0⟩, h4, r.ro1 _ _ h4, _, new_at r.len, .inl ⟨c, rfl, h2, h3⟩⟩
theorem slz_ro {μ : Mu} {i n : Nat} {cv : Value} {m : M} {D : List Int} (hm : μ.l[i]? = some m) (hf : RoF μ.z m D) (hn : n ≤ D.length) (h : RepA μ (.ro i n) cv) : SlZ μ.z (D.take n) cv := by
  obtain ⟨m', hm', h⟩ := h
  rw [hm] at hm'
  cases hm'
  have hl : (D.take n).length = n := by simp; omega
  rcases h with ⟨c, rfl, h1, h2⟩ | ⟨rfl, rfl⟩
  · refine .inr ⟨_, _, c, by rw [hl], by omega, h2, ?_⟩
    rcases hf with rfl | ⟨cur, h3, h4⟩
    · exact .inl (by simp)
    · exact .inr ⟨cur, h3, fun j d hd => h4 j d (by rw [List.getElem?_take] at hd; split at hd <;> simp_all)⟩
  · exact .inl ⟨by simp, rfl⟩
theorem slz_sl {μ : Mu} {i n : Nat} {cv : Value} {m : M} {D : List Int} (hm : μ.l[i]? = some m) (hf : RoF μ.z m D) (hn : n ≤ D.length) (h : RepA μ (.sl i 0 n) cv) : SlZ μ.z (D.take n) cv := by
  obtain ⟨m', ad, c, hm', rfl, h1, h2, h5, _⟩ := h
  rw [hm] at hm'
  cases hm'
  have hl : (D.take n).length = n := by simp; omega
  have := h5 (.inr rfl)
  subst this
  refine .inr ⟨_, _, c, by rw [hl], by omega, h2, ?_⟩
  rcases hf with rfl | ⟨cur, h3, h4⟩
  · exact .inl (by simp)
  · exact .inr ⟨cur, h3, fun j d hd => h4 j d (by rw [List.getElem?_take] at hd; split at hd <;> simp_all)⟩
theorem Ev.freeze {μ μ' : Mu} {h h' : H} {w w' : World} (e : Ev μ h w μ' h' w') {k : Nat} {m : M} {D : List Int} (hm : μ'.l[k]? = some m) (hb : h'[k]? = some (.at true (.int .u32 D))) :
    ∃ z, Zle μ'.z z ∧ RoF z m D ∧ Ev μ h w ⟨z, μ'.l⟩ (h'.set k .gone) w' := by
  obtain ⟨ho1, ho2, ho3, cur, hcur, hsz⟩ := e.rel.own k m _ hm hb
  have hk : k < h'.length := getElem?_lt hb
  have get : ∀ (j : Nat) (rw : Bool) (c : C), (h'.set k .gone)[j]? = some (.at rw c) → j ≠ k ∧ h'[j]? = some (.at rw c) := by
    intro j rw c hj
    by_cases e : k = j
    · subst e
      rw [List.getElem?_set_self hk] at hj
      cases hj
    · rw [List.getElem?_set_ne e] at hj
      exact ⟨fun h => e h.symm, hj⟩
  have hz : Zle μ'.z (fun b => if b = m.blk then some cur else μ'.z b) := by
    intro b c hc
    dsimp only
    split
    · rename_i hbm
      subst hbm
      exact absurd rfl ((e.rel.fz _ _ hc).2 k m _ hm hb)
    · exact hc
  have hp : Pre μ' ⟨fun b => if b = m.blk then some cur else μ'.z b, μ'.l⟩ := ⟨hz, [], by simp⟩
  have hwr : Wr μ h m.blk ∨ w.heap.size ≤ m.blk := e.wr ⟨k, m, _, hm, hb, rfl⟩
  refine ⟨_, hz, .inr ⟨cur, by simp, fun j d hd => ?_⟩, ⟨⟨by simpa using e.rel.len, ?_, ?_, ?_, ?_, ?_⟩, e.pre.trans hp, e.fr, ?_, ?_, ?_⟩⟩
  · obtain ⟨cv, h1, h2⟩ := e.rel.cell k m true _ hm hb j _ (get_int hd)
    cases h2
    simp only [World.cell?, hcur] at h1
    exact h1
  · intro j n rw c hn hc p x hx
    obtain ⟨cv, h1, h2⟩ := e.rel.cell j n rw c hn (get j rw c hc).2 p x hx
    exact ⟨cv, h1, h2.pre hp⟩
  · intro j n c hn hc
    exact e.rel.own j n c hn (get j _ c hc).2
  · intro j n rw c hn hc hl
    exact e.rel.lt j n rw c hn (get j rw c hc).2 hl
  · intro i j m' n c rw d hij hm' hn hc hd hl
    exact e.rel.sep i j m' n c rw d hij hm' hn (get i _ c hc).2 (get j rw d hd).2 hl
  · intro b c hc
    dsimp only at hc
    split at hc
    · rename_i hbm
      subst hbm
      cases hc
      refine ⟨⟨_, hcur⟩, fun j n d hn hd => ?_⟩
      exact e.rel.sep j k n m d true _ (get j _ d hd).1 hn hm (get j _ d hd).2 hb (.inl rfl)
    · exact ⟨(e.rel.fz b c hc).1, fun j n d hn hd => (e.rel.fz b c hc).2 j n d hn (get j _ d hd).2⟩
  · intro j rw c hj hc
    exact e.old j rw c hj (get j rw c hc).2
  · intro j n rw c hj hn hc
    exact e.new j n rw c hj hn (get j rw c hc).2
  · intro b c hc
    dsimp only at hc
    split at hc
    · rename_i hbm
      subst hbm
      exact .inr hwr
    · exact e.zn b c hc
theorem Ev.cut {μ μ' : Mu} {ms : List M} {h ros h1 : H} {w w' : World} (hlen : μ.l.length = h.length) (hms : ms.length = ros.length) (hro : ∀ b ∈ ros, ∀ c, b ≠ .at true c) (e : Ev (μ.app ms) (h ++ ros) w μ' h1 w')
    (hid : ∀ (i : Nat) (rw : Bool) (c : C), i < h.length → h1[i]? = some (.at rw c) → ∀ p x, c.get? p = some x → x.ids = []) : Ev μ h w ⟨μ'.z, μ.l⟩ (h1.take h.length) w' := by
  obtain ⟨hz, ν, hν⟩ := e.pre
  have hν : μ'.l = (μ.l ++ ms) ++ ν := hν
  have h1len : h1.length = μ.l.length + ms.length + ν.length := by rw [← e.rel.len, hν]; simp only [List.length_append]
  have get : ∀ (i : Nat) (b : B), (h1.take h.length)[i]? = some b → i < h.length ∧ h1[i]? = some b := by
    intro i b hi
    rw [List.getElem?_take] at hi
    split at hi
    · exact ⟨‹_›, hi⟩
    · cases hi
  have getm : ∀ (i : Nat) (m : M), μ.l[i]? = some m → μ'.l[i]? = some m := by
    intro i m hi
    rw [hν, List.append_assoc, List.getElem?_append_left (getElem?_lt hi)]
    exact hi
  have hwr : ∀ k, Wr (μ.app ms) (h ++ ros) k → Wr μ h k := by
    rintro k ⟨i, m, c, hm, hb, hk⟩
    by_cases hi : i < h.length
    · rw [List.getElem?_append_left hi] at hb
      have hm : (μ.l ++ ms)[i]? = some m := hm
      rw [List.getElem?_append_left (by omega)] at hm
      exact ⟨i, m, c, hm, hb, hk⟩
    · rw [List.getElem?_append_right (by omega)] at hb
      exact absurd rfl (hro _ (List.mem_of_getElem? hb) c)
  have old : ∀ (j : Nat) (rw : Bool) (c : C), j < μ.l.length → h1[j]? = some (.at rw c) → ∃ d, h[j]? = some (.at rw d) ∧ (c.live rw → d.live rw) := by
    intro j rw c hj hb
    obtain ⟨d, hd, hl⟩ := e.old j rw c (by show j < (μ.l ++ ms).length; simp; omega) hb
    rw [List.getElem?_append_left (by omega)] at hd
    exact ⟨d, hd, hl⟩
  refine ⟨⟨by simp [h1len, hlen]; omega, ?_, ?_, ?_, ?_, ?_⟩, ⟨hz, [], by simp⟩, e.fr.mono hwr, ?_, ?_, ?_⟩
  · intro i m rw c hm hb p x hx
    obtain ⟨hi, hb⟩ := get i _ hb
    obtain ⟨cv, h2, h3⟩ := e.rel.cell i m rw c (getm i m hm) hb p x hx
    exact ⟨cv, h2, RepA.noids (μ := μ') (μ' := ⟨μ'.z, μ.l⟩) (Zle.refl μ'.z) (hid i rw c hi hb p x hx) h3⟩
  · intro i m c hm hb
    exact e.rel.own i m c (getm i m hm) (get i _ hb).2
  · intro i m rw c hm hb hl
    exact e.rel.lt i m rw c (getm i m hm) (get i _ hb).2 hl
  · intro i j m n c rw d hij hm hn hb hd hl
    exact e.rel.sep i j m n c rw d hij (getm i m hm) (getm j n hn) (get i _ hb).2 (get j _ hd).2 hl
  · intro k cur hk
    exact ⟨(e.rel.fz k cur hk).1, fun i m c hm hb => (e.rel.fz k cur hk).2 i m c (getm i m hm) (get i _ hb).2⟩
  · intro j rw c hj hb
    exact old j rw c hj (get j _ hb).2
  · intro i m rw c hi hm _
    have := getElem?_lt hm
    dsimp only at this
    omega
  · intro k cur hk
    exact (e.zn k cur hk).imp id (Or.imp (hwr k) id)
theorem Ev.weak {μ μ' : Mu} {h h' : H} {w w' : World} (e : Ev μ h w μ' h' w') {k : Nat} {rw : Bool} {c c' : C} (hb : h'[k]? = some (.at rw c)) (hes : c'.esz = c.esz)
    (hc : ∀ m, μ'.l[k]? = some m → ∀ p x, c'.get? p = some x → ∃ y, c.get? p = some y ∧ ∀ cv, RepA μ' y cv → RepA μ' x cv) : Ev μ h w μ' (h'.set k (.at rw c')) w' := by
  have hk : k < h'.length := getElem?_lt hb
  have get : ∀ (j : Nat) (rw' : Bool) (d : C), (h'.set k (.at rw c'))[j]? = some (.at rw' d) → (j = k ∧ rw' = rw ∧ d = c') ∨ (h'[j]? = some (.at rw' d)) := by
    intro j rw' d hj
    by_cases e : k = j
    · subst e
      rw [List.getElem?_set_self hk] at hj
      cases hj
      exact .inl ⟨rfl, rfl, rfl⟩
    · rw [List.getElem?_set_ne e] at hj
      exact .inr hj
  have lv : ∀ m, μ'.l[k]? = some m → c'.live rw → c.live rw := fun m hm hl => hl.imp id fun ⟨p, x, hx⟩ => (hc m hm p x hx).elim fun y hy => ⟨p, y, hy.1⟩
  refine ⟨⟨by simpa using e.rel.len, ?_, ?_, ?_, ?_, ?_⟩, e.pre, e.fr, ?_, ?_, e.zn⟩
  · intro j m rw' d hm hd p x hx
    rcases get j rw' d hd with ⟨rfl, rfl, rfl⟩ | hd
    · obtain ⟨y, h1, h2⟩ := hc m hm p x hx
      obtain ⟨cv, h3, h4⟩ := e.rel.cell j m rw' c hm hb p y h1
      exact ⟨cv, h3, h2 cv h4⟩
    · exact e.rel.cell j m rw' d hm hd p x hx
  · intro j m d hm hd
    rcases get j _ d hd with ⟨rfl, h1, rfl⟩ | hd
    · subst h1
      rw [hes]
      exact e.rel.own j m c hm hb
    · exact e.rel.own j m d hm hd
  · intro j m rw' d hm hd hl
    rcases get j rw' d hd with ⟨rfl, rfl, rfl⟩ | hd
    · exact e.rel.lt j m rw' c hm hb (lv m hm hl)
    · exact e.rel.lt j m rw' d hm hd hl
  · intro i j m n d rw' d' hij hm hn hd hd' hl
    rcases get j rw' d' hd' with ⟨e1, e2, e3⟩ | hd2
    · subst e1; subst e2; subst e3
      rcases get i _ d hd with ⟨h1, _, _⟩ | hd1
      · exact absurd h1 hij
      · exact e.rel.sep i j m n d rw' c hij hm hn hd1 hb (lv n hn hl)
    · rcases get i _ d hd with ⟨e1, e2, e3⟩ | hd1
      · subst e1; subst e2; subst e3
        exact e.rel.sep i j m n c rw' d' hij hm hn hb hd2 hl
      · exact e.rel.sep i j m n d rw' d' hij hm hn hd1 hd2 hl
  · intro b cur hk'
    refine ⟨(e.rel.fz b cur hk').1, fun j m d hm hd => ?_⟩
    rcases get j _ d hd with ⟨rfl, h1, rfl⟩ | hd
    · subst h1
      exact (e.rel.fz b cur hk').2 j m c hm hb
    · exact (e.rel.fz b cur hk').2 j m d hm hd
  · intro j rw' d hj hd
    rcases get j rw' d hd with ⟨rfl, rfl, rfl⟩ | hd
    · obtain ⟨d', h1, h2⟩ := e.old j rw' c hj hb
      have hjl : j < μ'.l.length := by rw [e.rel.len]; exact hk
      exact ⟨d', h1, fun h => h2 (lv _ (List.getElem?_eq_getElem hjl) h)⟩
    · exact e.old j rw' d hj hd
  · intro j m rw' d hj hm hd
    rcases get j rw' d hd with ⟨rfl, rfl, rfl⟩ | hd
    · exact e.new j m rw' c hj hm hb
    · exact e.new j m rw' d hj hm hd
end Go.Proofs.Ytbhfjdlhhjeknaa.Ab

namespace Go.Proofs.Ytbhfjdlhhjeknaa.Ab
set_option linter.unusedVariables false
set_option linter.unusedSimpArgs false
open Go
theorem loop_wf {R σ : Type} (L : Nat → σ → Option R) (inv : σ → Prop) (mu : σ → Nat) (Good : Option R → Prop)
    (hs : ∀ M s, inv s → Good (L (M + 1) s) ∨ ∃ s', inv s' ∧ mu s' < mu s ∧ L (M + 1) s = L M s') : ∀ k s, inv s → mu s ≤ k → ∀ M, Good (L (k + 1 + M) s) := by
  intro k
  induction k with
  | zero =>
    intro s hi hm M
    rw [show 0 + 1 + M = M + 1 by omega]
    rcases hs M s hi with h | ⟨s', _, h2, _⟩
    · exact h
    · omega
  | succ k ih =>
    intro s hi hm M
    rw [show k + 1 + 1 + M = (k + 1 + M) + 1 by omega]
    rcases hs (k + 1 + M) s hi with h | ⟨s', h1, h2, h3⟩
    · exact h
    · rw [h3]
      exact ih s' h1 (by omega) M
theorem loop_fuel {R σ : Type} (L : Nat → σ → Option R) (inv : σ → Prop) (mu : σ → Nat) (Good : Option R → Prop)
    (hs : ∀ M s, inv s → Good (L (M + 1) s) ∨ ∃ s', inv s' ∧ mu s' < mu s ∧ L (M + 1) s = L M s') {s : σ} (hi : inv s) {N : Nat} (hN : mu s < N) : Good (L N s) := by
  have := loop_wf L inv mu Good hs (mu s) s hi (Nat.le_refl _) (N - (mu s + 1))
  rwa [show mu s + 1 + (N - (mu s + 1)) = N by omega] at this
theorem okD.tail {d : Int} {D : List Int} (h : okD (d :: D)) : okD D := fun x hx => h x (List.mem_cons_of_mem _ hx)
theorem okD.head {d : Int} {D : List Int} (h : okD (d :: D)) : 0 ≤ d ∧ d < 4294967296 := h d (List.mem_cons_self ..)
theorem okD.get {D : List Int} (h : okD D) {i : Nat} {x : Int} (e : D[i]? = some x) : 0 ≤ x ∧ x < 4294967296 := h x (List.mem_of_getElem? e)
theorem okD.set {D : List Int} (h : okD D) (i : Nat) {x : Int} (hx : 0 ≤ x ∧ x < 4294967296) : okD (D.set i x) := by
  intro y hy
  rcases List.mem_or_eq_of_mem_set hy with h1 | h1
  · exact h y h1
  · rw [h1]; exact hx
theorem okD.snoc {D : List Int} (h : okD D) {x : Int} (hx : 0 ≤ x ∧ x < 4294967296) : okD (D ++ [x]) := by
  intro y hy
  rcases List.mem_append.1 hy with h1 | h1
  · exact h y h1
  · simp at h1; rw [h1]; exact hx
theorem okD.take {D : List Int} (h : okD D) (n : Nat) : okD (D.take n) := fun x hx => h x (List.mem_of_mem_take hx)
theorem okD.zeros (n : Nat) : okD (List.replicate n 0) := by
  intro x hx
  have := List.eq_of_mem_replicate hx
  omega
theorem nv_zeros : ∀ n, nv (List.replicate n 0) = 0
  | 0 => rfl
  | n + 1 => by rw [List.replicate_succ]; simp [nv, nv_zeros n]
theorem bpow_pos (i : Nat) : 0 < 4294967296 ^ i := Nat.pow_pos (by decide)
theorem nv_lt : ∀ {D : List Int}, okD D → nv D < 4294967296 ^ D.length
  | [], _ => by simp [nv]
  | d :: D, h => by
    have h1 := nv_lt h.tail
    have h2 := h.head
    simp only [nv, List.length_cons, Nat.pow_succ]
    omega
theorem nv_append : ∀ (D E : List Int), nv (D ++ E) = nv D + 4294967296 ^ D.length * nv E
  | [], E => by simp [nv]
  | d :: D, E => by
    simp only [List.cons_append, nv, nv_append D E, List.length_cons, Nat.pow_succ, Nat.mul_add]
    rw [Nat.mul_comm (4294967296 ^ D.length) 4294967296, Nat.mul_assoc]
    omega
theorem nv_snoc (D : List Int) (x : Int) : nv (D ++ [x]) = nv D + 4294967296 ^ D.length * x.toNat := by
  rw [nv_append]
  simp [nv]
theorem nv_set : ∀ {D : List Int} {i : Nat} {x : Int}, D[i]? = some x → ∀ d : Int, nv (D.set i d) + 4294967296 ^ i * x.toNat = nv D + 4294967296 ^ i * d.toNat
  | [], i, x, h, d => by simp at h
  | y :: D, 0, x, h, d => by
    simp at h
    subst h
    simp only [List.set_cons_zero, nv, Nat.pow_zero, Nat.one_mul]
    omega
  | y :: D, i + 1, x, h, d => by
    have h1 := nv_set (D := D) (i := i) (x := x) (by simpa using h) d
    simp only [List.set_cons_succ, nv, Nat.pow_succ]
    have h2 := congrArg (4294967296 * ·) h1
    simp only [Nat.mul_add] at h2
    have e : ∀ z, 4294967296 ^ i * 4294967296 * z = 4294967296 * (4294967296 ^ i * z) := fun z => by rw [Nat.mul_comm (4294967296 ^ i) 4294967296, Nat.mul_assoc]
    rw [e, e]
    omega
theorem nv_get : ∀ {D : List Int} {i : Nat}, okD D → i < D.length → D[i]? = some ((nv D / 4294967296 ^ i % 4294967296 : Nat) : Int)
  | [], i, _, h => by simp at h
  | d :: D, 0, h, _ => by
    have := h.head
    simp only [List.getElem?_cons_zero, nv, Nat.pow_zero, Nat.div_one, Option.some.injEq]
    omega
  | d :: D, i + 1, h, hi => by
    have h1 := nv_get h.tail (i := i) (by simpa using hi)
    have h2 := h.head
    simp only [List.getElem?_cons_succ, nv]
    rw [h1, Nat.pow_succ, Nat.mul_comm (4294967296 ^ i) 4294967296, ← Nat.div_div_eq_div_mul]
    rw [show (d.toNat + 4294967296 * nv D) / 4294967296 = nv D by omega]
def dgt (v i : Nat) : Nat := v / 4294967296 ^ i % 4294967296
theorem dgt_lt (v i : Nat) : dgt v i < 4294967296 := Nat.mod_lt _ (by decide)
theorem nv_dgt {D : List Int} {i : Nat} {x : Int} (h : okD D) (e : D[i]? = some x) : x = ((dgt (nv D) i : Nat) : Int) := by
  have := nv_get h (getElem?_lt e)
  rw [e] at this
  exact Option.some.inj this
theorem dgt_high {v i k : Nat} (h : v < 4294967296 ^ k) (hi : k ≤ i) : dgt v i = 0 := by
  unfold dgt
  have : 4294967296 ^ k ≤ 4294967296 ^ i := Nat.pow_le_pow_right (by decide) hi
  rw [Nat.div_eq_of_lt (by omega), Nat.zero_mod]
theorem mod_succ (v i : Nat) : v % 4294967296 ^ (i + 1) = v % 4294967296 ^ i + 4294967296 ^ i * dgt v i := by
  rw [Nat.pow_succ, Nat.mod_mul]
  rfl
theorem mod_all {v i k : Nat} (h : v < 4294967296 ^ k) (hi : k ≤ i) : v % 4294967296 ^ i = v := by
  have : 4294967296 ^ k ≤ 4294967296 ^ i := Nat.pow_le_pow_right (by decide) hi
  exact Nat.mod_eq_of_lt (by omega)
theorem nv_take_drop (D : List Int) (k : Nat) (hk : k ≤ D.length) : nv D = nv (D.take k) + 4294967296 ^ k * nv (D.drop k) := by
  have h := nv_append (D.take k) (D.drop k)
  rw [List.take_append_drop, List.length_take, Nat.min_eq_left hk] at h
  exact h
theorem nv_take {D : List Int} (h : okD D) (k : Nat) (hk : k ≤ D.length) : nv (D.take k) = nv D % 4294967296 ^ k := by
  have h1 := nv_take_drop D k hk
  have h2 := nv_lt (h.take k)
  rw [List.length_take, Nat.min_eq_left hk] at h2
  rw [h1, Nat.add_mul_mod_self_left, Nat.mod_eq_of_lt h2]
theorem drop_set {D : List Int} {i k : Nat} (h : i < k) (x : Int) : (D.set i x).drop k = D.drop k := by
  rw [List.drop_set]
  simp [h]
theorem drop_zero {D : List Int} {k i : Nat} {x : Int} (hd : okD D) (h : nv (D.drop k) = 0) (hi : k ≤ i) (e : D[i]? = some x) : x = 0 := by
  have hk : k ≤ D.length := by have := getElem?_lt e; omega
  have h1 := nv_take_drop D k hk
  have h2 := nv_lt (hd.take k)
  rw [List.length_take, Nat.min_eq_left hk] at h2
  rw [h, Nat.mul_zero, Nat.add_zero] at h1
  have h3 := nv_dgt hd e
  rw [dgt_high (k := k) (by omega) hi] at h3
  exact h3
theorem drop_le {D : List Int} {k j : Nat} (h : nv (D.drop k) = 0) (hk : k ≤ j) (hj : j ≤ D.length) : nv (D.drop j) = 0 := by
  have h1 := nv_take_drop (D.drop k) (j - k) (by simp; omega)
  rw [h, List.drop_drop, show k + (j - k) = j by omega] at h1
  have h2 := bpow_pos (j - k)
  rcases Nat.mul_eq_zero.1 (show 4294967296 ^ (j - k) * nv (D.drop j) = 0 by omega) with h3 | h3
  · omega
  · exact h3
def dg : Nat → Nat → List Int
  | 0, _ => []
  | k + 1, v => ((v % 4294967296 : Nat) : Int) :: dg k (v / 4294967296)
theorem dg_len : ∀ k v, (dg k v).length = k
  | 0, _ => rfl
  | k + 1, v => by simp [dg, dg_len k]
theorem dg_ok : ∀ k v, okD (dg k v)
  | 0, _ => fun x hx => by cases hx
  | k + 1, v => fun x hx => by
    rcases List.mem_cons.1 hx with h | h
    · omega
    · exact dg_ok k _ x h
theorem nv_dg : ∀ k v, nv (dg k v) = v % 4294967296 ^ k
  | 0, v => by simp [dg, nv, Nat.mod_one]
  | k + 1, v => by
    simp only [dg, nv, nv_dg k]
    rw [Nat.pow_succ, Nat.mul_comm (4294967296 ^ k) 4294967296, Nat.mod_mul]
    omega
theorem dg_get {k v i : Nat} (h : i < k) : (dg k v)[i]? = some ((dgt v i : Nat) : Int) := by
  have h1 := nv_get (dg_ok k v) (i := i) (by rw [dg_len]; exact h)
  rw [h1, nv_dg]
  unfold dgt
  have h2 : 4294967296 ^ k = 4294967296 ^ i * (4294967296 ^ (k - i - 1) * 4294967296) := by rw [← Nat.pow_succ, ← Nat.pow_add]; congr 1; omega
  rw [h2, Nat.mod_mul_right_div_self, Nat.mul_comm (4294967296 ^ (k - i - 1)) 4294967296, Nat.mod_mul_right_mod]
theorem eq_dg : ∀ {D : List Int}, okD D → D = dg D.length (nv D)
  | [], _ => rfl
  | d :: D, h => by
    have h1 := h.head
    simp only [List.length_cons, dg, nv]
    rw [show (d.toNat + 4294967296 * nv D) / 4294967296 = nv D by omega, ← eq_dg h.tail]
    congr 1
    omega
theorem trim_ge {D : List Int} (hd : okD D) (hl : D.getLast? ≠ some 0) (hn : 0 < D.length) : 4294967296 ^ (D.length - 1) ≤ nv D := by
  obtain ⟨x, hx⟩ : ∃ x, D[D.length - 1]? = some x := ⟨_, List.getElem?_eq_getElem (by omega)⟩
  have h1 : x ≠ 0 := by
    intro e
    rw [List.getLast?_eq_getElem?, hx, e] at hl
    exact hl rfl
  have h2 := nv_dgt hd hx
  apply Nat.le_of_not_lt
  intro h3
  rw [dgt_high h3 (Nat.le_refl _)] at h2
  exact h1 h2
theorem trim_len {D : List Int} (hd : okD D) (hl : D.getLast? ≠ some 0) {k : Nat} (h : nv D < 4294967296 ^ k) : D.length ≤ k := by
  apply Nat.le_of_not_lt
  intro h1
  have h2 := trim_ge hd hl (by omega)
  have h3 : 4294967296 ^ k ≤ 4294967296 ^ (D.length - 1) := Nat.pow_le_pow_right (by decide) (by omega)
  omega
theorem wrap32 (n : Nat) : IntKind.u32.wrap (n : Int) = ((n % 4294967296 : Nat) : Int) := by
  simp [IntKind.wrap, IntKind.signed, IntKind.bits]
theorem wrap64 {n : Nat} (h : n < 18446744073709551616) : IntKind.u64.wrap (n : Int) = (n : Int) := by
  simp only [IntKind.wrap, IntKind.signed, IntKind.bits]
  first | omega | (simp; omega)
theorem shr32 (x : Nat) : Int.fdiv (x : Int) (2 ^ 32) = ((x / 4294967296 : Nat) : Int) := by
  rw [Int.fdiv_eq_ediv_of_nonneg _ (by decide)]
  rfl
theorem mulB {x y : Nat} (hx : x < 4294967296) (hy : y < 4294967296) : x * y ≤ 18446744065119617025 := by
  have := Nat.mul_le_mul (show x ≤ 4294967295 by omega) (show y ≤ 4294967295 by omega)
  omega
theorem FnT.runs {f : FuncId} {fn : Func} {code : Code} {fns : Fns} (hfn : ∀ f, FnT Try.prog f (fns f)) (hf : Try.prog.funcs[f]? = some fn) (hb : fn.body = some code) (hn : (fn.name == "runtime.NumGoroutine") = false) (an : Ann) (N : Nat) :
    FnT Try.prog f (fun vs h => T.of (run ty fns an N fn vs h)) :=
  fnT hfn hf hb hn an fun vs h v h' e => ⟨N, by rw [T.run_of] at e; exact e⟩
theorem open2 {μ : Mu} {w : World} {D E : List Int} {c1 c2 : Value} (hr : Rel μ [] w) (h1 : SlZ μ.z D c1) (h2 : SlZ μ.z E c2) :
    ∃ m1 m2, RoF μ.z m1 D ∧ RoF μ.z m2 E ∧ Rel (μ.app [m1, m2]) [.at false (.int .u32 D), .at false (.int .u32 E)] w ∧ RepVs (μ.app [m1, m2]) [.ro 0 D.length, .ro 1 E.length] [c1, c2] := by
  obtain ⟨m1, f1, r1, a1⟩ := hr.thaw h1
  obtain ⟨m2, f2, r2, a2⟩ := r1.thaw h2
  refine ⟨m1, m2, f1, f2, ?_, ?_⟩
  · have e : (μ.app [m1]).app [m2] = μ.app [m1, m2] := by simp [Mu.app]
    rw [e] at r2
    exact r2
  · have e : (μ.app [m1]).app [m2] = μ.app [m1, m2] := by simp [Mu.app]
    rw [e] at a2
    refine ⟨?_, a2, trivial⟩
    have a1 : RepA (μ.app [m1]) (.ro 0 D.length) c1 := a1
    have hp : Pre (μ.app [m1]) (μ.app [m1, m2]) := ⟨.refl _, [m2], by show μ.l ++ [m1, m2] = (μ.l ++ [m1]) ++ [m2]; rw [List.append_assoc]; rfl⟩
    exact RepA.pre hp a1
def gBig2 (F : Nat → Nat → Nat) (pre : Nat → Nat → Bool) : GT := fun vs h => match vs, h with
  | [.u (.a (.big v)), .u (.a (.big w))], [] => .ite (pre v w) (.ret (.u (.a (.dig (F v w)))) []) .no
  | _, _ => .no
theorem rep_two {μ : Mu} {u v : V} {cvs : List Value} (h : RepVs μ [u, v] cvs) : ∃ c d, cvs = [c, d] ∧ RepV μ u c ∧ RepV μ v d := by
  cases cvs with
  | nil => exact h.elim
  | cons c cs =>
    cases cs with
    | nil => exact h.2.elim
    | cons d ds =>
      cases ds with
      | nil => exact ⟨c, d, rfl, h.1, h.2.1⟩
      | cons _ _ => exact h.2.2.elim
theorem FnT.big2 {f : FuncId} {fn : Func} {code : Code} {fns : Fns} (hfn : ∀ f, FnT Try.prog f (fns f)) (hf : Try.prog.funcs[f]? = some fn) (hb : fn.body = some code) (hn : (fn.name == "runtime.NumGoroutine") = false) (an : Ann)
    (F : Nat → Nat → Nat) (pre : Nat → Nat → Bool)
    (H : ∀ D E, okD D → okD E → D.getLast? ≠ some 0 → E.getLast? ≠ some 0 → pre (nv D) (nv E) = true → ∃ N A, run ty fns an N fn [.ro 0 D.length, .ro 1 E.length] [.at false (.int .u32 D), .at false (.int .u32 E)] =
      some (.sl 2 0 A.length, [.at false (.int .u32 D), .at false (.int .u32 E), .at true (.int .u32 A)]) ∧ okD A ∧ nv A = F (nv D) (nv E)) : FnT Try.prog f (gBig2 F pre) := by
  intro vs hp v h' e μ w cvs hr hv
  unfold gBig2 at e
  split at e
  case h_2 => exact (T.no_inv e).elim
  rename_i a b
  obtain ⟨hpre, e⟩ := T.pre_inv e
  obtain ⟨rfl, rfl⟩ := T.ret_inv e
  obtain ⟨c1, c2, rfl, ⟨D, hD, rfl, hDl, hDs⟩, ⟨E, hE, rfl, hEl, hEs⟩⟩ := rep_two hv
  obtain ⟨m1, m2, f1, f2, r2, a2⟩ := open2 hr hDs hEs
  obtain ⟨N, A, hrun, hA, hF⟩ := H D E hD hE hDl hEl hpre
  refine (FnT.runs hfn hf hb hn an N _ _ (.sl 2 0 A.length) [.at false (.int .u32 D), .at false (.int .u32 E), .at true (.int .u32 A)] (by rw [T.run_of]; exact hrun) _ w _ r2 a2).mono fun cv w' ⟨μ', he, hcv⟩ => ?_
  have hl : 2 < μ'.l.length := by have := he.rel.len; simp at this; omega
  obtain ⟨z, z1, z2, z3⟩ := he.freeze (k := 2) (List.getElem?_eq_getElem hl) rfl
  have hcv : RepA ⟨z, μ'.l⟩ (.sl 2 0 A.length) cv := RepA.pre ⟨z1, [], by simp⟩ hcv
  have hs := slz_sl (μ := ⟨z, μ'.l⟩) (List.getElem?_eq_getElem hl) z2 (Nat.le_refl _) hcv
  rw [List.take_length] at hs
  have h0 : μ.l.length = 0 := by rw [hr.len]; rfl
  refine ⟨_, Ev.cut (h := []) (ros := [.at false (.int .u32 D), .at false (.int .u32 E)]) (ms := [m1, m2]) (by rw [h0]; rfl) rfl (fun b hb c => ?_) z3 (fun i rw c hi => absurd hi (by simp)), A, hA, hF, hs⟩
  simp at hb
  rcases hb with rfl | rfl <;> simp
end Go.Proofs.Ytbhfjdlhhjeknaa.Ab

namespace Go.Proofs.Ytbhfjdlhhjeknaa.Ab
set_option linter.unusedVariables false
set_option linter.unusedSimpArgs false
open Go
def lowB (v : Nat) : Bool := decide (v < 4294967296 ^ 8)
theorem lowB_len {D : List Int} (hd : okD D) (hl : D.getLast? ≠ some 0) (h : lowB (nv D) = true) : D.length ≤ 8 := trim_len hd hl (of_decide_eq_true h)
theorem drop_lt {D : List Int} {k : Nat} (h : nv D < 4294967296 ^ k) (hk : k ≤ D.length) : nv (D.drop k) = 0 := by
  have h1 := nv_take_drop D k hk
  rcases Nat.eq_zero_or_pos (nv (D.drop k)) with h2 | h2
  · exact h2
  · have := Nat.le_mul_of_pos_right (4294967296 ^ k) h2
    omega
theorem wz2 {i k : Nat} (h : i + k < 2147483648) : IntKind.i64.wrap ((i : Int) + (k : Int)) = ((i + k : Nat) : Int) := by
  rw [wrap_s (by omega) (by omega)]; omega
def GoodD (D E : List Int) (v : Nat) (o : Option (V × H)) : Prop := ∃ A, o = some (.sl 2 0 A.length, [.at false (.int .u32 D), .at false (.int .u32 E), .at true (.int .u32 A)]) ∧ okD A ∧ nv A = v
theorem nat_get {D : List Int} (h : okD D) {i : Nat} (hi : i < D.length) : ∃ x : Nat, D[i]? = some (x : Int) ∧ x < 4294967296 ∧ x = dgt (nv D) i :=
  ⟨dgt (nv D) i, nv_get h hi, dgt_lt _ _, rfl⟩
def an_mulD : Ann := ⟨fun r => if r = 3 then some ([1, 5, 17, 18, 19], [5]) else if r = 7 then some ([1, 5, 6, 7, 8, 17, 18, 19, 24, 25, 26], [1, 5, 6, 8, 17, 18, 19]) else none, fun _ _ => .quiet⟩
def tab_mulD : Fns := tabT []
theorem tabok_mulD : ∀ f, FnT Try.prog f (tab_mulD f) := tabT_nil
def st_mulD3 (t1n : Nat) (t5n : Nat) (t17n : Nat) (t18 : Int) (t19 : Int) (l0 : List Int) (l1 : List Int) (l2 : List Int) : St := ⟨(.any :: .ro 1 t1n :: .any :: .any :: .any :: .sl 2 0 t5n :: (anys 11 (.ro 0 t17n :: .int .i64 t18 :: .int .i64 t19 :: (anys 46 [])))), [.at false (.int .u32 l0), .at false (.int .u32 l1), .at true (.int .u32 l2)]⟩
abbrev kp_mulD3 : Option (List Nat × List Nat) := some ([1, 5, 17, 18, 19], [5])
noncomputable def lp_mulD3 {R : Type} (N M : Nat) (s : St) (K : X → St → Option R) : Option R := loopH 2 kp_mulD3 (fun st K => exec ty tab_mulD an_mulD N 2 (atOf [true, true, false, true, false, false] Try.f161) st K) M s K
noncomputable def bk_mulD3 {R : Type} (N M : Nat) (K : X → St → Option R) : X → St → Option R := fun x st => match x with | .norm => tidyK 2 (kp_mulD3.map (·.1)) st fun st => lp_mulD3 N M st K | x => tidyK 2 (kp_mulD3.map (·.2)) st fun st => K x st
noncomputable def kt_mulD3 {R : Type} (N : Nat) (K : X → St → Option R) : X → St → Option R := kBlkR 0 (kSeqR tab_mulD an_mulD N 2 (atOf [true, true, true] Try.f161) (K))
def st_mulD7 (t1n : Nat) (t5n : Nat) (t6 : Int) (t7 : Int) (t8 : Int) (t17n : Nat) (t18 : Int) (t25 : Int) (t26 : Int) (l0 : List Int) (l1 : List Int) (l2 : List Int) : St := ⟨(.any :: .ro 1 t1n :: .any :: .any :: .any :: .sl 2 0 t5n :: .int .i64 t6 :: .int .u32 t7 :: .int .u64 t8 :: (anys 8 (.ro 0 t17n :: .int .i64 t18 :: .int .i64 t6 :: .any :: .any :: .any :: .any :: .ro 1 t1n :: .int .i64 t25 :: .int .i64 t26 :: (anys 39 [])))), [.at false (.int .u32 l0), .at false (.int .u32 l1), .at true (.int .u32 l2)]⟩
abbrev kp_mulD7 : Option (List Nat × List Nat) := some ([1, 5, 6, 7, 8, 17, 18, 19, 24, 25, 26], [1, 5, 6, 8, 17, 18, 19])
noncomputable def lp_mulD7 {R : Type} (N M : Nat) (s : St) (K : X → St → Option R) : Option R := loopH 2 kp_mulD7 (fun st K => exec ty tab_mulD an_mulD N 2 (atOf [true, true, false, true, false, false, true, true, false, false, true, true, false, true, false, false] Try.f161) st K) M s K
noncomputable def kt_mulD7 {R : Type} (N : Nat) (K : X → St → Option R) : X → St → Option R := kBlkR 2 (kSeqR tab_mulD an_mulD N 2 (atOf [true, true, false, true, false, false, true, true, false, false, true, true, true] Try.f161) (kBlkR 1 (kSeqR tab_mulD an_mulD N 2 (atOf [true, true, false, true, false, false, true, true, true] Try.f161) (K))))
def en_mulD3_0 (t5n : Nat) (l0 : List Int) (l1 : List Int) (l2 : List Int) : St := ⟨(.any :: .any :: .any :: .any :: .any :: .sl 2 0 t5n :: (anys 60 [])), [.at false (.int .u32 l0), .at false (.int .u32 l1), .at true (.int .u32 l2)]⟩
def en_mulD7_0 (t1n : Nat) (t5n : Nat) (t6 : Int) (t8 : Int) (t17n : Nat) (t18 : Int) (l0 : List Int) (l1 : List Int) (l2 : List Int) : St := ⟨(.any :: .ro 1 t1n :: .any :: .any :: .any :: .sl 2 0 t5n :: .int .i64 t6 :: .any :: .int .u64 t8 :: (anys 8 (.ro 0 t17n :: .int .i64 t18 :: .int .i64 t6 :: (anys 46 [])))), [.at false (.int .u32 l0), .at false (.int .u32 l1), .at true (.int .u32 l2)]⟩
theorem run_mulD (N : Nat) (n : Nat) (m : Nat) (A : List Int) (B : List Int) : run ty tab_mulD an_mulD N Try.f161 [.ro 0 n, .ro 1 m] [.at false (.int .u32 A), .at false (.int .u32 B)]
    = (match decide (0 ≤ (IntKind.i64.wrap (((n : Nat) : Int) + ((m : Nat) : Int)) : Int) ∧ (IntKind.i64.wrap (((n : Nat) : Int) + ((m : Nat) : Int)) : Int) ≤ (IntKind.i64.wrap (((n : Nat) : Int) + ((m : Nat) : Int))) ∧ (IntKind.i64.wrap (((n : Nat) : Int) + ((m : Nat) : Int)) : Int) ≤ 9223372036854775807 ∧ (IntKind.i64.wrap (((n : Nat) : Int) + ((m : Nat) : Int)) : Int).toNat * 4 ≤ 140737488355328 ∧ 0 < 1 ∧ 1 = 1) with | true => lp_mulD3 N N (st_mulD3 m ((IntKind.i64.wrap (((n : Nat) : Int) + ((m : Nat) : Int)) : Int).toNat) n ((n : Nat) : Int) 0 A B (List.replicate ((IntKind.i64.wrap (((n : Nat) : Int) + ((m : Nat) : Int)) : Int).toNat) (0 : Int))) (kt_mulD3 N (kEnd Try.f161 2)) | false => none) := by
  kernel_rfl
theorem step_mulD3 {R : Type} (N M : Nat) (K : X → St → Option R) (t1n : Nat) (t5n : Nat) (t17n : Nat) (t18 : Int) (t19 : Int) (l0 : List Int) (l1 : List Int) (l2 : List Int) : lp_mulD3 N (M + 1) (st_mulD3 t1n t5n t17n t18 t19 l0 l1 l2) K
    = (match decide ((t19 : Int) < t18) with | true => (match decide (0 ≤ (t19 : Int) ∧ (t19 : Int) < ((t17n : Nat) : Int)) with | true => (match l0[0 + (t19).toNat * 1]? with | some e1 => lp_mulD7 N N (st_mulD7 t1n t5n t19 e1 0 t17n t18 ((t1n : Nat) : Int) 0 l0 l1 l2) (kt_mulD7 N (bk_mulD3 N M K)) | none => none) | false => none) | false => K (.exit 0) (en_mulD3_0 t5n l0 l1 l2)) := by
  kernel_rfl
theorem step_mulD7 {R : Type} (N M : Nat) (K : X → St → Option R) (t1n : Nat) (t5n : Nat) (t6 : Int) (t7 : Int) (t8 : Int) (t17n : Nat) (t18 : Int) (t25 : Int) (t26 : Int) (l0 : List Int) (l1 : List Int) (l2 : List Int) : lp_mulD7 N (M + 1) (st_mulD7 t1n t5n t6 t7 t8 t17n t18 t25 t26 l0 l1 l2) K
    = (match decide ((t26 : Int) < t25) with | true => (match decide (0 ≤ (t26 : Int) ∧ (t26 : Int) < ((t1n : Nat) : Int)) with | true => (match l1[0 + (t26).toNat * 1]? with | some e1 => (match decide (0 ≤ (IntKind.i64.wrap (t6 + t26) : Int) ∧ (IntKind.i64.wrap (t6 + t26) : Int) < ((t5n : Nat) : Int)) with | true => (match l2[0 + (IntKind.i64.wrap (t6 + t26)).toNat * 1]? with | some e2 => (match decide (0 ≤ (IntKind.i64.wrap (t6 + t26) : Int) ∧ (IntKind.i64.wrap (t6 + t26) : Int) < ((t5n : Nat) : Int)) with | true => (match decide (0 + (IntKind.i64.wrap (t6 + t26)).toNat * 1 < l2.length) with | true => lp_mulD7 N M (st_mulD7 t1n t5n t6 t7 (Int.fdiv (IntKind.u64.wrap (t8 + (IntKind.u64.wrap ((IntKind.u64.wrap ((IntKind.u64.wrap t7) * (IntKind.u64.wrap e1))) + (IntKind.u64.wrap e2))))) (2 ^ 32)) t17n t18 t25 (IntKind.i64.wrap (t26 + 1)) l0 l1 (l2.set (0 + (IntKind.i64.wrap (t6 + t26)).toNat * 1) (IntKind.u32.wrap (IntKind.u64.wrap (t8 + (IntKind.u64.wrap ((IntKind.u64.wrap ((IntKind.u64.wrap t7) * (IntKind.u64.wrap e1))) + (IntKind.u64.wrap e2)))))))) K | false => none) | false => none) | none => none) | false => none) | none => none) | false => none) | false => K (.exit 2) (en_mulD7_0 t1n t5n t6 t8 t17n t18 l0 l1 l2)) := by
  kernel_rfl
theorem end_mulD3_0 (N : Nat) (t5n : Nat) (l0 : List Int) (l1 : List Int) (l2 : List Int) : kt_mulD3 N (kEnd Try.f161 2) (.exit 0) (en_mulD3_0 t5n l0 l1 l2)
    = some (.sl 2 0 t5n, [.at false (.int .u32 l0), .at false (.int .u32 l1), .at true (.int .u32 l2)]) := by
  kernel_rfl
theorem end_mulD7_0 {R : Type} (N M : Nat) (K : X → St → Option R) (t1n : Nat) (t5n : Nat) (t6 : Int) (t8 : Int) (t17n : Nat) (t18 : Int) (l0 : List Int) (l1 : List Int) (l2 : List Int) : kt_mulD7 N (bk_mulD3 N M K) (.exit 2) (en_mulD7_0 t1n t5n t6 t8 t17n t18 l0 l1 l2)
    = (match decide (0 ≤ (IntKind.i64.wrap (t6 + ((t1n : Nat) : Int)) : Int) ∧ (IntKind.i64.wrap (t6 + ((t1n : Nat) : Int)) : Int) < ((t5n : Nat) : Int)) with | true => (match decide (0 + (IntKind.i64.wrap (t6 + ((t1n : Nat) : Int))).toNat * 1 < l2.length) with | true => lp_mulD3 N M (st_mulD3 t1n t5n t17n t18 (IntKind.i64.wrap (t6 + 1)) l0 l1 (l2.set (0 + (IntKind.i64.wrap (t6 + ((t1n : Nat) : Int))).toNat * 1) (IntKind.u32.wrap t8))) K | false => none) | false => none) := by
  kernel_rfl
theorem mulD_step {a b x y P k B : Nat} {N N' c o t : Nat} (h : N + P * c = a + x * B * b) (ht : t = c + (x * y + o)) (hs : N' + P * o = N + P * (t % 4294967296)) (hp : P = B * k) (hb : P * 4294967296 * (t / 4294967296) = P * (4294967296 * (t / 4294967296))) : N' + P * 4294967296 * (t / 4294967296) = a + x * B * (b + k * y) := by
  have h1 : P * t = P * (t % 4294967296) + P * (4294967296 * (t / 4294967296)) := by rw [← Nat.mul_add, Nat.mod_add_div]
  have h2 : P * t = P * c + (P * (x * y) + P * o) := by rw [ht, Nat.mul_add, Nat.mul_add]
  have h3 : x * B * (b + k * y) = x * B * b + P * (x * y) := by
    rw [Nat.mul_add, hp]
    congr 1
    ac_rfl
  rw [hb]
  omega
theorem ok_mulD : FnT Try.prog 161 (gBig2 (fun v w => v * w) (fun v w => lowB v && lowB w)) := by
  refine FnT.big2 tabok_mulD Try.func161 rfl rfl an_mulD _ _ fun D E hD hE hDl hEl hp => ?_
  rw [Bool.and_eq_true] at hp
  have hn := lowB_len hD hDl hp.1
  have hm := lowB_len hE hEl hp.2
  have hDv := nv_lt hD
  have hEv := nv_lt hE
  refine ⟨20, ?_⟩
  show GoodD D E (nv D * nv E) _
  rw [run_mulD, wz2 (by omega), decide_eq_true (by omega)]
  dsimp only
  rw [Int.toNat_natCast]
  refine loop_fuel (fun M (s : Nat × List Int) => lp_mulD3 20 M (st_mulD3 E.length (D.length + E.length) D.length (D.length : Int) (s.1 : Int) D E s.2) (kt_mulD3 20 (kEnd Try.f161 2)))
    (fun s => s.1 ≤ D.length ∧ okD s.2 ∧ s.2.length = D.length + E.length ∧ nv s.2 = (nv D % 4294967296 ^ s.1) * nv E) (fun s => D.length - s.1) (GoodD D E (nv D * nv E)) (fun M s hs => ?_) (s := (0, List.replicate (D.length + E.length) 0)) ⟨Nat.zero_le _, .zeros _, by simp, by simp [nv_zeros, Nat.mod_one]⟩ (by show _ < 20; omega)
  obtain ⟨i, l⟩ := s
  obtain ⟨hi, hl, hlen, hv⟩ := hs
  dsimp only at hi hl hlen hv ⊢
  by_cases hlt : i < D.length
  · right
    obtain ⟨x, hx, hxb, hxd⟩ := nat_get hD hlt
    simp only [step_mulD3, dlt hlt, din hlt, ix, hx]
    refine loop_fuel (fun M' (s : Nat × Nat × List Int) => lp_mulD7 20 M' (st_mulD7 E.length (D.length + E.length) (i : Int) (x : Int) (s.2.1 : Int) D.length (D.length : Int) (E.length : Int) (s.1 : Int) D E s.2.2) (kt_mulD7 20 (bk_mulD3 20 M (kt_mulD3 20 (kEnd Try.f161 2)))))
      (fun s => s.1 ≤ E.length ∧ okD s.2.2 ∧ s.2.2.length = D.length + E.length ∧ s.2.1 < 4294967296 ∧ nv (s.2.2.drop (i + E.length)) = 0 ∧ nv s.2.2 + 4294967296 ^ (i + s.1) * s.2.1 = nv l + x * 4294967296 ^ i * (nv E % 4294967296 ^ s.1)) (fun s => E.length - s.1)
      (fun o => ∃ s' : Nat × List Int, (s'.1 ≤ D.length ∧ okD s'.2 ∧ s'.2.length = D.length + E.length ∧ nv s'.2 = (nv D % 4294967296 ^ s'.1) * nv E) ∧ D.length - s'.1 < D.length - i ∧ o = lp_mulD3 20 M (st_mulD3 E.length (D.length + E.length) D.length (D.length : Int) (s'.1 : Int) D E s'.2) (kt_mulD3 20 (kEnd Try.f161 2))) (fun M' s hs => ?_) (s := (0, 0, l)) ⟨Nat.zero_le _, hl, hlen, Nat.succ_pos _, ?_, by simp [Nat.mod_one]⟩ (by show _ < 20; omega)
    · obtain ⟨k, c, l2⟩ := s
      obtain ⟨hk, hl2, hlen2, hc, hz, hv2⟩ := hs
      dsimp only at hk hl2 hlen2 hc hz hv2 ⊢
      by_cases hkt : k < E.length
      · right
        obtain ⟨y, hy, hyb, hyd⟩ := nat_get hE hkt
        obtain ⟨o, ho, hob, _⟩ := nat_get hl2 (show i + k < l2.length by omega)
        have hxy := mulB hxb hyb
        have ht : IntKind.u64.wrap ((c : Int) + IntKind.u64.wrap (IntKind.u64.wrap (IntKind.u64.wrap (x : Int) * IntKind.u64.wrap (y : Int)) + IntKind.u64.wrap (o : Int))) = ((c + (x * y + o) : Nat) : Int) := by
          rw [wrap64 (n := x) (by omega), wrap64 (n := y) (by omega), wrap64 (n := o) (by omega), ← Int.natCast_mul, wrap64 (by omega), ← Int.natCast_add, wrap64 (by omega), ← Int.natCast_add, wrap64 (by omega)]
        refine ⟨(k + 1, (c + (x * y + o)) / 4294967296, l2.set (i + k) (((c + (x * y + o)) % 4294967296 : Nat) : Int)), ⟨by omega, hl2.set _ (by omega), by simpa using hlen2, ?_, ?_, ?_⟩, by dsimp only; omega, ?_⟩
        · dsimp only; omega
        · dsimp only; rw [drop_set (by omega)]; exact hz
        · dsimp only
          have h1 := nv_set ho (((c + (x * y + o)) % 4294967296 : Nat) : Int)
          rw [Int.toNat_natCast, Int.toNat_natCast] at h1
          rw [mod_succ, ← hyd, show i + (k + 1) = i + k + 1 by omega, Nat.pow_succ]
          exact mulD_step hv2 rfl h1 (Nat.pow_add _ _ _) (Nat.mul_assoc _ _ _)
        · simp only [step_mulD7, dlt hkt, din hkt, ix, hy, wz2 (show i + k < 2147483648 by omega), din (show i + k < D.length + E.length by omega), ho, decide_eq_true (show i + k < l2.length by omega), ht, wrap32, shr32, wr (show k < 2147483648 by omega)]
      · left
        have e : k = E.length := by omega
        subst e
        obtain ⟨o, ho, hob, _⟩ := nat_get hl2 (show i + E.length < l2.length by omega)
        have ho0 := drop_zero hl2 hz (Nat.le_refl _) ho
        refine ⟨(i + 1, l2.set (i + E.length) (c : Int)), ⟨by dsimp only; omega, hl2.set _ (by omega), by simpa using hlen2, ?_⟩, by dsimp only; omega, ?_⟩
        · dsimp only
          have h1 := nv_set ho (c : Int)
          rw [Int.toNat_natCast, Int.toNat_natCast, show o = 0 by omega, Nat.mul_zero, Nat.add_zero] at h1
          rw [h1, hv2, hv, mod_succ, ← hxd, mod_all hEv (Nat.le_refl _), Nat.add_mul]
          congr 1
          ac_rfl
        · simp only [step_mulD7, dge (Nat.le_refl _), end_mulD7_0, wz2 (show i + E.length < 2147483648 by omega), din (show i + E.length < D.length + E.length by omega), ix, decide_eq_true (show i + E.length < l2.length by omega), wrap32, Nat.mod_eq_of_lt hc, wr (show i < 2147483648 by omega)]
    · dsimp only
      refine drop_lt ?_ (by omega)
      rw [hv, Nat.pow_add]
      exact Nat.lt_of_le_of_lt (Nat.mul_le_mul_right _ (Nat.le_of_lt (Nat.mod_lt _ (bpow_pos i)))) (Nat.mul_lt_mul_of_pos_left hEv (bpow_pos i))
  · left
    have e : i = D.length := by omega
    subst e
    refine ⟨l, ?_, hl, by rw [hv, mod_all hDv (Nat.le_refl _)]⟩
    simp only [step_mulD3, dge (Nat.le_refl _), end_mulD3_0, hlen]
def an_addD : Ann := ⟨fun r => if r = 3 then some ([0, 1, 5, 6, 7], [5]) else none, fun _ _ => .quiet⟩
def tab_addD : Fns := tabT []
theorem tabok_addD : ∀ f, FnT Try.prog f (tab_addD f) := tabT_nil
def st_addD3 (a0n : Nat) (b1n : Nat) (out5n : Nat) (carry6 : Int) (i7 : Int) (l0 : List Int) (l1 : List Int) (l2 : List Int) : St := ⟨(.ro 0 a0n :: .ro 1 b1n :: .any :: .any :: .any :: .sl 2 0 out5n :: .int .u64 carry6 :: .int .i64 i7 :: (anys 53 [])), [.at false (.int .u32 l0), .at false (.int .u32 l1), .at true (.int .u32 l2)]⟩
abbrev kp_addD3 : Option (List Nat × List Nat) := some ([0, 1, 5, 6, 7], [5])
noncomputable def lp_addD3 {R : Type} (N M : Nat) (s : St) (K : X → St → Option R) : Option R := loopH 2 kp_addD3 (fun st K => exec ty tab_addD an_addD N 2 (atOf [true, true, false, true, false, false] Try.f175) st K) M s K
noncomputable def kt_addD3 {R : Type} (N : Nat) (K : X → St → Option R) : X → St → Option R := kBlkR 0 (kSeqR tab_addD an_addD N 2 (atOf [true, true, true] Try.f175) (K))
def en_addD3_0 (out5n : Nat) (l0 : List Int) (l1 : List Int) (l2 : List Int) : St := ⟨(.any :: .any :: .any :: .any :: .any :: .sl 2 0 out5n :: (anys 55 [])), [.at false (.int .u32 l0), .at false (.int .u32 l1), .at true (.int .u32 l2)]⟩
theorem run_addD (N : Nat) (n : Nat) (m : Nat) (A : List Int) (B : List Int) : run ty tab_addD an_addD N Try.f175 [.ro 0 n, .ro 1 m] [.at false (.int .u32 A), .at false (.int .u32 B)]
    = (match decide (0 ≤ (0 : Int) ∧ (0 : Int) ≤ (IntKind.i64.wrap ((if ((m : Nat) : Int) > ((n : Nat) : Int) then ((m : Nat) : Int) else ((n : Nat) : Int)) + 1)) ∧ (IntKind.i64.wrap ((if ((m : Nat) : Int) > ((n : Nat) : Int) then ((m : Nat) : Int) else ((n : Nat) : Int)) + 1) : Int) ≤ 9223372036854775807 ∧ (IntKind.i64.wrap ((if ((m : Nat) : Int) > ((n : Nat) : Int) then ((m : Nat) : Int) else ((n : Nat) : Int)) + 1) : Int).toNat * 4 ≤ 140737488355328 ∧ 0 < 1 ∧ 1 = 1) with | true => lp_addD3 N N (st_addD3 n m 0 0 0 A B []) (kt_addD3 N (kEnd Try.f175 2)) | false => none) := by
  kernel_rfl
theorem step_addD3 {R : Type} (N M : Nat) (K : X → St → Option R) (a0n : Nat) (b1n : Nat) (out5n : Nat) (carry6 : Int) (i7 : Int) (l0 : List Int) (l1 : List Int) (l2 : List Int) : lp_addD3 N (M + 1) (st_addD3 a0n b1n out5n carry6 i7 l0 l1 l2) K
    = (match decide ((i7 : Int) < ((a0n : Nat) : Int)) with | true => (match decide ((i7 : Int) < ((a0n : Nat) : Int)) with | true => (match decide (0 ≤ (i7 : Int) ∧ (i7 : Int) < ((a0n : Nat) : Int)) with | true => (match l0[0 + (i7).toNat * 1]? with | some e1 => (match decide ((i7 : Int) < ((b1n : Nat) : Int)) with | true => (match decide (0 ≤ (i7 : Int) ∧ (i7 : Int) < ((b1n : Nat) : Int)) with | true => (match l1[0 + (i7).toNat * 1]? with | some e2 => (match apok true out5n 1 l2.length 1 (out5n + 1) 4 with | true => lp_addD3 N M (st_addD3 a0n b1n (out5n + 1) (Int.fdiv (IntKind.u64.wrap ((IntKind.u64.wrap (carry6 + (IntKind.u64.wrap e1))) + (IntKind.u64.wrap e2))) (2 ^ 32)) (IntKind.i64.wrap (i7 + 1)) l0 l1 (l2 ++ [IntKind.u32.wrap (IntKind.u64.wrap ((IntKind.u64.wrap (carry6 + (IntKind.u64.wrap e1))) + (IntKind.u64.wrap e2)))])) K | false => none) | none => none) | false => none) | false => (match apok true out5n 1 l2.length 1 (out5n + 1) 4 with | true => lp_addD3 N M (st_addD3 a0n b1n (out5n + 1) (Int.fdiv (IntKind.u64.wrap (carry6 + (IntKind.u64.wrap e1))) (2 ^ 32)) (IntKind.i64.wrap (i7 + 1)) l0 l1 (l2 ++ [IntKind.u32.wrap (IntKind.u64.wrap (carry6 + (IntKind.u64.wrap e1)))])) K | false => none)) | none => none) | false => none) | false => (match decide ((i7 : Int) < ((b1n : Nat) : Int)) with | true => (match decide (0 ≤ (i7 : Int) ∧ (i7 : Int) < ((b1n : Nat) : Int)) with | true => (match l1[0 + (i7).toNat * 1]? with | some e3 => (match apok true out5n 1 l2.length 1 (out5n + 1) 4 with | true => lp_addD3 N M (st_addD3 a0n b1n (out5n + 1) (Int.fdiv (IntKind.u64.wrap (carry6 + (IntKind.u64.wrap e3))) (2 ^ 32)) (IntKind.i64.wrap (i7 + 1)) l0 l1 (l2 ++ [IntKind.u32.wrap (IntKind.u64.wrap (carry6 + (IntKind.u64.wrap e3)))])) K | false => none) | none => none) | false => none) | false => (match apok true out5n 1 l2.length 1 (out5n + 1) 4 with | true => lp_addD3 N M (st_addD3 a0n b1n (out5n + 1) (Int.fdiv carry6 (2 ^ 32)) (IntKind.i64.wrap (i7 + 1)) l0 l1 (l2 ++ [IntKind.u32.wrap carry6])) K | false => none))) | false => (match decide ((i7 : Int) < ((b1n : Nat) : Int)) with | true => (match decide ((i7 : Int) < ((a0n : Nat) : Int)) with | true => (match decide (0 ≤ (i7 : Int) ∧ (i7 : Int) < ((a0n : Nat) : Int)) with | true => (match l0[0 + (i7).toNat * 1]? with | some e4 => (match decide ((i7 : Int) < ((b1n : Nat) : Int)) with | true => (match decide (0 ≤ (i7 : Int) ∧ (i7 : Int) < ((b1n : Nat) : Int)) with | true => (match l1[0 + (i7).toNat * 1]? with | some e5 => (match apok true out5n 1 l2.length 1 (out5n + 1) 4 with | true => lp_addD3 N M (st_addD3 a0n b1n (out5n + 1) (Int.fdiv (IntKind.u64.wrap ((IntKind.u64.wrap (carry6 + (IntKind.u64.wrap e4))) + (IntKind.u64.wrap e5))) (2 ^ 32)) (IntKind.i64.wrap (i7 + 1)) l0 l1 (l2 ++ [IntKind.u32.wrap (IntKind.u64.wrap ((IntKind.u64.wrap (carry6 + (IntKind.u64.wrap e4))) + (IntKind.u64.wrap e5)))])) K | false => none) | none => none) | false => none) | false => (match apok true out5n 1 l2.length 1 (out5n + 1) 4 with | true => lp_addD3 N M (st_addD3 a0n b1n (out5n + 1) (Int.fdiv (IntKind.u64.wrap (carry6 + (IntKind.u64.wrap e4))) (2 ^ 32)) (IntKind.i64.wrap (i7 + 1)) l0 l1 (l2 ++ [IntKind.u32.wrap (IntKind.u64.wrap (carry6 + (IntKind.u64.wrap e4)))])) K | false => none)) | none => none) | false => none) | false => (match decide ((i7 : Int) < ((b1n : Nat) : Int)) with | true => (match decide (0 ≤ (i7 : Int) ∧ (i7 : Int) < ((b1n : Nat) : Int)) with | true => (match l1[0 + (i7).toNat * 1]? with | some e6 => (match apok true out5n 1 l2.length 1 (out5n + 1) 4 with | true => lp_addD3 N M (st_addD3 a0n b1n (out5n + 1) (Int.fdiv (IntKind.u64.wrap (carry6 + (IntKind.u64.wrap e6))) (2 ^ 32)) (IntKind.i64.wrap (i7 + 1)) l0 l1 (l2 ++ [IntKind.u32.wrap (IntKind.u64.wrap (carry6 + (IntKind.u64.wrap e6)))])) K | false => none) | none => none) | false => none) | false => (match apok true out5n 1 l2.length 1 (out5n + 1) 4 with | true => lp_addD3 N M (st_addD3 a0n b1n (out5n + 1) (Int.fdiv carry6 (2 ^ 32)) (IntKind.i64.wrap (i7 + 1)) l0 l1 (l2 ++ [IntKind.u32.wrap carry6])) K | false => none))) | false => (match decide ((carry6 : Int) > 0) with | true => (match decide ((i7 : Int) < ((a0n : Nat) : Int)) with | true => (match decide (0 ≤ (i7 : Int) ∧ (i7 : Int) < ((a0n : Nat) : Int)) with | true => (match l0[0 + (i7).toNat * 1]? with | some e7 => (match decide ((i7 : Int) < ((b1n : Nat) : Int)) with | true => (match decide (0 ≤ (i7 : Int) ∧ (i7 : Int) < ((b1n : Nat) : Int)) with | true => (match l1[0 + (i7).toNat * 1]? with | some e8 => (match apok true out5n 1 l2.length 1 (out5n + 1) 4 with | true => lp_addD3 N M (st_addD3 a0n b1n (out5n + 1) (Int.fdiv (IntKind.u64.wrap ((IntKind.u64.wrap (carry6 + (IntKind.u64.wrap e7))) + (IntKind.u64.wrap e8))) (2 ^ 32)) (IntKind.i64.wrap (i7 + 1)) l0 l1 (l2 ++ [IntKind.u32.wrap (IntKind.u64.wrap ((IntKind.u64.wrap (carry6 + (IntKind.u64.wrap e7))) + (IntKind.u64.wrap e8)))])) K | false => none) | none => none) | false => none) | false => (match apok true out5n 1 l2.length 1 (out5n + 1) 4 with | true => lp_addD3 N M (st_addD3 a0n b1n (out5n + 1) (Int.fdiv (IntKind.u64.wrap (carry6 + (IntKind.u64.wrap e7))) (2 ^ 32)) (IntKind.i64.wrap (i7 + 1)) l0 l1 (l2 ++ [IntKind.u32.wrap (IntKind.u64.wrap (carry6 + (IntKind.u64.wrap e7)))])) K | false => none)) | none => none) | false => none) | false => (match decide ((i7 : Int) < ((b1n : Nat) : Int)) with | true => (match decide (0 ≤ (i7 : Int) ∧ (i7 : Int) < ((b1n : Nat) : Int)) with | true => (match l1[0 + (i7).toNat * 1]? with | some e9 => (match apok true out5n 1 l2.length 1 (out5n + 1) 4 with | true => lp_addD3 N M (st_addD3 a0n b1n (out5n + 1) (Int.fdiv (IntKind.u64.wrap (carry6 + (IntKind.u64.wrap e9))) (2 ^ 32)) (IntKind.i64.wrap (i7 + 1)) l0 l1 (l2 ++ [IntKind.u32.wrap (IntKind.u64.wrap (carry6 + (IntKind.u64.wrap e9)))])) K | false => none) | none => none) | false => none) | false => (match apok true out5n 1 l2.length 1 (out5n + 1) 4 with | true => lp_addD3 N M (st_addD3 a0n b1n (out5n + 1) (Int.fdiv carry6 (2 ^ 32)) (IntKind.i64.wrap (i7 + 1)) l0 l1 (l2 ++ [IntKind.u32.wrap carry6])) K | false => none))) | false => K (.exit 0) (en_addD3_0 out5n l0 l1 l2)))) := by
  kernel_rfl
theorem end_addD3_0 (N : Nat) (out5n : Nat) (l0 : List Int) (l1 : List Int) (l2 : List Int) : kt_addD3 N (kEnd Try.f175 2) (.exit 0) (en_addD3_0 out5n l0 l1 l2)
    = some (.sl 2 0 out5n, [.at false (.int .u32 l0), .at false (.int .u32 l1), .at true (.int .u32 l2)]) := by
  kernel_rfl
theorem ok_addD : FnT Try.prog 175 (gBig2 (fun v w => v + w) (fun v w => lowB v && lowB w)) := by
  refine FnT.big2 tabok_addD Try.func175 rfl rfl an_addD _ _ fun D E hD hE hDl hEl hp => ?_
  rw [Bool.and_eq_true] at hp
  have hn := lowB_len hD hDl hp.1
  have hm := lowB_len hE hEl hp.2
  have hDv := nv_lt hD
  have hEv := nv_lt hE
  refine ⟨40, ?_⟩
  show GoodD D E (nv D + nv E) _
  have hmx : IntKind.i64.wrap ((if (E.length : Int) > (D.length : Int) then (E.length : Int) else (D.length : Int)) + 1) = ((max D.length E.length + 1 : Nat) : Int) := by
    rw [wrap_s (by split <;> omega) (by split <;> omega)]
    split <;> omega
  rw [run_addD, hmx, decide_eq_true (by omega)]
  dsimp only
  refine loop_fuel (fun M (s : Nat × Nat × List Int) => lp_addD3 40 M (st_addD3 D.length E.length s.1 (s.2.1 : Int) (s.1 : Int) D E s.2.2) (kt_addD3 40 (kEnd Try.f175 2)))
    (fun s => s.1 ≤ max D.length E.length + 1 ∧ okD s.2.2 ∧ s.2.2.length = s.1 ∧ s.2.1 ≤ 1 ∧ nv s.2.2 + 4294967296 ^ s.1 * s.2.1 = nv D % 4294967296 ^ s.1 + nv E % 4294967296 ^ s.1) (fun s => 2 * (max D.length E.length - s.1) + s.2.1) (GoodD D E (nv D + nv E)) (fun M s hs => ?_) (s := (0, 0, [])) ⟨Nat.zero_le _, (fun x hx => by cases hx), rfl, by simp, by simp [nv, Nat.mod_one]⟩ (by show _ < 40; dsimp only; omega)
  obtain ⟨i, c, l⟩ := s
  obtain ⟨hi, hl, hlen, hc, hv⟩ := hs
  dsimp only at hi hl hlen hc hv ⊢
  have fin : ∀ x y : Nat, x < 4294967296 → y < 4294967296 → x = dgt (nv D) i → y = dgt (nv E) i → nv (l ++ [(((c + x + y) % 4294967296 : Nat) : Int)]) + 4294967296 ^ (i + 1) * ((c + x + y) / 4294967296) = nv D % 4294967296 ^ (i + 1) + nv E % 4294967296 ^ (i + 1) := by
    intro x y _ _ hx hy
    rw [nv_snoc, hlen, Int.toNat_natCast, mod_succ, mod_succ, ← hx, ← hy, Nat.pow_succ, Nat.mul_assoc, Nat.add_assoc (nv l), ← Nat.mul_add, Nat.mod_add_div, Nat.mul_add, Nat.mul_add]
    omega
  have sk : ∀ t : Nat, okD (l ++ [((t % 4294967296 : Nat) : Int)]) := fun t => hl.snoc (by omega)
  have hap := apc hlen (show i < 2147483648 by omega) (show 4 ≤ 16 by omega)
  have hw := wr (show i < 2147483648 by omega)
  by_cases h1 : i < D.length
  · obtain ⟨x, hx, hxb, hxd⟩ := nat_get hD h1
    right
    by_cases h2 : i < E.length
    · obtain ⟨y, hy, hyb, hyd⟩ := nat_get hE h2
      have ht : IntKind.u64.wrap (IntKind.u64.wrap ((c : Int) + IntKind.u64.wrap (x : Int)) + IntKind.u64.wrap (y : Int)) = ((c + x + y : Nat) : Int) := by
        rw [wrap64 (n := x) (by omega), wrap64 (n := y) (by omega), ← Int.natCast_add, wrap64 (by omega), ← Int.natCast_add, wrap64 (by omega)]
      refine ⟨(i + 1, (c + x + y) / 4294967296, l ++ [(((c + x + y) % 4294967296 : Nat) : Int)]), ⟨by dsimp only; omega, sk _, by simp [hlen], by dsimp only; omega, fin x y hxb hyb hxd hyd⟩, by dsimp only; omega, ?_⟩
      simp only [step_addD3, dlt h1, dlt h2, din h1, din h2, ix, hx, hy, hap, ht, wrap32, shr32, hw]
    · have ht : IntKind.u64.wrap ((c : Int) + IntKind.u64.wrap (x : Int)) = ((c + x + 0 : Nat) : Int) := by
        rw [wrap64 (n := x) (by omega), ← Int.natCast_add, wrap64 (by omega), Nat.add_zero]
      refine ⟨(i + 1, (c + x + 0) / 4294967296, l ++ [(((c + x + 0) % 4294967296 : Nat) : Int)]), ⟨by dsimp only; omega, sk _, by simp [hlen], by dsimp only; omega, fin x 0 hxb (by decide) hxd (dgt_high hEv (by omega)).symm⟩, by dsimp only; omega, ?_⟩
      simp only [step_addD3, dlt h1, dge (show E.length ≤ i by omega), din h1, ix, hx, hap, ht, wrap32, shr32, hw]
  · by_cases h2 : i < E.length
    · obtain ⟨y, hy, hyb, hyd⟩ := nat_get hE h2
      right
      have ht : IntKind.u64.wrap ((c : Int) + IntKind.u64.wrap (y : Int)) = ((c + 0 + y : Nat) : Int) := by
        rw [wrap64 (n := y) (by omega), ← Int.natCast_add, wrap64 (by omega), Nat.add_zero]
      refine ⟨(i + 1, (c + 0 + y) / 4294967296, l ++ [(((c + 0 + y) % 4294967296 : Nat) : Int)]), ⟨by dsimp only; omega, sk _, by simp [hlen], by dsimp only; omega, fin 0 y (by decide) hyb (dgt_high hDv (by omega)).symm hyd⟩, by dsimp only; omega, ?_⟩
      simp only [step_addD3, dlt h2, dge (show D.length ≤ i by omega), din h2, ix, hy, hap, ht, wrap32, shr32, hw]
    · by_cases h3 : c = 0
      · left
        subst h3
        refine ⟨l, ?_, hl, by rw [mod_all hDv (by omega), mod_all hEv (by omega)] at hv; simpa using hv⟩
        simp only [step_addD3, dge (show D.length ≤ i by omega), dge (show E.length ≤ i by omega), decide_eq_false (show ¬ (((0 : Nat) : Int) > 0) by omega), end_addD3_0, hlen]
      · right
        have e : c = 1 := by omega
        subst e
        have hi2 : i ≤ max D.length E.length := by
          apply Nat.le_of_not_lt
          intro h4
          rw [mod_all hDv (by omega), mod_all hEv (by omega)] at hv
          have h5 : nv D < 4294967296 ^ (i - 1) := Nat.lt_of_lt_of_le hDv (Nat.pow_le_pow_right (by decide) (by omega))
          have h6 : nv E < 4294967296 ^ (i - 1) := Nat.lt_of_lt_of_le hEv (Nat.pow_le_pow_right (by decide) (by omega))
          have h7 : 4294967296 ^ i = 4294967296 ^ (i - 1) * 4294967296 := by rw [← Nat.pow_succ]; congr 1; omega
          omega
        refine ⟨(i + 1, (1 + 0 + 0) / 4294967296, l ++ [(((1 + 0 + 0) % 4294967296 : Nat) : Int)]), ⟨by dsimp only; omega, sk _, by simp [hlen], by dsimp only; omega, fin 0 0 (by decide) (by decide) (dgt_high hDv (by omega)).symm (dgt_high hEv (by omega)).symm⟩, by dsimp only; omega, ?_⟩
        simp only [step_addD3, dge (show D.length ≤ i by omega), dge (show E.length ≤ i by omega), decide_eq_true (show ((1 : Nat) : Int) > 0 by omega), hap, hw]
        rfl
def an_subD : Ann := ⟨fun r => if r = 3 then some ([1, 5, 6, 13, 14, 15], [5]) else none, fun _ _ => .quiet⟩
def tab_subD : Fns := tabT []
theorem tabok_subD : ∀ f, FnT Try.prog f (tab_subD f) := tabT_nil
def st_subD3 (b1n : Nat) (out5n : Nat) (borrow6 : Int) (t13n : Nat) (t14 : Int) (t15 : Int) (l0 : List Int) (l1 : List Int) (l2 : List Int) : St := ⟨(.any :: .ro 1 b1n :: .any :: .any :: .any :: .sl 2 0 out5n :: .int .u64 borrow6 :: (anys 6 (.ro 0 t13n :: .int .i64 t14 :: .int .i64 t15 :: (anys 30 [])))), [.at false (.int .u32 l0), .at false (.int .u32 l1), .at true (.int .u32 l2)]⟩
abbrev kp_subD3 : Option (List Nat × List Nat) := some ([1, 5, 6, 13, 14, 15], [5])
noncomputable def lp_subD3 {R : Type} (N M : Nat) (s : St) (K : X → St → Option R) : Option R := loopH 2 kp_subD3 (fun st K => exec ty tab_subD an_subD N 2 (atOf [true, true, false, true, false, false] Try.f177) st K) M s K
noncomputable def kt_subD3 {R : Type} (N : Nat) (K : X → St → Option R) : X → St → Option R := kBlkR 0 (kSeqR tab_subD an_subD N 2 (atOf [true, true, true] Try.f177) (K))
def en_subD3_0 (out5n : Nat) (l0 : List Int) (l1 : List Int) (l2 : List Int) : St := ⟨(.any :: .any :: .any :: .any :: .any :: .sl 2 0 out5n :: (anys 40 [])), [.at false (.int .u32 l0), .at false (.int .u32 l1), .at true (.int .u32 l2)]⟩
theorem run_subD (N : Nat) (n : Nat) (m : Nat) (A : List Int) (B : List Int) : run ty tab_subD an_subD N Try.f177 [.ro 0 n, .ro 1 m] [.at false (.int .u32 A), .at false (.int .u32 B)]
    = (match decide (0 ≤ (((n : Nat) : Int) : Int) ∧ (((n : Nat) : Int) : Int) ≤ ((n : Nat) : Int) ∧ (((n : Nat) : Int) : Int) ≤ 9223372036854775807 ∧ (((n : Nat) : Int) : Int).toNat * 4 ≤ 140737488355328 ∧ 0 < 1 ∧ 1 = 1) with | true => lp_subD3 N N (st_subD3 m ((((n : Nat) : Int) : Int).toNat) 0 n ((n : Nat) : Int) 0 A B (List.replicate ((((n : Nat) : Int) : Int).toNat) (0 : Int))) (kt_subD3 N (kEnd Try.f177 2)) | false => none) := by
  kernel_rfl
theorem step_subD3 {R : Type} (N M : Nat) (K : X → St → Option R) (b1n : Nat) (out5n : Nat) (borrow6 : Int) (t13n : Nat) (t14 : Int) (t15 : Int) (l0 : List Int) (l1 : List Int) (l2 : List Int) : lp_subD3 N (M + 1) (st_subD3 b1n out5n borrow6 t13n t14 t15 l0 l1 l2) K
    = (match decide ((t15 : Int) < t14) with | true => (match decide (0 ≤ (t15 : Int) ∧ (t15 : Int) < ((t13n : Nat) : Int)) with | true => (match l0[0 + (t15).toNat * 1]? with | some e1 => (match decide ((t15 : Int) < ((b1n : Nat) : Int)) with | true => (match decide (0 ≤ (t15 : Int) ∧ (t15 : Int) < ((b1n : Nat) : Int)) with | true => (match l1[0 + (t15).toNat * 1]? with | some e2 => (match decide (0 ≤ (t15 : Int) ∧ (t15 : Int) < ((out5n : Nat) : Int)) with | true => (match decide (0 + (t15).toNat * 1 < l2.length) with | true => (match decide ((IntKind.u64.wrap e1 : Int) < (IntKind.u64.wrap (borrow6 + (IntKind.u64.wrap e2)))) with | true => lp_subD3 N M (st_subD3 b1n out5n 1 t13n t14 (IntKind.i64.wrap (t15 + 1)) l0 l1 (l2.set (0 + (t15).toNat * 1) (IntKind.u32.wrap (IntKind.u64.wrap ((IntKind.u64.wrap e1) - (IntKind.u64.wrap (borrow6 + (IntKind.u64.wrap e2)))))))) K | false => lp_subD3 N M (st_subD3 b1n out5n 0 t13n t14 (IntKind.i64.wrap (t15 + 1)) l0 l1 (l2.set (0 + (t15).toNat * 1) (IntKind.u32.wrap (IntKind.u64.wrap ((IntKind.u64.wrap e1) - (IntKind.u64.wrap (borrow6 + (IntKind.u64.wrap e2)))))))) K) | false => none) | false => none) | none => none) | false => none) | false => (match decide (0 ≤ (t15 : Int) ∧ (t15 : Int) < ((out5n : Nat) : Int)) with | true => (match decide (0 + (t15).toNat * 1 < l2.length) with | true => (match decide ((IntKind.u64.wrap e1 : Int) < borrow6) with | true => lp_subD3 N M (st_subD3 b1n out5n 1 t13n t14 (IntKind.i64.wrap (t15 + 1)) l0 l1 (l2.set (0 + (t15).toNat * 1) (IntKind.u32.wrap (IntKind.u64.wrap ((IntKind.u64.wrap e1) - borrow6))))) K | false => lp_subD3 N M (st_subD3 b1n out5n 0 t13n t14 (IntKind.i64.wrap (t15 + 1)) l0 l1 (l2.set (0 + (t15).toNat * 1) (IntKind.u32.wrap (IntKind.u64.wrap ((IntKind.u64.wrap e1) - borrow6))))) K) | false => none) | false => none)) | none => none) | false => none) | false => K (.exit 0) (en_subD3_0 out5n l0 l1 l2)) := by
  kernel_rfl
theorem end_subD3_0 (N : Nat) (out5n : Nat) (l0 : List Int) (l1 : List Int) (l2 : List Int) : kt_subD3 N (kEnd Try.f177 2) (.exit 0) (en_subD3_0 out5n l0 l1 l2)
    = some (.sl 2 0 out5n, [.at false (.int .u32 l0), .at false (.int .u32 l1), .at true (.int .u32 l2)]) := by
  kernel_rfl
theorem subD_fin {P c x y nl a b c' d : Nat} (h : nl + b = a + P * c) (hd : d + c + y = x + c' * 4294967296) : nl + P * d + (b + P * y) = a + P * x + P * 4294967296 * c' := by
  have h1 : P * (d + c + y) = P * (x + c' * 4294967296) := by rw [hd]
  simp only [Nat.mul_add] at h1
  have h2 : P * (c' * 4294967296) = P * 4294967296 * c' := by rw [Nat.mul_assoc, Nat.mul_comm c']
  omega
theorem ok_subD : FnT Try.prog 177 (gBig2 (fun v w => v - w) (fun v w => lowB v && lowB w && decide (w ≤ v))) := by
  refine FnT.big2 tabok_subD Try.func177 rfl rfl an_subD _ _ fun D E hD hE hDl hEl hp => ?_
  rw [Bool.and_eq_true, Bool.and_eq_true] at hp
  have hn := lowB_len hD hDl hp.1.1
  have hm := lowB_len hE hEl hp.1.2
  have hle := of_decide_eq_true hp.2
  have hDv := nv_lt hD
  have hEv := nv_lt hE
  refine ⟨20, ?_⟩
  show GoodD D E (nv D - nv E) _
  rw [run_subD, decide_eq_true (by omega)]
  dsimp only
  rw [Int.toNat_natCast]
  refine loop_fuel (fun M (s : Nat × Nat × List Int) => lp_subD3 20 M (st_subD3 E.length D.length (s.2.1 : Int) D.length (D.length : Int) (s.1 : Int) D E s.2.2) (kt_subD3 20 (kEnd Try.f177 2)))
    (fun s => s.1 ≤ D.length ∧ okD s.2.2 ∧ s.2.2.length = D.length ∧ s.2.1 ≤ 1 ∧ nv (s.2.2.drop s.1) = 0 ∧ nv s.2.2 + nv E % 4294967296 ^ s.1 = nv D % 4294967296 ^ s.1 + 4294967296 ^ s.1 * s.2.1) (fun s => D.length - s.1) (GoodD D E (nv D - nv E)) (fun M s hs => ?_) (s := (0, 0, List.replicate D.length 0)) ⟨Nat.zero_le _, .zeros _, by simp, by simp, by simp [nv_zeros], by simp [nv_zeros, Nat.mod_one]⟩ (by show _ < 20; dsimp only; omega)
  obtain ⟨i, c, l⟩ := s
  obtain ⟨hi, hl, hlen, hc, hz, hv⟩ := hs
  dsimp only at hi hl hlen hc hz hv ⊢
  by_cases h1 : i < D.length
  · right
    obtain ⟨x, hx, hxb, hxd⟩ := nat_get hD h1
    obtain ⟨o, ho, hob, _⟩ := nat_get hl (show i < l.length by omega)
    have ho0 := drop_zero hl hz (Nat.le_refl _) ho
    have fin : ∀ y : Nat, y < 4294967296 → y = dgt (nv E) i → ∃ d c' : Nat, d < 4294967296 ∧ c' ≤ 1 ∧ (c' = if x < c + y then 1 else 0) ∧ IntKind.u32.wrap (IntKind.u64.wrap ((x : Int) - ((c + y : Nat) : Int))) = (d : Int) ∧ nv (l.set i (d : Int)) + nv E % 4294967296 ^ (i + 1) = nv D % 4294967296 ^ (i + 1) + 4294967296 ^ (i + 1) * c' := by
      intro y hyb hyd
      have key : ∀ d c', d + c + y = x + c' * 4294967296 → nv (l.set i (d : Int)) + nv E % 4294967296 ^ (i + 1) = nv D % 4294967296 ^ (i + 1) + 4294967296 ^ (i + 1) * c' := by
        intro d c' hd
        have h3 := nv_set ho (d : Int)
        rw [Int.toNat_natCast, Int.toNat_natCast, show o = 0 by omega, Nat.mul_zero, Nat.add_zero] at h3
        rw [h3, mod_succ, mod_succ, ← hyd, ← hxd, Nat.pow_succ]
        exact subD_fin hv hd
      by_cases hlt : x < c + y
      · refine ⟨x + 4294967296 - (c + y), 1, by omega, by omega, by rw [if_pos hlt], ?_, key _ _ (by omega)⟩
        have e : IntKind.u64.wrap ((x : Int) - ((c + y : Nat) : Int)) = ((x + 18446744073709551616 - (c + y) : Nat) : Int) := by
          simp only [IntKind.wrap, IntKind.signed, IntKind.bits]
          first | omega | (simp; omega)
        rw [e, wrap32]
        omega
      · refine ⟨x - (c + y), 0, by omega, by omega, by rw [if_neg hlt], ?_, key _ _ (by omega)⟩
        rw [show (x : Int) - ((c + y : Nat) : Int) = ((x - (c + y) : Nat) : Int) by omega, wrap64 (by omega), wrap32, Nat.mod_eq_of_lt (by omega)]
    have hw := wr (show i < 2147483648 by omega)
    have hx64 := wrap64 (n := x) (by omega)
    by_cases h2 : i < E.length
    · obtain ⟨y, hy, hyb, hyd⟩ := nat_get hE h2
      obtain ⟨d, c', hd, hc', hcc, hdw, hfin⟩ := fin y hyb hyd
      refine ⟨(i + 1, c', l.set i (d : Int)), ⟨by dsimp only; omega, hl.set _ (by omega), by simpa using hlen, hc', by dsimp only; rw [drop_set (by omega)]; exact drop_le hz (by omega) (by omega), hfin⟩, by dsimp only; omega, ?_⟩
      have hs : IntKind.u64.wrap ((c : Int) + IntKind.u64.wrap (y : Int)) = ((c + y : Nat) : Int) := by rw [wrap64 (n := y) (by omega), ← Int.natCast_add, wrap64 (by omega)]
      simp only [step_subD3, dlt h1, din h1, ix, hx, dlt h2, din h2, hy, hs, hx64, hdw, decide_eq_true (show i < l.length by omega), hw, hcc]
      by_cases hlt : x < c + y
      · rw [decide_eq_true (show (x : Int) < ((c + y : Nat) : Int) by omega), if_pos hlt]
        rfl
      · rw [decide_eq_false (show ¬ ((x : Int) < ((c + y : Nat) : Int)) by omega), if_neg hlt]
        rfl
    · obtain ⟨d, c', hd, hc', hcc, hdw, hfin⟩ := fin 0 (by decide) (dgt_high hEv (by omega)).symm
      refine ⟨(i + 1, c', l.set i (d : Int)), ⟨by dsimp only; omega, hl.set _ (by omega), by simpa using hlen, hc', by dsimp only; rw [drop_set (by omega)]; exact drop_le hz (by omega) (by omega), hfin⟩, by dsimp only; omega, ?_⟩
      rw [Nat.add_zero] at hdw hcc
      simp only [step_subD3, dlt h1, din h1, ix, hx, dge (show E.length ≤ i by omega), hx64, hdw, decide_eq_true (show i < l.length by omega), hw, hcc]
      by_cases hlt : x < c
      · rw [decide_eq_true (show (x : Int) < (c : Int) by omega), if_pos hlt]
        rfl
      · rw [decide_eq_false (show ¬ ((x : Int) < (c : Int)) by omega), if_neg hlt]
        rfl
  · left
    have e : i = D.length := by omega
    subst e
    have hEv2 : nv E < 4294967296 ^ D.length := by omega
    rw [mod_all hDv (Nat.le_refl _), mod_all hEv2 (Nat.le_refl _)] at hv
    have hlv := nv_lt hl
    rw [hlen] at hlv
    have hc0 : c = 0 := by
      rcases Nat.eq_zero_or_pos c with h | h
      · exact h
      · have : c = 1 := by omega
        subst this
        omega
    subst hc0
    refine ⟨l, ?_, hl, by omega⟩
    simp only [step_subD3, dge (Nat.le_refl _), end_subD3_0, hlen]
def gBigC (F : Nat → Nat → V) (pre : Nat → Nat → Bool) : GT := fun vs h => match vs, h with
  | [.u (.a (.big v)), .u (.a (.big w))], [] => .ite (pre v w) (.ret (F v w) []) .no
  | _, _ => .no
theorem FnT.bigC {f : FuncId} {fn : Func} {code : Code} {fns : Fns} (hfn : ∀ f, FnT Try.prog f (fns f)) (hf : Try.prog.funcs[f]? = some fn) (hb : fn.body = some code) (hn : (fn.name == "runtime.NumGoroutine") = false) (an : Ann)
    (F : Nat → Nat → V) (hF : ∀ v w, (F v w).flat = true) (pre : Nat → Nat → Bool)
    (H : ∀ D E, okD D → okD E → D.getLast? ≠ some 0 → E.getLast? ≠ some 0 → pre (nv D) (nv E) = true → ∃ N, run ty fns an N fn [.ro 0 D.length, .ro 1 E.length] [.at false (.int .u32 D), .at false (.int .u32 E)] =
      some (F (nv D) (nv E), [.at false (.int .u32 D), .at false (.int .u32 E)])) : FnT Try.prog f (gBigC F pre) := by
  intro vs hp v h' e μ w cvs hr hv
  unfold gBigC at e
  split at e
  case h_2 => exact (T.no_inv e).elim
  rename_i a b
  obtain ⟨hpre, e⟩ := T.pre_inv e
  obtain ⟨rfl, rfl⟩ := T.ret_inv e
  obtain ⟨c1, c2, rfl, ⟨D, hD, rfl, hDl, hDs⟩, ⟨E, hE, rfl, hEl, hEs⟩⟩ := rep_two hv
  obtain ⟨m1, m2, f1, f2, r2, a2⟩ := open2 hr hDs hEs
  obtain ⟨N, hrun⟩ := H D E hD hE hDl hEl hpre
  refine (FnT.runs hfn hf hb hn an N _ _ (F (nv D) (nv E)) [.at false (.int .u32 D), .at false (.int .u32 E)] (by rw [T.run_of]; exact hrun) _ w _ r2 a2).mono fun cv w' ⟨μ', he, hcv⟩ => ?_
  have h0 : μ.l.length = 0 := by rw [hr.len]; rfl
  refine ⟨_, Ev.cut (h := []) (ros := [.at false (.int .u32 D), .at false (.int .u32 E)]) (ms := [m1, m2]) (by rw [h0]; rfl) rfl (fun b hb c => ?_) he (fun i rw c hi => absurd hi (by simp)), hcv.of_flat (hF _ _)⟩
  simp at hb
  rcases hb with rfl | rfl <;> simp
def cmpI (v w : Nat) : Int := if v < w then -1 else if v = w then 0 else 1
theorem cmp_top {D E : List Int} (hD : okD D) (hE : okD E) {k : Nat} {x y : Nat} (hx : D[k]? = some (x : Int)) (hy : E[k]? = some (y : Int)) (he : D.drop (k + 1) = E.drop (k + 1)) (hlt : x < y) : nv D < nv E := by
  have hk := getElem?_lt hx
  have hk' := getElem?_lt hy
  have e1 := nv_take_drop D k (by omega)
  have e2 := nv_take_drop E k (by omega)
  have l1 := nv_lt (hD.take k)
  rw [List.length_take, Nat.min_eq_left (by omega)] at l1
  have d1 : D.drop k = (x : Int) :: D.drop (k + 1) := by
    rw [List.drop_eq_getElem_cons hk]
    congr 1
    have := List.getElem?_eq_getElem hk
    rw [hx] at this
    exact (Option.some.inj this).symm
  have d2 : E.drop k = (y : Int) :: E.drop (k + 1) := by
    rw [List.drop_eq_getElem_cons hk']
    congr 1
    have := List.getElem?_eq_getElem hk'
    rw [hy] at this
    exact (Option.some.inj this).symm
  rw [d1, he] at e1
  rw [d2] at e2
  simp only [nv, Int.toNat_natCast] at e1 e2
  rw [e1, e2]
  have h3 : 4294967296 ^ k * (x + 4294967296 * nv (E.drop (k + 1))) + 4294967296 ^ k ≤ 4294967296 ^ k * (y + 4294967296 * nv (E.drop (k + 1))) := by
    rw [← Nat.mul_succ]
    exact Nat.mul_le_mul_left _ (by omega)
  omega
theorem cmp_len {D E : List Int} (hD : okD D) (hE : okD E) (hEl : E.getLast? ≠ some 0) (h : D.length < E.length) : nv D < nv E := by
  have h1 := nv_lt hD
  have h2 := trim_ge hE hEl (by omega)
  have h3 : 4294967296 ^ D.length ≤ 4294967296 ^ (E.length - 1) := Nat.pow_le_pow_right (by decide) (by omega)
  omega
def an_cmpD : Ann := ⟨fun r => if r = 4 then some ([0, 1, 5], [4]) else none, fun _ _ => .quiet⟩
def tab_cmpD : Fns := tabT []
theorem tabok_cmpD : ∀ f, FnT Try.prog f (tab_cmpD f) := tabT_nil
def st_cmpD4 (a0n : Nat) (b1n : Nat) (i5 : Int) (l0 : List Int) (l1 : List Int) : St := ⟨(.ro 0 a0n :: .ro 1 b1n :: .any :: .any :: .any :: .int .i64 i5 :: (anys 37 [])), [.at false (.int .u32 l0), .at false (.int .u32 l1)]⟩
abbrev kp_cmpD4 : Option (List Nat × List Nat) := some ([0, 1, 5], [4])
noncomputable def lp_cmpD4 {R : Type} (N M : Nat) (s : St) (K : X → St → Option R) : Option R := loopH 2 kp_cmpD4 (fun st K => exec ty tab_cmpD an_cmpD N 2 (atOf [true, true, false, true, false, false] Try.f176) st K) M s K
noncomputable def kt_cmpD4 {R : Type} (N : Nat) (K : X → St → Option R) : X → St → Option R := kBlkR 0 (kSeqR tab_cmpD an_cmpD N 2 (atOf [true, true, true] Try.f176) (K))
def en_cmpD4_0 (t4 : Int) (l0 : List Int) (l1 : List Int) : St := ⟨(.any :: .any :: .any :: .any :: .int .i64 t4 :: (anys 38 [])), [.at false (.int .u32 l0), .at false (.int .u32 l1)]⟩
def en_cmpD4_1 (l0 : List Int) (l1 : List Int) : St := ⟨(anys 43 []), [.at false (.int .u32 l0), .at false (.int .u32 l1)]⟩
theorem run_cmpD (N : Nat) (n : Nat) (m : Nat) (A : List Int) (B : List Int) : run ty tab_cmpD an_cmpD N Try.f176 [.ro 0 n, .ro 1 m] [.at false (.int .u32 A), .at false (.int .u32 B)]
    = (match ((n : Nat) : Int) != ((m : Nat) : Int) with | true => some (.int .i64 (if (if (IntKind.i64.wrap (((n : Nat) : Int) - ((m : Nat) : Int))) < 1 then IntKind.i64.wrap (((n : Nat) : Int) - ((m : Nat) : Int)) else 1) > (-1) then if (IntKind.i64.wrap (((n : Nat) : Int) - ((m : Nat) : Int))) < 1 then IntKind.i64.wrap (((n : Nat) : Int) - ((m : Nat) : Int)) else 1 else -1), [.at false (.int .u32 A), .at false (.int .u32 B)]) | false => lp_cmpD4 N N (st_cmpD4 n m (IntKind.i64.wrap (((n : Nat) : Int) - 1)) A B) (kt_cmpD4 N (kEnd Try.f176 2))) := by
  kernel_rfl
theorem step_cmpD4 {R : Type} (N M : Nat) (K : X → St → Option R) (a0n : Nat) (b1n : Nat) (i5 : Int) (l0 : List Int) (l1 : List Int) : lp_cmpD4 N (M + 1) (st_cmpD4 a0n b1n i5 l0 l1) K
    = (match decide ((i5 : Int) ≥ 0) with | true => (match decide (0 ≤ (i5 : Int) ∧ (i5 : Int) < ((a0n : Nat) : Int)) with | true => (match l0[0 + (i5).toNat * 1]? with | some e1 => (match decide (0 ≤ (i5 : Int) ∧ (i5 : Int) < ((b1n : Nat) : Int)) with | true => (match l1[0 + (i5).toNat * 1]? with | some e2 => (match e1 != e2 with | true => (match decide (0 ≤ (i5 : Int) ∧ (i5 : Int) < ((a0n : Nat) : Int)) with | true => (match l0[0 + (i5).toNat * 1]? with | some e3 => (match decide (0 ≤ (i5 : Int) ∧ (i5 : Int) < ((b1n : Nat) : Int)) with | true => (match l1[0 + (i5).toNat * 1]? with | some e4 => (match decide ((e3 : Int) < e4) with | true => K .ret (en_cmpD4_0 (-1) l0 l1) | false => K .ret (en_cmpD4_0 1 l0 l1)) | none => none) | false => none) | none => none) | false => none) | false => lp_cmpD4 N M (st_cmpD4 a0n b1n (IntKind.i64.wrap (i5 - 1)) l0 l1) K) | none => none) | false => none) | none => none) | false => none) | false => K (.exit 0) (en_cmpD4_1 l0 l1)) := by
  kernel_rfl
theorem end_cmpD4_0 (N : Nat) (t4 : Int) (l0 : List Int) (l1 : List Int) : kt_cmpD4 N (kEnd Try.f176 2) .ret (en_cmpD4_0 t4 l0 l1)
    = some (.int .i64 t4, [.at false (.int .u32 l0), .at false (.int .u32 l1)]) := by
  kernel_rfl
theorem end_cmpD4_1 (N : Nat) (l0 : List Int) (l1 : List Int) : kt_cmpD4 N (kEnd Try.f176 2) (.exit 0) (en_cmpD4_1 l0 l1)
    = some (.int .i64 0, [.at false (.int .u32 l0), .at false (.int .u32 l1)]) := by
  kernel_rfl
theorem ok_cmpD : FnT Try.prog 176 (gBigC (fun v w => .int .i64 (cmpI v w)) (fun v w => lowB v && lowB w)) := by
  refine FnT.bigC tabok_cmpD Try.func176 rfl rfl an_cmpD _ (fun _ _ => rfl) _ fun D E hD hE hDl hEl hp => ?_
  rw [Bool.and_eq_true] at hp
  have hn := lowB_len hD hDl hp.1
  have hm := lowB_len hE hEl hp.2
  refine ⟨20, ?_⟩
  rw [run_cmpD]
  by_cases hne : D.length = E.length
  · rw [show ((D.length : Int) != (E.length : Int)) = false by simp; omega]
    dsimp only
    have h0 : IntKind.i64.wrap ((D.length : Int) - 1) = (D.length : Int) - 1 := by rw [wrap_z (by omega) (by omega)]
    rw [h0]
    refine loop_fuel (fun M (k : Nat) => lp_cmpD4 20 M (st_cmpD4 D.length E.length ((k : Int) - 1) D E) (kt_cmpD4 20 (kEnd Try.f176 2))) (fun k => k ≤ D.length ∧ D.drop k = E.drop k) (fun k => k)
      (fun o => o = some (.int .i64 (cmpI (nv D) (nv E)), [.at false (.int .u32 D), .at false (.int .u32 E)])) (fun M k hs => ?_) (s := D.length) ⟨Nat.le_refl _, by rw [List.drop_of_length_le (Nat.le_refl _), List.drop_of_length_le (by omega)]⟩ (by show _ < 20; omega)
    obtain ⟨hk, he⟩ := hs
    cases k with
    | zero =>
      left
      simp only [List.drop_zero] at he
      subst he
      simp only [step_cmpD4, decide_eq_false (show ¬ ((((0 : Nat) : Int) - 1) ≥ 0) by omega), end_cmpD4_1, cmpI, Nat.lt_irrefl, if_false, if_true]
    | succ k =>
      obtain ⟨x, hx, hxb, _⟩ := nat_get hD (show k < D.length by omega)
      obtain ⟨y, hy, hyb, _⟩ := nat_get hE (show k < E.length by omega)
      have e1 : (((k + 1 : Nat) : Int) - 1) = (k : Int) := by omega
      by_cases hxy : x = y
      · right
        subst hxy
        refine ⟨k, ⟨by omega, ?_⟩, by omega, ?_⟩
        · rw [List.drop_eq_getElem_cons (show k < D.length by omega), List.drop_eq_getElem_cons (show k < E.length by omega), he]
          congr 1
          have h1 := List.getElem?_eq_getElem (show k < D.length by omega)
          have h2 := List.getElem?_eq_getElem (show k < E.length by omega)
          rw [hx] at h1
          rw [hy] at h2
          exact (Option.some.inj h1).symm.trans (Option.some.inj h2)
        · simp only [step_cmpD4, e1, decide_eq_true (show (k : Int) ≥ 0 by omega), din (show k < D.length by omega), din (show k < E.length by omega), ix, hx, hy, show ((x : Int) != (x : Int)) = false by simp]
          rw [wrap_z (by omega) (by omega)]
      · left
        simp only [step_cmpD4, e1, decide_eq_true (show (k : Int) ≥ 0 by omega), din (show k < D.length by omega), din (show k < E.length by omega), ix, hx, hy, show ((x : Int) != (y : Int)) = true by simp; omega]
        rcases Nat.lt_or_gt_of_ne hxy with h | h
        · have := cmp_top hD hE hx hy he h
          simp only [decide_eq_true (show (x : Int) < (y : Int) by omega), end_cmpD4_0, cmpI, if_pos this]
        · have := cmp_top hE hD hy hx he.symm h
          simp only [decide_eq_false (show ¬ ((x : Int) < (y : Int)) by omega), end_cmpD4_0, cmpI, if_neg (show ¬ nv D < nv E by omega), if_neg (show ¬ nv D = nv E by omega)]
  · rw [show ((D.length : Int) != (E.length : Int)) = true by simp; omega]
    dsimp only
    rw [wrap_z (by omega) (by omega)]
    rcases Nat.lt_or_gt_of_ne hne with h | h
    · have := cmp_len hD hE hEl h
      unfold cmpI
      rw [if_pos this, if_pos (show (D.length : Int) - (E.length : Int) < 1 by omega)]
      by_cases h2 : (D.length : Int) - (E.length : Int) > -1
      · omega
      · rw [if_neg h2]
    · have := cmp_len hE hD hDl h
      unfold cmpI
      rw [if_neg (show ¬ nv D < nv E by omega), if_neg (show ¬ nv D = nv E by omega), if_neg (show ¬ ((D.length : Int) - (E.length : Int) < 1) by omega), if_pos (by omega)]
def an_dblD : Ann := ⟨fun r => if r = 3 then some ([0, 1, 5, 6, 13, 14, 15], [0, 5, 6]) else none, fun _ _ => .quiet⟩
def tab_dblD : Fns := tabT []
theorem tabok_dblD : ∀ f, FnT Try.prog f (tab_dblD f) := tabT_nil
def st_dblD3 (a0n : Nat) (by1 : Int) (out5n : Nat) (carry6 : Int) (t14 : Int) (t15 : Int) (rw0 : Bool) (l0 : List Int) (l1 : List Int) : St := ⟨(.ro 0 a0n :: .int .u64 by1 :: .any :: .any :: .any :: .sl 1 0 out5n :: .int .u64 carry6 :: (anys 6 (.ro 0 a0n :: .int .i64 t14 :: .int .i64 t15 :: (anys 25 [])))), [.at rw0 (.int .u32 l0), .at true (.int .u32 l1)]⟩
abbrev kp_dblD3 : Option (List Nat × List Nat) := some ([0, 1, 5, 6, 13, 14, 15], [0, 5, 6])
noncomputable def lp_dblD3 {R : Type} (N M : Nat) (s : St) (K : X → St → Option R) : Option R := loopH 1 kp_dblD3 (fun st K => exec ty tab_dblD an_dblD N 1 (atOf [true, true, false, true, false, false] Try.f180) st K) M s K
noncomputable def kt_dblD3 {R : Type} (N : Nat) (K : X → St → Option R) : X → St → Option R := kBlkR 0 (kSeqR tab_dblD an_dblD N 1 (atOf [true, true, true] Try.f180) (K))
def en_dblD3_0 (a0n : Nat) (out5n : Nat) (carry6 : Int) (rw0 : Bool) (l0 : List Int) (l1 : List Int) : St := ⟨(.ro 0 a0n :: .any :: .any :: .any :: .any :: .sl 1 0 out5n :: .int .u64 carry6 :: (anys 34 [])), [.at rw0 (.int .u32 l0), .at true (.int .u32 l1)]⟩
theorem run_dblD (N : Nat) (n : Nat) (y : Int) (r : Bool) (A : List Int) : run ty tab_dblD an_dblD N Try.f180 [.ro 0 n, .int .u64 y] [.at r (.int .u32 A)]
    = (match decide (0 ≤ (IntKind.i64.wrap (((n : Nat) : Int) + 1) : Int) ∧ (IntKind.i64.wrap (((n : Nat) : Int) + 1) : Int) ≤ (IntKind.i64.wrap (((n : Nat) : Int) + 1)) ∧ (IntKind.i64.wrap (((n : Nat) : Int) + 1) : Int) ≤ 9223372036854775807 ∧ (IntKind.i64.wrap (((n : Nat) : Int) + 1) : Int).toNat * 4 ≤ 140737488355328 ∧ 0 < 1 ∧ 1 = 1) with | true => lp_dblD3 N N (st_dblD3 n y ((IntKind.i64.wrap (((n : Nat) : Int) + 1) : Int).toNat) 0 ((n : Nat) : Int) 0 r A (List.replicate ((IntKind.i64.wrap (((n : Nat) : Int) + 1) : Int).toNat) (0 : Int))) (kt_dblD3 N (kEnd Try.f180 1)) | false => none) := by
  kernel_rfl
theorem step_dblD3 {R : Type} (N M : Nat) (K : X → St → Option R) (a0n : Nat) (by1 : Int) (out5n : Nat) (carry6 : Int) (t14 : Int) (t15 : Int) (rw0 : Bool) (l0 : List Int) (l1 : List Int) : lp_dblD3 N (M + 1) (st_dblD3 a0n by1 out5n carry6 t14 t15 rw0 l0 l1) K
    = (match decide ((t15 : Int) < t14) with | true => (match decide (0 ≤ (t15 : Int) ∧ (t15 : Int) < ((a0n : Nat) : Int)) with | true => (match l0[0 + (t15).toNat * 1]? with | some e1 => (match decide (by1 < 0) with | true => none | false => (match decide (0 ≤ (t15 : Int) ∧ (t15 : Int) < ((out5n : Nat) : Int)) with | true => (match decide (0 + (t15).toNat * 1 < l1.length) with | true => lp_dblD3 N M (st_dblD3 a0n by1 out5n (Int.fdiv (IntKind.u64.wrap (BitVec.ofInt 64 carry6 ||| BitVec.ofInt 64 (IntKind.u64.wrap ((IntKind.u64.wrap e1) * 2 ^ (min (Int.toNat by1) 64)))).toNat) (2 ^ 32)) t14 (IntKind.i64.wrap (t15 + 1)) rw0 l0 (l1.set (0 + (t15).toNat * 1) (IntKind.u32.wrap (IntKind.u64.wrap (BitVec.ofInt 64 carry6 ||| BitVec.ofInt 64 (IntKind.u64.wrap ((IntKind.u64.wrap e1) * 2 ^ (min (Int.toNat by1) 64)))).toNat)))) K | false => none) | false => none)) | none => none) | false => none) | false => K (.exit 0) (en_dblD3_0 a0n out5n carry6 rw0 l0 l1)) := by
  kernel_rfl
theorem end_dblD3_0 (N : Nat) (a0n : Nat) (out5n : Nat) (carry6 : Int) (rw0 : Bool) (l0 : List Int) (l1 : List Int) : kt_dblD3 N (kEnd Try.f180 1) (.exit 0) (en_dblD3_0 a0n out5n carry6 rw0 l0 l1)
    = (match decide (0 ≤ (((a0n : Nat) : Int) : Int) ∧ (((a0n : Nat) : Int) : Int) < ((out5n : Nat) : Int)) with | true => (match decide (0 + (((a0n : Nat) : Int)).toNat * 1 < l1.length) with | true => some (.sl 1 0 out5n, [.at rw0 (.int .u32 l0), .at true (.int .u32 (l1.set (0 + (((a0n : Nat) : Int)).toNat * 1) (IntKind.u32.wrap carry6)))]) | false => none) | false => none) := by
  kernel_rfl
def digB (A : List Int) : Bool := A.all fun d => decide (0 ≤ d ∧ d < 4294967296)
theorem digB_iff {A : List Int} : digB A = true ↔ okD A := by
  unfold digB okD
  rw [List.all_eq_true]
  exact ⟨fun h d hd => of_decide_eq_true (h d hd), fun h d hd => decide_eq_true (h d hd)⟩
def dbOk (n : Nat) (A : List Int) (y : Int) : Bool := decide (n = A.length ∧ n ≤ 16 ∧ 0 ≤ y ∧ y ≤ 31) && digB A
def gDblD : GT := fun vs h => match vs, h with
  | [.u (.a (.ro 0 n)), .int .u64 y], [.at r (.int .u32 A)] => .ite (dbOk n A y) (.ret (.sl 1 0 (n + 1)) [.at r (.int .u32 A), .at true (.int .u32 (dg (n + 1) (nv A * 2 ^ y.toNat)))]) .no
  | _, _ => .no
theorem or_shift {c x y : Nat} (hc : c < 2 ^ y) (h : c + x * 2 ^ y < 18446744073709551616) : (BitVec.ofInt 64 (c : Int) ||| BitVec.ofInt 64 ((x * 2 ^ y : Nat) : Int)).toNat = c + x * 2 ^ y := by
  have e : ∀ n : Nat, n < 18446744073709551616 → (BitVec.ofInt 64 (n : Int)).toNat = n := by
    intro n hn
    simp [BitVec.toNat_ofInt]
    omega
  rw [BitVec.toNat_or, e _ (by omega), e _ (by omega)]
  have := Nat.two_pow_add_eq_or_of_lt (i := y) hc x
  rw [Nat.mul_comm x, Nat.add_comm c, this, Nat.or_comm]
theorem pow31 {y : Nat} (h : y ≤ 31) : 2 ^ y ≤ 2147483648 := Nat.pow_le_pow_right (n := 2) (by decide) h
theorem ok_dblD : FnT Try.prog 180 gDblD := by
  refine fnT tabok_dblD Try.func180 rfl rfl an_dblD fun vs h v h' e => ⟨30, ?_⟩
  unfold gDblD at e
  split at e
  case h_2 => exact (T.no_inv e).elim
  rename_i n y r A
  obtain ⟨hd, e⟩ := T.pre_inv e
  obtain ⟨rfl, rfl⟩ := T.ret_inv e
  unfold dbOk at hd
  rw [Bool.and_eq_true] at hd
  obtain ⟨rfl, hn, hy0, hy⟩ := of_decide_eq_true hd.1
  have hA := digB_iff.mp hd.2
  have hAv := nv_lt hA
  obtain ⟨y, rfl⟩ : ∃ m : Nat, y = (m : Int) := ⟨y.toNat, by omega⟩
  rw [Int.toNat_natCast]
  have hp := pow31 (show y ≤ 31 by omega)
  have hp0 : 0 < 2 ^ y := Nat.pow_pos (by decide)
  have hw : IntKind.i64.wrap ((A.length : Int) + 1) = ((A.length + 1 : Nat) : Int) := wr (by omega)
  rw [run_dblD, hw, decide_eq_true (by omega)]
  dsimp only
  rw [Int.toNat_natCast]
  refine loop_fuel (fun M (s : Nat × Nat × List Int) => lp_dblD3 30 M (st_dblD3 A.length (y : Int) (A.length + 1) (s.2.1 : Int) (A.length : Int) (s.1 : Int) r A s.2.2) (kt_dblD3 30 (kEnd Try.f180 1)))
    (fun s => s.1 ≤ A.length ∧ okD s.2.2 ∧ s.2.2.length = A.length + 1 ∧ s.2.1 < 2 ^ y ∧ nv (s.2.2.drop s.1) = 0 ∧ nv s.2.2 + 4294967296 ^ s.1 * s.2.1 = (nv A % 4294967296 ^ s.1) * 2 ^ y) (fun s => A.length - s.1)
    (fun o => o = some (.sl 1 0 (A.length + 1), [.at r (.int .u32 A), .at true (.int .u32 (dg (A.length + 1) (nv A * 2 ^ y)))])) (fun M s hs => ?_) (s := (0, 0, List.replicate (A.length + 1) 0)) ⟨Nat.zero_le _, .zeros _, by simp, hp0, by simp [nv_zeros], by simp [nv_zeros, Nat.mod_one]⟩ (by show _ < 30; dsimp only; omega)
  obtain ⟨i, c, l⟩ := s
  obtain ⟨hi, hl, hlen, hc, hz, hv⟩ := hs
  dsimp only at hi hl hlen hc hz hv ⊢
  obtain ⟨o, ho, hob, _⟩ := nat_get hl (show i < l.length by omega)
  have ho0 := drop_zero hl hz (Nat.le_refl _) ho
  by_cases h1 : i < A.length
  · right
    obtain ⟨x, hx, hxb, hxd⟩ := nat_get hA h1
    have hm : min (Int.toNat (y : Int)) 64 = y := by omega
    have hx2 : x * 2 ^ y ≤ 4294967295 * 2147483648 := Nat.mul_le_mul (by omega) hp
    have e1 : IntKind.u64.wrap (IntKind.u64.wrap (x : Int) * 2 ^ (min (Int.toNat (y : Int)) 64)) = ((x * 2 ^ y : Nat) : Int) := by
      rw [hm, wrap64 (n := x) (by omega), show (x : Int) * 2 ^ y = ((x * 2 ^ y : Nat) : Int) by rw [Int.natCast_mul, Int.natCast_pow]; rfl, wrap64 (by omega)]
    have e2 : IntKind.u64.wrap (((BitVec.ofInt 64 (c : Int) ||| BitVec.ofInt 64 ((x * 2 ^ y : Nat) : Int)).toNat : Nat) : Int) = ((c + x * 2 ^ y : Nat) : Int) := by
      rw [or_shift hc (by omega), wrap64 (by omega)]
    refine ⟨(i + 1, (c + x * 2 ^ y) / 4294967296, l.set i (((c + x * 2 ^ y) % 4294967296 : Nat) : Int)), ⟨by dsimp only; omega, hl.set _ (by omega), by simpa using hlen, ?_, by dsimp only; rw [drop_set (by omega)]; exact drop_le hz (by omega) (by omega), ?_⟩, by dsimp only; omega, ?_⟩
    · dsimp only
      rw [Nat.div_lt_iff_lt_mul (by decide)]
      have h3 : x * 2 ^ y + 2 ^ y ≤ 4294967296 * 2 ^ y := by rw [← Nat.succ_mul]; exact Nat.mul_le_mul_right _ hxb
      rw [Nat.mul_comm (2 ^ y)]
      omega
    · dsimp only
      have h3 := nv_set ho (((c + x * 2 ^ y) % 4294967296 : Nat) : Int)
      rw [Int.toNat_natCast, Int.toNat_natCast, show o = 0 by omega, Nat.mul_zero, Nat.add_zero] at h3
      rw [h3, mod_succ, ← hxd, Nat.pow_succ, Nat.mul_assoc, Nat.add_assoc (nv l), ← Nat.mul_add, Nat.mod_add_div, Nat.mul_add, Nat.add_mul, ← hv, Nat.mul_assoc]
      omega
    · simp only [step_dblD3, dlt h1, din h1, ix, hx, decide_eq_false (show ¬ ((y : Int) < 0) by omega), din (show i < A.length + 1 by omega), decide_eq_true (show i < l.length by omega), e1, e2, wrap32, shr32, wr (show i < 2147483648 by omega)]
  · left
    have e : i = A.length := by omega
    subst e
    have hcb : c < 4294967296 := by omega
    have h3 := nv_set ho (c : Int)
    rw [Int.toNat_natCast, Int.toNat_natCast, show o = 0 by omega, Nat.mul_zero, Nat.add_zero, hv, mod_all hAv (Nat.le_refl _)] at h3
    have h4 := eq_dg (hl.set A.length (x := (c : Int)) (by omega))
    rw [List.length_set, hlen, h3] at h4
    simp only [step_dblD3, dge (Nat.le_refl _), end_dblD3_0, din (show A.length < A.length + 1 by omega), ix, decide_eq_true (show A.length < l.length by omega), wrap32, Nat.mod_eq_of_lt hcb, h4]
end Go.Proofs.Ytbhfjdlhhjeknaa.Ab

namespace Go.Proofs.Ytbhfjdlhhjeknaa.Ab
set_option linter.unusedVariables false
set_option linter.unusedSimpArgs false
open Go
def an_dvd : Ann := ⟨fun r => if r = 5 then some ([0, 1, 6, 7], [0, 1, 6, 7]) else if r = 12 then some ([6, 7, 8, 9, 10, 11, 12], [6, 7, 8, 10]) else if r = 19 then some ([6, 7, 8, 9, 10, 11, 12, 14, 15, 16], [6, 7, 8, 9, 10, 11, 12, 14]) else if r = 23 then some ([6, 7, 8, 9, 10, 11, 12, 14, 17, 145, 146, 147], [6, 7, 8, 9, 10, 11, 12, 14, 17]) else if r = 39 then some ([6, 7, 8, 9, 10, 11, 12, 14, 23, 207, 208, 209], [6, 7, 8, 9, 10, 11, 12, 14, 23]) else if r = 49 then some ([6, 7, 10, 26, 255, 256], [10, 26]) else none, fun r n => if r = 7 ∧ n = 2 then .grow else if r = 7 ∧ n = 5 then .grow else .quiet⟩
def tab_dvd : Fns := tabT [(180, gDblD)]
theorem tabok_dvd : ∀ f, FnT Try.prog f (tab_dvd f) := (tabT_cons (k := 180) ok_dblD tabT_nil)
def st_dvd5 (t0n : Nat) (t1n : Nat) (t6 : Int) (t7 : Int) (l0 : List Int) (l1 : List Int) : St := ⟨(.ro 0 t0n :: .ro 1 t1n :: .any :: .any :: .any :: .any :: .int .i64 t6 :: .int .u64 t7 :: (anys 278 [])), [.at false (.int .u32 l0), .at false (.int .u32 l1)]⟩
abbrev kp_dvd5 : Option (List Nat × List Nat) := some ([0, 1, 6, 7], [0, 1, 6, 7])
noncomputable def lp_dvd5 {R : Type} (N M : Nat) (s : St) (K : X → St → Option R) : Option R := loopH 2 kp_dvd5 (fun st K => exec ty tab_dvd an_dvd N 2 (atOf [true, true, true, true, false, false, false] Try.f162) st K) M s K
noncomputable def kt_dvd5 {R : Type} (N : Nat) (K : X → St → Option R) : X → St → Option R := kBlkR 0 (kSeqR tab_dvd an_dvd N 2 (atOf [true, true, true, true, true] Try.f162) (K))
def st_dvd12 (t6 : Int) (t7 : Int) (t8n : Nat) (t9n : Nat) (t10n : Nat) (t11 : Int) (t12 : Int) (l0 : List Int) (l1 : List Int) (l2 : List Int) (l3 : List Int) (l4 : List Int) : St := ⟨(anys 6 (.int .i64 t6 :: .int .u64 t7 :: .sl 2 0 t8n :: .sl 3 0 t9n :: .sl 4 0 t10n :: .int .u64 t11 :: .int .i64 t12 :: (anys 273 []))), [.at false (.int .u32 l0), .at false (.int .u32 l1), .at true (.int .u32 l2), .at true (.int .u32 l3), .at true (.int .u32 l4)]⟩
abbrev kp_dvd12 : Option (List Nat × List Nat) := some ([6, 7, 8, 9, 10, 11, 12], [6, 7, 8, 10])
noncomputable def lp_dvd12 {R : Type} (N M : Nat) (s : St) (K : X → St → Option R) : Option R := loopH 2 kp_dvd12 (fun st K => exec ty tab_dvd an_dvd N 2 (atOf [true, true, true, true, true, true, true, true, false, true, false, false] Try.f162) st K) M s K
noncomputable def bk_dvd12 {R : Type} (N M : Nat) (K : X → St → Option R) : X → St → Option R := fun x st => match x with | .norm => tidyK 2 (kp_dvd12.map (·.1)) st fun st => lp_dvd12 N M st K | x => tidyK 2 (kp_dvd12.map (·.2)) st fun st => K x st
noncomputable def kt_dvd12 {R : Type} (N : Nat) (K : X → St → Option R) : X → St → Option R := kBlkR 2 (kSeqR tab_dvd an_dvd N 2 (atOf [true, true, true, true, true, true, true, true, true] Try.f162) (K))
def st_dvd19 (t6 : Int) (t7 : Int) (t8n : Nat) (t9n : Nat) (t10n : Nat) (t11 : Int) (t12 : Int) (t14 : Int) (t15 : Int) (t16 : Int) (l0 : List Int) (l1 : List Int) (l2 : List Int) (l3 : List Int) (l4 : List Int) : St := ⟨(anys 6 (.int .i64 t6 :: .int .u64 t7 :: .sl 2 0 t8n :: .sl 3 0 t9n :: .sl 4 0 t10n :: .int .u64 t11 :: .int .i64 t12 :: .any :: .int .u64 t14 :: .int .u64 t15 :: .int .u64 t16 :: (anys 269 []))), [.at false (.int .u32 l0), .at false (.int .u32 l1), .at true (.int .u32 l2), .at true (.int .u32 l3), .at true (.int .u32 l4)]⟩
abbrev kp_dvd19 : Option (List Nat × List Nat) := some ([6, 7, 8, 9, 10, 11, 12, 14, 15, 16], [6, 7, 8, 9, 10, 11, 12, 14])
noncomputable def lp_dvd19 {R : Type} (N M : Nat) (s : St) (K : X → St → Option R) : Option R := loopH 2 kp_dvd19 (fun st K => exec ty tab_dvd an_dvd N 2 (atOf [true, true, true, true, true, true, true, true, false, true, false, false, true, false, false, true, true, true, true, false, false, false] Try.f162) st K) M s K
noncomputable def kt_dvd19 {R : Type} (N : Nat) (K : X → St → Option R) : X → St → Option R := kBlkR 4 (kSeqR tab_dvd an_dvd N 2 (atOf [true, true, true, true, true, true, true, true, false, true, false, false, true, false, false, true, true, true, true, true] Try.f162) (kBlkR 3 (kSeqR tab_dvd an_dvd N 2 (atOf [true, true, true, true, true, true, true, true, false, true, false, false, true, true] Try.f162) (K))))
def st_dvd23 (t6 : Int) (t7 : Int) (t8n : Nat) (t9n : Nat) (t10n : Nat) (t11 : Int) (t12 : Int) (t14 : Int) (t17 : Int) (t146 : Int) (t147 : Int) (l0 : List Int) (l1 : List Int) (l2 : List Int) (l3 : List Int) (l4 : List Int) : St := ⟨(anys 6 (.int .i64 t6 :: .int .u64 t7 :: .sl 2 0 t8n :: .sl 3 0 t9n :: .sl 4 0 t10n :: .int .u64 t11 :: .int .i64 t12 :: .any :: .int .u64 t14 :: .any :: .any :: .int .u64 t17 :: (anys 127 (.sl 3 0 t9n :: .int .i64 t146 :: .int .i64 t147 :: (anys 138 []))))), [.at false (.int .u32 l0), .at false (.int .u32 l1), .at true (.int .u32 l2), .at true (.int .u32 l3), .at true (.int .u32 l4)]⟩
abbrev kp_dvd23 : Option (List Nat × List Nat) := some ([6, 7, 8, 9, 10, 11, 12, 14, 17, 145, 146, 147], [6, 7, 8, 9, 10, 11, 12, 14, 17])
noncomputable def lp_dvd23 {R : Type} (N M : Nat) (s : St) (K : X → St → Option R) : Option R := loopH 2 kp_dvd23 (fun st K => exec ty tab_dvd an_dvd N 2 (atOf [true, true, true, true, true, true, true, true, false, true, false, false, true, false, false, true, true, true, true, true, true, false, true, false, false] Try.f162) st K) M s K
noncomputable def kt_dvd23 {R : Type} (N : Nat) (K : X → St → Option R) : X → St → Option R := kBlkR 6 (kSeqR tab_dvd an_dvd N 2 (atOf [true, true, true, true, true, true, true, true, false, true, false, false, true, false, false, true, true, true, true, true, true, true] Try.f162) (kBlkR 3 (kSeqR tab_dvd an_dvd N 2 (atOf [true, true, true, true, true, true, true, true, false, true, false, false, true, true] Try.f162) (K))))
def st_dvd39 (t6 : Int) (t7 : Int) (t8n : Nat) (t9n : Nat) (t10n : Nat) (t11 : Int) (t12 : Int) (t14 : Int) (t23 : Int) (t208 : Int) (t209 : Int) (l0 : List Int) (l1 : List Int) (l2 : List Int) (l3 : List Int) (l4 : List Int) : St := ⟨(anys 6 (.int .i64 t6 :: .int .u64 t7 :: .sl 2 0 t8n :: .sl 3 0 t9n :: .sl 4 0 t10n :: .int .u64 t11 :: .int .i64 t12 :: .any :: .int .u64 t14 :: (anys 8 (.int .u64 t23 :: (anys 183 (.sl 3 0 t9n :: .int .i64 t208 :: .int .i64 t209 :: (anys 76 []))))))), [.at false (.int .u32 l0), .at false (.int .u32 l1), .at true (.int .u32 l2), .at true (.int .u32 l3), .at true (.int .u32 l4)]⟩
abbrev kp_dvd39 : Option (List Nat × List Nat) := some ([6, 7, 8, 9, 10, 11, 12, 14, 23, 207, 208, 209], [6, 7, 8, 9, 10, 11, 12, 14, 23])
noncomputable def lp_dvd39 {R : Type} (N M : Nat) (s : St) (K : X → St → Option R) : Option R := loopH 2 kp_dvd39 (fun st K => exec ty tab_dvd an_dvd N 2 (atOf [true, true, true, true, true, true, true, true, false, true, false, false, true, false, false, true, true, true, true, true, true, true, true, true, false, true, false, true, true, false, true, false, false] Try.f162) st K) M s K
noncomputable def kt_dvd39 {R : Type} (N : Nat) (K : X → St → Option R) : X → St → Option R := kBlkR 8 (kSeqR tab_dvd an_dvd N 2 (atOf [true, true, true, true, true, true, true, true, false, true, false, false, true, false, false, true, true, true, true, true, true, true, true, true, false, true, false, true, true, true] Try.f162) (kSeqR tab_dvd an_dvd N 2 (atOf [true, true, true, true, true, true, true, true, false, true, false, false, true, false, false, true, true, true, true, true, true, true, true, true, true] Try.f162) (kBlkR 3 (kSeqR tab_dvd an_dvd N 2 (atOf [true, true, true, true, true, true, true, true, false, true, false, false, true, true] Try.f162) (K)))))
def st_dvd49 (t6 : Int) (t7 : Int) (t10n : Nat) (t26n : Nat) (t255 : Int) (t256 : Int) (l0 : List Int) (l1 : List Int) (l2 : List Int) (l3 : List Int) : St := ⟨(anys 6 (.int .i64 t6 :: .int .u64 t7 :: .any :: .any :: .sl 2 0 t10n :: (anys 15 (.sl 3 0 t26n :: (anys 228 (.int .i64 t255 :: .int .i64 t256 :: (anys 29 []))))))), [.at false (.int .u32 l0), .at false (.int .u32 l1), .at true (.int .u32 l2), .at true (.int .u32 l3)]⟩
abbrev kp_dvd49 : Option (List Nat × List Nat) := some ([6, 7, 10, 26, 255, 256], [10, 26])
noncomputable def lp_dvd49 {R : Type} (N M : Nat) (s : St) (K : X → St → Option R) : Option R := loopH 2 kp_dvd49 (fun st K => exec ty tab_dvd an_dvd N 2 (atOf [true, true, true, true, true, true, true, true, true, true, false, true, false, false] Try.f162) st K) M s K
noncomputable def kt_dvd49 {R : Type} (N : Nat) (K : X → St → Option R) : X → St → Option R := kBlkR 10 (kSeqR tab_dvd an_dvd N 2 (atOf [true, true, true, true, true, true, true, true, true, true, true] Try.f162) (K))
def en_dvd5_0 (t0n : Nat) (t1n : Nat) (t6 : Int) (t7 : Int) (l0 : List Int) (l1 : List Int) : St := ⟨(.ro 0 t0n :: .ro 1 t1n :: .any :: .any :: .any :: .any :: .int .i64 t6 :: .int .u64 t7 :: (anys 278 [])), [.at false (.int .u32 l0), .at false (.int .u32 l1)]⟩
def en_dvd12_0 (t6 : Int) (t7 : Int) (t8n : Nat) (t10n : Nat) (l0 : List Int) (l1 : List Int) (l2 : List Int) (l3 : List Int) : St := ⟨(anys 6 (.int .i64 t6 :: .int .u64 t7 :: .sl 2 0 t8n :: .any :: .sl 3 0 t10n :: (anys 275 []))), [.at false (.int .u32 l0), .at false (.int .u32 l1), .at true (.int .u32 l2), .at true (.int .u32 l3)]⟩
def en_dvd19_0 (t6 : Int) (t7 : Int) (t8n : Nat) (t9n : Nat) (t10n : Nat) (t11 : Int) (t12 : Int) (t14 : Int) (l0 : List Int) (l1 : List Int) (l2 : List Int) (l3 : List Int) (l4 : List Int) : St := ⟨(anys 6 (.int .i64 t6 :: .int .u64 t7 :: .sl 2 0 t8n :: .sl 3 0 t9n :: .sl 4 0 t10n :: .int .u64 t11 :: .int .i64 t12 :: .any :: .int .u64 t14 :: (anys 271 []))), [.at false (.int .u32 l0), .at false (.int .u32 l1), .at true (.int .u32 l2), .at true (.int .u32 l3), .at true (.int .u32 l4)]⟩
def en_dvd49_0 (t10n : Nat) (t26n : Nat) (l0 : List Int) (l1 : List Int) (l2 : List Int) (l3 : List Int) : St := ⟨(anys 10 (.sl 2 0 t10n :: (anys 15 (.sl 3 0 t26n :: (anys 259 []))))), [.at false (.int .u32 l0), .at false (.int .u32 l1), .at true (.int .u32 l2), .at true (.int .u32 l3)]⟩
def en_dvd23_0 (t6 : Int) (t7 : Int) (t8n : Nat) (t9n : Nat) (t10n : Nat) (t11 : Int) (t12 : Int) (t14 : Int) (t17 : Int) (l0 : List Int) (l1 : List Int) (l2 : List Int) (l3 : List Int) (l4 : List Int) : St := ⟨(anys 6 (.int .i64 t6 :: .int .u64 t7 :: .sl 2 0 t8n :: .sl 3 0 t9n :: .sl 4 0 t10n :: .int .u64 t11 :: .int .i64 t12 :: .any :: .int .u64 t14 :: .any :: .any :: .int .u64 t17 :: (anys 268 []))), [.at false (.int .u32 l0), .at false (.int .u32 l1), .at true (.int .u32 l2), .at true (.int .u32 l3), .at true (.int .u32 l4)]⟩
def en_dvd39_0 (t6 : Int) (t7 : Int) (t8n : Nat) (t9n : Nat) (t10n : Nat) (t11 : Int) (t12 : Int) (t14 : Int) (t23 : Int) (l0 : List Int) (l1 : List Int) (l2 : List Int) (l3 : List Int) (l4 : List Int) : St := ⟨(anys 6 (.int .i64 t6 :: .int .u64 t7 :: .sl 2 0 t8n :: .sl 3 0 t9n :: .sl 4 0 t10n :: .int .u64 t11 :: .int .i64 t12 :: .any :: .int .u64 t14 :: (anys 8 (.int .u64 t23 :: (anys 262 []))))), [.at false (.int .u32 l0), .at false (.int .u32 l1), .at true (.int .u32 l2), .at true (.int .u32 l3), .at true (.int .u32 l4)]⟩
theorem run_dvd (N : Nat) (n : Nat) (m : Nat) (A : List Int) (B : List Int) : run ty tab_dvd an_dvd N Try.f162 [.ro 0 n, .ro 1 m] [.at false (.int .u32 A), .at false (.int .u32 B)]
    = (match decide ((((n : Nat) : Int) : Int) < ((m : Nat) : Int)) with | true => some (.tup [.a (.nil), .a (.ro 0 n)], [.at false (.int .u32 A), .at false (.int .u32 B)]) | false => lp_dvd5 N N (st_dvd5 n m ((m : Nat) : Int) 0 A B) (kt_dvd5 N (kEnd Try.f162 2))) := by
  kernel_rfl
theorem step_dvd5 {R : Type} (N M : Nat) (K : X → St → Option R) (t0n : Nat) (t1n : Nat) (t6 : Int) (t7 : Int) (l0 : List Int) (l1 : List Int) : lp_dvd5 N (M + 1) (st_dvd5 t0n t1n t6 t7 l0 l1) K
    = (match decide (0 ≤ (IntKind.i64.wrap (t6 - 1) : Int) ∧ (IntKind.i64.wrap (t6 - 1) : Int) < ((t1n : Nat) : Int)) with | true => (match l1[0 + (IntKind.i64.wrap (t6 - 1)).toNat * 1]? with | some e1 => (match decide (t7 < 0) with | true => none | false => (match decide ((IntKind.u32.wrap (e1 * 2 ^ (min (Int.toNat t7) 32)) : Int) < 2147483648) with | true => lp_dvd5 N M (st_dvd5 t0n t1n t6 (IntKind.u64.wrap (t7 + 1)) l0 l1) K | false => K (.exit 0) (en_dvd5_0 t0n t1n t6 t7 l0 l1))) | none => none) | false => none) := by
  kernel_rfl
theorem step_dvd12 {R : Type} (N M : Nat) (K : X → St → Option R) (t6 : Int) (t7 : Int) (t8n : Nat) (t9n : Nat) (t10n : Nat) (t11 : Int) (t12 : Int) (l0 : List Int) (l1 : List Int) (l2 : List Int) (l3 : List Int) (l4 : List Int) : lp_dvd12 N (M + 1) (st_dvd12 t6 t7 t8n t9n t10n t11 t12 l0 l1 l2 l3 l4) K
    = (match decide ((t12 : Int) ≥ 0) with | true => (match decide (0 ≤ (IntKind.i64.wrap (t12 + t6) : Int) ∧ (IntKind.i64.wrap (t12 + t6) : Int) < ((t8n : Nat) : Int)) with | true => (match l2[0 + (IntKind.i64.wrap (t12 + t6)).toNat * 1]? with | some e1 => (match decide (0 ≤ (IntKind.i64.wrap ((IntKind.i64.wrap (t12 + t6)) - 1) : Int) ∧ (IntKind.i64.wrap ((IntKind.i64.wrap (t12 + t6)) - 1) : Int) < ((t8n : Nat) : Int)) with | true => (match l2[0 + (IntKind.i64.wrap ((IntKind.i64.wrap (t12 + t6)) - 1)).toNat * 1]? with | some e2 => (match decide (0 ≤ (IntKind.i64.wrap (t6 - 1) : Int) ∧ (IntKind.i64.wrap (t6 - 1) : Int) < ((t9n : Nat) : Int)) with | true => (match l3[0 + (IntKind.i64.wrap (t6 - 1)).toNat * 1]? with | some e3 => (match decide (IntKind.u64.wrap e3 = 0) with | true => none | false => (match decide (0 ≤ (IntKind.i64.wrap (t6 - 1) : Int) ∧ (IntKind.i64.wrap (t6 - 1) : Int) < ((t9n : Nat) : Int)) with | true => (match l3[0 + (IntKind.i64.wrap (t6 - 1)).toNat * 1]? with | some e4 => (match decide (IntKind.u64.wrap e4 = 0) with | true => none | false => (match decide ((t6 : Int) > 1) with | true => (match decide (0 ≤ (IntKind.i64.wrap ((IntKind.i64.wrap (t12 + t6)) - 2) : Int) ∧ (IntKind.i64.wrap ((IntKind.i64.wrap (t12 + t6)) - 2) : Int) < ((t8n : Nat) : Int)) with | true => (match l2[0 + (IntKind.i64.wrap ((IntKind.i64.wrap (t12 + t6)) - 2)).toNat * 1]? with | some e5 => lp_dvd19 N N (st_dvd19 t6 t7 t8n t9n t10n t11 t12 (IntKind.u64.wrap (Int.tdiv (IntKind.u64.wrap (BitVec.ofInt 64 (IntKind.u64.wrap ((IntKind.u64.wrap e1) * 2 ^ 32)) ||| BitVec.ofInt 64 (IntKind.u64.wrap e2)).toNat) (IntKind.u64.wrap e3))) (Int.tmod (IntKind.u64.wrap (BitVec.ofInt 64 (IntKind.u64.wrap ((IntKind.u64.wrap e1) * 2 ^ 32)) ||| BitVec.ofInt 64 (IntKind.u64.wrap e2)).toNat) (IntKind.u64.wrap e4)) (IntKind.u64.wrap e5) l0 l1 l2 l3 l4) (kt_dvd19 N (bk_dvd12 N M K)) | none => none) | false => none) | false => lp_dvd19 N N (st_dvd19 t6 t7 t8n t9n t10n t11 t12 (IntKind.u64.wrap (Int.tdiv (IntKind.u64.wrap (BitVec.ofInt 64 (IntKind.u64.wrap ((IntKind.u64.wrap e1) * 2 ^ 32)) ||| BitVec.ofInt 64 (IntKind.u64.wrap e2)).toNat) (IntKind.u64.wrap e3))) (Int.tmod (IntKind.u64.wrap (BitVec.ofInt 64 (IntKind.u64.wrap ((IntKind.u64.wrap e1) * 2 ^ 32)) ||| BitVec.ofInt 64 (IntKind.u64.wrap e2)).toNat) (IntKind.u64.wrap e4)) 0 l0 l1 l2 l3 l4) (kt_dvd19 N (bk_dvd12 N M K)))) | none => none) | false => none)) | none => none) | false => none) | none => none) | false => none) | none => none) | false => none) | false => K (.exit 2) (en_dvd12_0 t6 t7 t8n t10n l0 l1 l2 l4)) := by
  kernel_rfl
theorem step_dvd19 {R : Type} (N M : Nat) (K : X → St → Option R) (t6 : Int) (t7 : Int) (t8n : Nat) (t9n : Nat) (t10n : Nat) (t11 : Int) (t12 : Int) (t14 : Int) (t15 : Int) (t16 : Int) (l0 : List Int) (l1 : List Int) (l2 : List Int) (l3 : List Int) (l4 : List Int) : lp_dvd19 N (M + 1) (st_dvd19 t6 t7 t8n t9n t10n t11 t12 t14 t15 t16 l0 l1 l2 l3 l4) K
    = (match decide ((t15 : Int) < 4294967296) with | true => (match decide ((t14 : Int) ≥ 4294967296) with | true => (match decide (0 ≤ (IntKind.i64.wrap (t6 - 1) : Int) ∧ (IntKind.i64.wrap (t6 - 1) : Int) < ((t9n : Nat) : Int)) with | true => (match l3[0 + (IntKind.i64.wrap (t6 - 1)).toNat * 1]? with | some e1 => lp_dvd19 N M (st_dvd19 t6 t7 t8n t9n t10n t11 t12 (IntKind.u64.wrap (t14 - 1)) (IntKind.u64.wrap (t15 + (IntKind.u64.wrap e1))) t16 l0 l1 l2 l3 l4) K | none => none) | false => none) | false => (match decide ((IntKind.u64.wrap (t14 * t11) : Int) > (IntKind.u64.wrap (BitVec.ofInt 64 (IntKind.u64.wrap (t15 * 2 ^ 32)) ||| BitVec.ofInt 64 t16).toNat)) with | true => (match decide (0 ≤ (IntKind.i64.wrap (t6 - 1) : Int) ∧ (IntKind.i64.wrap (t6 - 1) : Int) < ((t9n : Nat) : Int)) with | true => (match l3[0 + (IntKind.i64.wrap (t6 - 1)).toNat * 1]? with | some e2 => lp_dvd19 N M (st_dvd19 t6 t7 t8n t9n t10n t11 t12 (IntKind.u64.wrap (t14 - 1)) (IntKind.u64.wrap (t15 + (IntKind.u64.wrap e2))) t16 l0 l1 l2 l3 l4) K | none => none) | false => none) | false => K (.exit 4) (en_dvd19_0 t6 t7 t8n t9n t10n t11 t12 t14 l0 l1 l2 l3 l4))) | false => K (.exit 4) (en_dvd19_0 t6 t7 t8n t9n t10n t11 t12 t14 l0 l1 l2 l3 l4)) := by
  kernel_rfl
theorem step_dvd23 {R : Type} (N M : Nat) (K : X → St → Option R) (t6 : Int) (t7 : Int) (t8n : Nat) (t9n : Nat) (t10n : Nat) (t11 : Int) (t12 : Int) (t14 : Int) (t17 : Int) (t146 : Int) (t147 : Int) (l0 : List Int) (l1 : List Int) (l2 : List Int) (l3 : List Int) (l4 : List Int) : lp_dvd23 N (M + 1) (st_dvd23 t6 t7 t8n t9n t10n t11 t12 t14 t17 t146 t147 l0 l1 l2 l3 l4) K
    = (match decide ((t147 : Int) < t146) with | true => (match decide (0 ≤ (t147 : Int) ∧ (t147 : Int) < ((t9n : Nat) : Int)) with | true => (match l3[0 + (t147).toNat * 1]? with | some e1 => (match decide (0 ≤ (IntKind.i64.wrap (t147 + t12) : Int) ∧ (IntKind.i64.wrap (t147 + t12) : Int) < ((t8n : Nat) : Int)) with | true => (match l2[0 + (IntKind.i64.wrap (t147 + t12)).toNat * 1]? with | some e2 => (match decide (0 ≤ (IntKind.i64.wrap (t147 + t12) : Int) ∧ (IntKind.i64.wrap (t147 + t12) : Int) < ((t8n : Nat) : Int)) with | true => (match decide (0 + (IntKind.i64.wrap (t147 + t12)).toNat * 1 < l2.length) with | true => (match decide ((IntKind.u64.wrap e2 : Int) < (IntKind.u64.wrap (BitVec.ofInt 64 (IntKind.u64.wrap (t17 + (IntKind.u64.wrap (t14 * (IntKind.u64.wrap e1))))) &&& BitVec.ofInt 64 4294967295).toNat)) with | true => lp_dvd23 N M (st_dvd23 t6 t7 t8n t9n t10n t11 t12 t14 (IntKind.u64.wrap ((Int.fdiv (IntKind.u64.wrap (t17 + (IntKind.u64.wrap (t14 * (IntKind.u64.wrap e1))))) (2 ^ 32)) + 1)) t146 (IntKind.i64.wrap (t147 + 1)) l0 l1 (l2.set (0 + (IntKind.i64.wrap (t147 + t12)).toNat * 1) (IntKind.u32.wrap (IntKind.u64.wrap ((IntKind.u64.wrap e2) - (IntKind.u64.wrap (BitVec.ofInt 64 (IntKind.u64.wrap (t17 + (IntKind.u64.wrap (t14 * (IntKind.u64.wrap e1))))) &&& BitVec.ofInt 64 4294967295).toNat))))) l3 l4) K | false => lp_dvd23 N M (st_dvd23 t6 t7 t8n t9n t10n t11 t12 t14 (Int.fdiv (IntKind.u64.wrap (t17 + (IntKind.u64.wrap (t14 * (IntKind.u64.wrap e1))))) (2 ^ 32)) t146 (IntKind.i64.wrap (t147 + 1)) l0 l1 (l2.set (0 + (IntKind.i64.wrap (t147 + t12)).toNat * 1) (IntKind.u32.wrap (IntKind.u64.wrap ((IntKind.u64.wrap e2) - (IntKind.u64.wrap (BitVec.ofInt 64 (IntKind.u64.wrap (t17 + (IntKind.u64.wrap (t14 * (IntKind.u64.wrap e1))))) &&& BitVec.ofInt 64 4294967295).toNat))))) l3 l4) K) | false => none) | false => none) | none => none) | false => none) | none => none) | false => none) | false => K (.exit 6) (en_dvd23_0 t6 t7 t8n t9n t10n t11 t12 t14 t17 l0 l1 l2 l3 l4)) := by
  kernel_rfl
theorem step_dvd39 {R : Type} (N M : Nat) (K : X → St → Option R) (t6 : Int) (t7 : Int) (t8n : Nat) (t9n : Nat) (t10n : Nat) (t11 : Int) (t12 : Int) (t14 : Int) (t23 : Int) (t208 : Int) (t209 : Int) (l0 : List Int) (l1 : List Int) (l2 : List Int) (l3 : List Int) (l4 : List Int) : lp_dvd39 N (M + 1) (st_dvd39 t6 t7 t8n t9n t10n t11 t12 t14 t23 t208 t209 l0 l1 l2 l3 l4) K
    = (match decide ((t209 : Int) < t208) with | true => (match decide (0 ≤ (t209 : Int) ∧ (t209 : Int) < ((t9n : Nat) : Int)) with | true => (match l3[0 + (t209).toNat * 1]? with | some e1 => (match decide (0 ≤ (IntKind.i64.wrap (t209 + t12) : Int) ∧ (IntKind.i64.wrap (t209 + t12) : Int) < ((t8n : Nat) : Int)) with | true => (match l2[0 + (IntKind.i64.wrap (t209 + t12)).toNat * 1]? with | some e2 => (match decide (0 ≤ (IntKind.i64.wrap (t209 + t12) : Int) ∧ (IntKind.i64.wrap (t209 + t12) : Int) < ((t8n : Nat) : Int)) with | true => (match decide (0 + (IntKind.i64.wrap (t209 + t12)).toNat * 1 < l2.length) with | true => lp_dvd39 N M (st_dvd39 t6 t7 t8n t9n t10n t11 t12 t14 (Int.fdiv (IntKind.u64.wrap (t23 + (IntKind.u64.wrap ((IntKind.u64.wrap e2) + (IntKind.u64.wrap e1))))) (2 ^ 32)) t208 (IntKind.i64.wrap (t209 + 1)) l0 l1 (l2.set (0 + (IntKind.i64.wrap (t209 + t12)).toNat * 1) (IntKind.u32.wrap (IntKind.u64.wrap (t23 + (IntKind.u64.wrap ((IntKind.u64.wrap e2) + (IntKind.u64.wrap e1))))))) l3 l4) K | false => none) | false => none) | none => none) | false => none) | none => none) | false => none) | false => K (.exit 8) (en_dvd39_0 t6 t7 t8n t9n t10n t11 t12 t14 t23 l0 l1 l2 l3 l4)) := by
  kernel_rfl
theorem step_dvd49 {R : Type} (N M : Nat) (K : X → St → Option R) (t6 : Int) (t7 : Int) (t10n : Nat) (t26n : Nat) (t255 : Int) (t256 : Int) (l0 : List Int) (l1 : List Int) (l2 : List Int) (l3 : List Int) : lp_dvd49 N (M + 1) (st_dvd49 t6 t7 t10n t26n t255 t256 l0 l1 l2 l3) K
    = (match decide ((t256 : Int) < t255) with | true => (match decide ((IntKind.i64.wrap (t256 + 1) : Int) < t6) with | true => (match decide (0 ≤ (IntKind.i64.wrap (t256 + 1) : Int) ∧ (IntKind.i64.wrap (t256 + 1) : Int) < ((t26n : Nat) : Int)) with | true => (match l3[0 + (IntKind.i64.wrap (t256 + 1)).toNat * 1]? with | some e1 => (match decide (0 ≤ (t256 : Int) ∧ (t256 : Int) < ((t26n : Nat) : Int)) with | true => (match l3[0 + (t256).toNat * 1]? with | some e2 => (match decide (t7 < 0) with | true => none | false => (match decide (0 ≤ (t256 : Int) ∧ (t256 : Int) < ((t26n : Nat) : Int)) with | true => (match decide (0 + (t256).toNat * 1 < l3.length) with | true => lp_dvd49 N M (st_dvd49 t6 t7 t10n t26n t255 (IntKind.i64.wrap (t256 + 1)) l0 l1 l2 (l3.set (0 + (t256).toNat * 1) (IntKind.u32.wrap (Int.fdiv (IntKind.u64.wrap (BitVec.ofInt 64 (IntKind.u64.wrap ((IntKind.u64.wrap e1) * 2 ^ 32)) ||| BitVec.ofInt 64 (IntKind.u64.wrap e2)).toNat) (2 ^ (min (Int.toNat t7) 64)))))) K | false => none) | false => none)) | none => none) | false => none) | none => none) | false => none) | false => (match decide (0 ≤ (t256 : Int) ∧ (t256 : Int) < ((t26n : Nat) : Int)) with | true => (match l3[0 + (t256).toNat * 1]? with | some e3 => (match decide (t7 < 0) with | true => none | false => (match decide (0 ≤ (t256 : Int) ∧ (t256 : Int) < ((t26n : Nat) : Int)) with | true => (match decide (0 + (t256).toNat * 1 < l3.length) with | true => lp_dvd49 N M (st_dvd49 t6 t7 t10n t26n t255 (IntKind.i64.wrap (t256 + 1)) l0 l1 l2 (l3.set (0 + (t256).toNat * 1) (IntKind.u32.wrap (Int.fdiv (IntKind.u64.wrap (BitVec.ofInt 64 0 ||| BitVec.ofInt 64 (IntKind.u64.wrap e3)).toNat) (2 ^ (min (Int.toNat t7) 64)))))) K | false => none) | false => none)) | none => none) | false => none)) | false => K (.exit 10) (en_dvd49_0 t10n t26n l0 l1 l2 l3)) := by
  kernel_rfl
theorem end_dvd5_0 (N : Nat) (t0n : Nat) (t1n : Nat) (t6 : Int) (t7 : Int) (l0 : List Int) (l1 : List Int) : kt_dvd5 N (kEnd Try.f162 2) (.exit 0) (en_dvd5_0 t0n t1n t6 t7 l0 l1)
    = (match dbOk t0n l0 t7 with | true => (match dbOk t1n l1 t7 with | true => (match decide (0 ≤ (0 : Int) ∧ (0 : Int) ≤ t6 ∧ (t6 : Int) ≤ ((t1n + 1 : Nat) : Int)) with | true => (match decide (0 ≤ (IntKind.i64.wrap ((IntKind.i64.wrap (((t0n : Nat) : Int) - t6)) + 1) : Int) ∧ (IntKind.i64.wrap ((IntKind.i64.wrap (((t0n : Nat) : Int) - t6)) + 1) : Int) ≤ (IntKind.i64.wrap ((IntKind.i64.wrap (((t0n : Nat) : Int) - t6)) + 1)) ∧ (IntKind.i64.wrap ((IntKind.i64.wrap (((t0n : Nat) : Int) - t6)) + 1) : Int) ≤ 9223372036854775807 ∧ (IntKind.i64.wrap ((IntKind.i64.wrap (((t0n : Nat) : Int) - t6)) + 1) : Int).toNat * 4 ≤ 140737488355328 ∧ 0 < 1 ∧ 1 = 1) with | true => (match decide ((t6 : Int) > 1) with | true => (match decide (0 ≤ (IntKind.i64.wrap (t6 - 2) : Int) ∧ (IntKind.i64.wrap (t6 - 2) : Int) < (((t6 - 0).toNat : Nat) : Int)) with | true => (match (dg (t1n + 1) (nv l1 * 2 ^ (t7 : Int).toNat))[0 + (IntKind.i64.wrap (t6 - 2)).toNat * 1]? with | some e1 => lp_dvd12 N N (st_dvd12 t6 t7 (t0n + 1) ((t6 - 0).toNat) ((IntKind.i64.wrap ((IntKind.i64.wrap (((t0n : Nat) : Int) - t6)) + 1) : Int).toNat) (IntKind.u64.wrap e1) (IntKind.i64.wrap (((t0n : Nat) : Int) - t6)) l0 l1 (dg (t0n + 1) (nv l0 * 2 ^ (t7 : Int).toNat)) (dg (t1n + 1) (nv l1 * 2 ^ (t7 : Int).toNat)) (List.replicate ((IntKind.i64.wrap ((IntKind.i64.wrap (((t0n : Nat) : Int) - t6)) + 1) : Int).toNat) (0 : Int))) (kt_dvd12 N (kEnd Try.f162 2)) | none => none) | false => none) | false => lp_dvd12 N N (st_dvd12 t6 t7 (t0n + 1) ((t6 - 0).toNat) ((IntKind.i64.wrap ((IntKind.i64.wrap (((t0n : Nat) : Int) - t6)) + 1) : Int).toNat) 0 (IntKind.i64.wrap (((t0n : Nat) : Int) - t6)) l0 l1 (dg (t0n + 1) (nv l0 * 2 ^ (t7 : Int).toNat)) (dg (t1n + 1) (nv l1 * 2 ^ (t7 : Int).toNat)) (List.replicate ((IntKind.i64.wrap ((IntKind.i64.wrap (((t0n : Nat) : Int) - t6)) + 1) : Int).toNat) (0 : Int))) (kt_dvd12 N (kEnd Try.f162 2))) | false => none) | false => none) | false => none) | false => none) := by
  kernel_rfl
theorem end_dvd12_0 (N : Nat) (t6 : Int) (t7 : Int) (t8n : Nat) (t10n : Nat) (l0 : List Int) (l1 : List Int) (l2 : List Int) (l3 : List Int) : kt_dvd12 N (kEnd Try.f162 2) (.exit 2) (en_dvd12_0 t6 t7 t8n t10n l0 l1 l2 l3)
    = (match decide (0 ≤ (0 : Int) ∧ (0 : Int) ≤ t6 ∧ (t6 : Int) ≤ ((t8n : Nat) : Int)) with | true => lp_dvd49 N N (st_dvd49 t6 t7 t10n ((t6 - 0).toNat) (((t6 - 0).toNat : Nat) : Int) 0 l0 l1 l3 l2) (kt_dvd49 N (kEnd Try.f162 2)) | false => none) := by
  kernel_rfl
theorem end_dvd19_0 {R : Type} (N M : Nat) (K : X → St → Option R) (t6 : Int) (t7 : Int) (t8n : Nat) (t9n : Nat) (t10n : Nat) (t11 : Int) (t12 : Int) (t14 : Int) (l0 : List Int) (l1 : List Int) (l2 : List Int) (l3 : List Int) (l4 : List Int) : kt_dvd19 N (bk_dvd12 N M K) (.exit 4) (en_dvd19_0 t6 t7 t8n t9n t10n t11 t12 t14 l0 l1 l2 l3 l4)
    = lp_dvd23 N N (st_dvd23 t6 t7 t8n t9n t10n t11 t12 t14 0 ((t9n : Nat) : Int) 0 l0 l1 l2 l3 l4) (kt_dvd23 N (bk_dvd12 N M K)) := by
  kernel_rfl
theorem end_dvd49_0 (N : Nat) (t10n : Nat) (t26n : Nat) (l0 : List Int) (l1 : List Int) (l2 : List Int) (l3 : List Int) : kt_dvd49 N (kEnd Try.f162 2) (.exit 10) (en_dvd49_0 t10n t26n l0 l1 l2 l3)
    = some (.tup [.a (.sl 2 0 t10n), .a (.sl 3 0 t26n)], [.at false (.int .u32 l0), .at false (.int .u32 l1), .at true (.int .u32 l2), .at true (.int .u32 l3)]) := by
  kernel_rfl
theorem end_dvd23_0 {R : Type} (N M : Nat) (K : X → St → Option R) (t6 : Int) (t7 : Int) (t8n : Nat) (t9n : Nat) (t10n : Nat) (t11 : Int) (t12 : Int) (t14 : Int) (t17 : Int) (l0 : List Int) (l1 : List Int) (l2 : List Int) (l3 : List Int) (l4 : List Int) : kt_dvd23 N (bk_dvd12 N M K) (.exit 6) (en_dvd23_0 t6 t7 t8n t9n t10n t11 t12 t14 t17 l0 l1 l2 l3 l4)
    = (match decide (0 ≤ (IntKind.i64.wrap (t12 + t6) : Int) ∧ (IntKind.i64.wrap (t12 + t6) : Int) < ((t8n : Nat) : Int)) with | true => (match l2[0 + (IntKind.i64.wrap (t12 + t6)).toNat * 1]? with | some e1 => (match decide (0 ≤ (IntKind.i64.wrap (t12 + t6) : Int) ∧ (IntKind.i64.wrap (t12 + t6) : Int) < ((t8n : Nat) : Int)) with | true => (match l2[0 + (IntKind.i64.wrap (t12 + t6)).toNat * 1]? with | some e2 => (match decide (0 ≤ (IntKind.i64.wrap (t12 + t6) : Int) ∧ (IntKind.i64.wrap (t12 + t6) : Int) < ((t8n : Nat) : Int)) with | true => (match decide (0 + (IntKind.i64.wrap (t12 + t6)).toNat * 1 < l2.length) with | true => (match decide ((IntKind.u64.wrap e1 : Int) < t17) with | true => lp_dvd39 N N (st_dvd39 t6 t7 t8n t9n t10n t11 t12 (IntKind.u64.wrap (t14 - 1)) 0 ((t9n : Nat) : Int) 0 l0 l1 (l2.set (0 + (IntKind.i64.wrap (t12 + t6)).toNat * 1) (IntKind.u32.wrap (e2 - (IntKind.u32.wrap t17)))) l3 l4) (kt_dvd39 N (bk_dvd12 N M K)) | false => (match decide (0 ≤ (t12 : Int) ∧ (t12 : Int) < ((t10n : Nat) : Int)) with | true => (match decide (0 + (t12).toNat * 1 < l4.length) with | true => lp_dvd12 N M (st_dvd12 t6 t7 t8n t9n t10n t11 (IntKind.i64.wrap (t12 - 1)) l0 l1 (l2.set (0 + (IntKind.i64.wrap (t12 + t6)).toNat * 1) (IntKind.u32.wrap (e2 - (IntKind.u32.wrap t17)))) l3 (l4.set (0 + (t12).toNat * 1) (IntKind.u32.wrap t14))) K | false => none) | false => none)) | false => none) | false => none) | none => none) | false => none) | none => none) | false => none) := by
  kernel_rfl
theorem end_dvd39_0 {R : Type} (N M : Nat) (K : X → St → Option R) (t6 : Int) (t7 : Int) (t8n : Nat) (t9n : Nat) (t10n : Nat) (t11 : Int) (t12 : Int) (t14 : Int) (t23 : Int) (l0 : List Int) (l1 : List Int) (l2 : List Int) (l3 : List Int) (l4 : List Int) : kt_dvd39 N (bk_dvd12 N M K) (.exit 8) (en_dvd39_0 t6 t7 t8n t9n t10n t11 t12 t14 t23 l0 l1 l2 l3 l4)
    = (match decide (0 ≤ (IntKind.i64.wrap (t12 + t6) : Int) ∧ (IntKind.i64.wrap (t12 + t6) : Int) < ((t8n : Nat) : Int)) with | true => (match l2[0 + (IntKind.i64.wrap (t12 + t6)).toNat * 1]? with | some e1 => (match decide (0 ≤ (IntKind.i64.wrap (t12 + t6) : Int) ∧ (IntKind.i64.wrap (t12 + t6) : Int) < ((t8n : Nat) : Int)) with | true => (match decide (0 + (IntKind.i64.wrap (t12 + t6)).toNat * 1 < l2.length) with | true => (match decide (0 ≤ (t12 : Int) ∧ (t12 : Int) < ((t10n : Nat) : Int)) with | true => (match decide (0 + (t12).toNat * 1 < l4.length) with | true => lp_dvd12 N M (st_dvd12 t6 t7 t8n t9n t10n t11 (IntKind.i64.wrap (t12 - 1)) l0 l1 (l2.set (0 + (IntKind.i64.wrap (t12 + t6)).toNat * 1) (IntKind.u32.wrap (e1 + (IntKind.u32.wrap t23)))) l3 (l4.set (0 + (t12).toNat * 1) (IntKind.u32.wrap t14))) K | false => none) | false => none) | false => none) | false => none) | none => none) | false => none) := by
  kernel_rfl
end Go.Proofs.Ytbhfjdlhhjeknaa.Ab

namespace Go.Proofs.Ytbhfjdlhhjeknaa.Ab
set_option linter.unusedVariables false
set_option linter.unusedSimpArgs false
open Go
theorem dgt_two {U k : Nat} (h : U < 4294967296 ^ (k + 2)) : U / 4294967296 ^ k = dgt U (k + 1) * 4294967296 + dgt U k := by
  unfold dgt
  have e : 4294967296 ^ (k + 1) = 4294967296 ^ k * 4294967296 := Nat.pow_succ _ _
  rw [e, ← Nat.div_div_eq_div_mul]
  have h1 : U / 4294967296 ^ k < 4294967296 * 4294967296 := by
    rw [Nat.div_lt_iff_lt_mul (bpow_pos k)]
    have : 4294967296 ^ (k + 2) = 4294967296 * 4294967296 * 4294967296 ^ k := by rw [Nat.pow_add, Nat.mul_comm]
    omega
  generalize U / 4294967296 ^ k = x at h1 ⊢
  omega
structure Kn (W b P two third b1 b2 : Nat) : Prop where
  P0 : 0 < P
  b0 : 0 < b
  b1lo : 2147483648 ≤ b1
  b1hi : b1 < 4294967296
  b2hi : b2 < 4294967296
  t3 : third < 4294967296
  bt : (b1 * 4294967296 + b2) * P ≤ b * 4294967296
  bt' : b * 4294967296 < (b1 * 4294967296 + b2 + 1) * P
  tt : (two * 4294967296 + third) * P ≤ W * 4294967296
  tt' : W * 4294967296 < (two * 4294967296 + third + 1) * P
  wb : W < b * 4294967296
theorem Kn.two_lt {W b P two third b1 b2 : Nat} (k : Kn W b P two third b1 b2) : two < (b1 + 1) * 4294967296 := by
  have h1 : two * 4294967296 * P ≤ W * 4294967296 := Nat.le_trans (Nat.mul_le_mul_right _ (Nat.le_add_right _ _)) k.tt
  have h2 : W * 4294967296 < b * 4294967296 * 4294967296 := Nat.mul_lt_mul_of_pos_right k.wb (by decide)
  have h3 : b * 4294967296 * 4294967296 < (b1 * 4294967296 + b2 + 1) * P * 4294967296 := Nat.mul_lt_mul_of_pos_right k.bt' (by decide)
  have h4 : (b1 * 4294967296 + b2 + 1) * P * 4294967296 ≤ (b1 + 1) * 4294967296 * P * 4294967296 := Nat.mul_le_mul_right _ (Nat.mul_le_mul_right _ (by have := k.b2hi; omega))
  have h5 : two * (P * 4294967296) < (b1 + 1) * 4294967296 * (P * 4294967296) := by
    have e1 : two * 4294967296 * P = two * (P * 4294967296) := by rw [Nat.mul_assoc, Nat.mul_comm 4294967296]
    have e2 : (b1 + 1) * 4294967296 * P * 4294967296 = (b1 + 1) * 4294967296 * (P * 4294967296) := Nat.mul_assoc _ _ _
    omega
  exact Nat.lt_of_mul_lt_mul_right (a := P * 4294967296) h5
theorem Kn.mul_le {W b P two third b1 b2 q : Nat} (k : Kn W b P two third b1 b2) (hq : q * b ≤ W) : q * (b1 * 4294967296 + b2) ≤ two * 4294967296 + third := by
  have h1 : q * ((b1 * 4294967296 + b2) * P) ≤ q * (b * 4294967296) := Nat.mul_le_mul_left _ k.bt
  have h2 : q * (b * 4294967296) ≤ W * 4294967296 := by rw [← Nat.mul_assoc]; exact Nat.mul_le_mul_right _ hq
  have h3 : q * (b1 * 4294967296 + b2) * P < (two * 4294967296 + third + 1) * P := by
    have e : q * (b1 * 4294967296 + b2) * P = q * ((b1 * 4294967296 + b2) * P) := Nat.mul_assoc _ _ _
    have := k.tt'
    omega
  exact Nat.le_of_lt_succ (Nat.lt_of_mul_lt_mul_right h3)
theorem Kn.first {W b P two third b1 b2 q : Nat} (k : Kn W b P two third b1 b2) (hq : q * b ≤ W) : q ≤ two / b1 := by
  have h1 := k.mul_le hq
  rw [Nat.le_div_iff_mul_le (by have := k.b1lo; omega)]
  have h2 : q * b1 * 4294967296 ≤ q * (b1 * 4294967296 + b2) := by rw [Nat.mul_assoc]; exact Nat.mul_le_mul_left _ (Nat.le_add_right _ _)
  have h3 := k.t3
  omega
theorem Kn.less {W b P two third b1 b2 q qh r : Nat} (k : Kn W b P two third b1 b2) (hq : q * b ≤ W) (hle : q ≤ qh) (he : qh * b1 + r = two) (ht : r * 4294967296 + third < qh * b2) : q < qh := by
  rcases Nat.lt_or_ge q qh with h | h
  · exact h
  · have e : qh = q := by omega
    subst e
    have h1 := k.mul_le hq
    rw [← he, Nat.mul_add, Nat.add_mul, Nat.mul_assoc] at h1
    omega
theorem Kn.near {W b P two third b1 b2 qh r : Nat} (k : Kn W b P two third b1 b2) (he : qh * b1 + r = two) (hb : qh < 4294967296) (h : 4294967296 ≤ r ∨ qh * b2 ≤ r * 4294967296 + third) : (qh - 1) * b ≤ W := by
  cases qh with
  | zero => simp
  | succ p =>
    rw [Nat.add_sub_cancel]
    have h1 : p * (b1 * 4294967296 + b2 + 1) ≤ two * 4294967296 + third := by
      have e1 : p * (b1 * 4294967296 + b2 + 1) = p * b1 * 4294967296 + p * b2 + p := by rw [Nat.mul_add, Nat.mul_add, Nat.mul_one, Nat.mul_assoc]
      have e2 : two * 4294967296 = p * b1 * 4294967296 + b1 * 4294967296 + r * 4294967296 := by rw [← he, Nat.add_mul, Nat.succ_mul, Nat.add_mul]
      have h2 : p ≤ b1 * 4294967296 := by have := k.b1lo; omega
      have h3 : p * b2 ≤ r * 4294967296 + third := by
        rcases h with h | h
        · have h4 : p * b2 ≤ 4294967296 * 4294967296 := Nat.mul_le_mul (by omega) (by have := k.b2hi; omega)
          have h5 : 4294967296 * 4294967296 ≤ r * 4294967296 := Nat.mul_le_mul_right _ h
          omega
        · rw [Nat.succ_mul] at h
          omega
      omega
    have h2 : p * (b * 4294967296) ≤ p * ((b1 * 4294967296 + b2 + 1) * P) := Nat.mul_le_mul_left _ (Nat.le_of_lt k.bt')
    have h3 : p * (b1 * 4294967296 + b2 + 1) * P ≤ (two * 4294967296 + third) * P := Nat.mul_le_mul_right _ h1
    have h4 := k.tt
    have e : p * (b1 * 4294967296 + b2 + 1) * P = p * ((b1 * 4294967296 + b2 + 1) * P) := Nat.mul_assoc _ _ _
    have h5 : p * b * 4294967296 ≤ W * 4294967296 := by
      rw [Nat.mul_assoc]
      exact Nat.le_trans h2 (Nat.le_trans (Nat.le_of_eq e.symm) (Nat.le_trans h3 h4))
    exact Nat.le_of_mul_le_mul_right (c := 4294967296) h5 (Nat.succ_pos _)
theorem kn_of {U b n j : Nat} (hn : 0 < n) (hb : b < 4294967296 ^ n) (hb2 : 2147483648 * 4294967296 ^ (n - 1) ≤ b) (hU : U < b * 4294967296 ^ (j + 1)) :
    Kn (U / 4294967296 ^ j) b (4294967296 ^ (n - 1)) (dgt U (j + n) * 4294967296 + dgt U (j + n - 1)) (if 1 < n then dgt U (j + n - 2) else 0) (dgt b (n - 1)) (if 1 < n then dgt b (n - 2) else 0) := by
  have hP := bpow_pos (n - 1)
  have hj := bpow_pos j
  have hpos : 0 < b := Nat.lt_of_lt_of_le (Nat.mul_pos (by decide) hP) hb2
  have hUn : U < 4294967296 ^ (j + n + 1) := by
    have h1 : b * 4294967296 ^ (j + 1) < 4294967296 ^ n * 4294967296 ^ (j + 1) := Nat.mul_lt_mul_of_pos_right hb (bpow_pos _)
    rw [← Nat.pow_add, show n + (j + 1) = j + n + 1 by omega] at h1
    omega
  have hWlt : U / 4294967296 ^ j < b * 4294967296 := by
    rw [Nat.div_lt_iff_lt_mul hj, Nat.mul_assoc, Nat.mul_comm 4294967296, ← Nat.pow_succ]
    exact hU
  have hb1 : dgt b (n - 1) = b / 4294967296 ^ (n - 1) := by
    unfold dgt
    rw [Nat.mod_eq_of_lt]
    rw [Nat.div_lt_iff_lt_mul hP, ← Nat.pow_succ', show (n - 1).succ = n by omega]
    exact hb
  have htwo : U / 4294967296 ^ j / 4294967296 ^ (n - 1) = dgt U (j + n) * 4294967296 + dgt U (j + n - 1) := by
    rw [Nat.div_div_eq_div_mul, ← Nat.pow_add, show j + (n - 1) = j + n - 1 by omega, dgt_two (by rw [show j + n - 1 + 2 = j + n + 1 by omega]; exact hUn), show j + n - 1 + 1 = j + n by omega]
  have hb1lo : 2147483648 ≤ dgt b (n - 1) := by
    rw [hb1, Nat.le_div_iff_mul_le hP]
    exact hb2
  by_cases h1 : 1 < n
  · rw [if_pos h1, if_pos h1]
    have eP : 4294967296 ^ (n - 1) = 4294967296 ^ (n - 2) * 4294967296 := by rw [← Nat.pow_succ]; congr 1; omega
    have hbt : b / 4294967296 ^ (n - 2) = dgt b (n - 1) * 4294967296 + dgt b (n - 2) := by
      rw [dgt_two (by rw [show n - 2 + 2 = n by omega]; exact hb), show n - 2 + 1 = n - 1 by omega]
    have hT : U / 4294967296 ^ j / 4294967296 ^ (n - 2) = (dgt U (j + n) * 4294967296 + dgt U (j + n - 1)) * 4294967296 + dgt U (j + n - 2) := by
      rw [← htwo, eP, ← Nat.div_div_eq_div_mul]
      have e : dgt U (j + n - 2) = U / 4294967296 ^ j / 4294967296 ^ (n - 2) % 4294967296 := by
        unfold dgt
        rw [Nat.div_div_eq_div_mul, ← Nat.pow_add, show j + (n - 2) = j + n - 2 by omega]
      rw [e]
      omega
    have hQ := bpow_pos (n - 2)
    refine ⟨hP, hpos, hb1lo, dgt_lt _ _, dgt_lt _ _, dgt_lt _ _, ?_, ?_, ?_, ?_, hWlt⟩
    · rw [← hbt, eP, ← Nat.mul_assoc]
      exact Nat.mul_le_mul_right _ (Nat.div_mul_le_self _ _)
    · rw [← hbt, eP, ← Nat.mul_assoc]
      exact Nat.mul_lt_mul_of_pos_right (by rw [Nat.mul_comm]; exact Nat.lt_mul_div_succ b hQ) (by decide)
    · rw [← hT, eP, ← Nat.mul_assoc]
      exact Nat.mul_le_mul_right _ (Nat.div_mul_le_self _ _)
    · rw [← hT, eP, ← Nat.mul_assoc]
      exact Nat.mul_lt_mul_of_pos_right (by rw [Nat.mul_comm]; exact Nat.lt_mul_div_succ _ hQ) (by decide)
  · have e1 : n = 1 := by omega
    subst e1
    rw [if_neg h1, if_neg h1]
    have hb1' : dgt b 0 = b := by rw [hb1]; simp
    have htwo' : dgt U (j + 1) * 4294967296 + dgt U (j + 1 - 1) = U / 4294967296 ^ j := by rw [← htwo]; simp
    refine ⟨hP, hpos, hb1lo, dgt_lt _ _, by decide, by decide, ?_, ?_, ?_, ?_, hWlt⟩
    · rw [show (1 : Nat) - 1 = 0 from rfl, hb1']; simp
    · rw [show (1 : Nat) - 1 = 0 from rfl, hb1']; simp
    · rw [htwo']; simp
    · rw [htwo']; simp
theorem or32 {x y : Nat} (hx : x < 4294967296) (hy : y < 4294967296) : (BitVec.ofInt 64 ((x * 4294967296 : Nat) : Int) ||| BitVec.ofInt 64 (y : Int)).toNat = x * 4294967296 + y := by
  have h := or_shift (c := y) (x := x) (y := 32) hy (by omega)
  have e : x * 2 ^ 32 = x * 4294967296 := rfl
  rw [e] at h
  rw [BitVec.or_comm, h]
  omega
theorem zero_or {y : Nat} (hy : y < 4294967296) : (BitVec.ofInt 64 0 ||| BitVec.ofInt 64 (y : Int)).toNat = y := by
  have h := or32 (x := 0) (y := y) (by decide) hy
  simpa using h
theorem and_mask {x : Nat} (hx : x < 18446744073709551616) : (BitVec.ofInt 64 (x : Int) &&& BitVec.ofInt 64 4294967295).toNat = x % 4294967296 := by
  have e : ∀ n : Nat, n < 18446744073709551616 → (BitVec.ofInt 64 (n : Int)).toNat = n := by
    intro n hn
    simp [BitVec.toNat_ofInt]
    omega
  rw [BitVec.toNat_and, e x hx, show (4294967295 : Int) = ((4294967295 : Nat) : Int) by omega, e _ (by omega)]
  exact Nat.and_two_pow_sub_one_eq_mod x 32
end Go.Proofs.Ytbhfjdlhhjeknaa.Ab

namespace Go.Proofs.Ytbhfjdlhhjeknaa.Ab
set_option linter.unusedVariables false
set_option linter.unusedSimpArgs false
open Go
theorem wm1 {n : Nat} (h : 1 ≤ n) (h2 : n < 2147483648) : IntKind.i64.wrap ((n : Int) - 1) = ((n - 1 : Nat) : Int) := by
  rw [wrap_z (by omega) (by omega)]; omega
theorem wm2 {n : Nat} (h : 2 ≤ n) (h2 : n < 2147483648) : IntKind.i64.wrap ((n : Int) - 2) = ((n - 2 : Nat) : Int) := by
  rw [wrap_z (by omega) (by omega)]; omega
theorem sh32 {x : Nat} (h : x < 4294967296) : IntKind.u64.wrap ((x : Int) * 2 ^ 32) = ((x * 4294967296 : Nat) : Int) := by
  rw [show (x : Int) * 2 ^ 32 = ((x * 4294967296 : Nat) : Int) by rw [Int.natCast_mul]; rfl, wrap64 (by omega)]
theorem dvd19 {R : Type} (K : X → St → Option R) (N : Nat) (hN : 10 ≤ N) {W b P two third b1 b2 : Nat} (k : Kn W b P two third b1 b2) {n un on : Nat} (hn : 1 ≤ n) (hn2 : n ≤ 8) (y : Int) (j : Int) (l0 l1 u v o : List Int) (hv : v[n - 1]? = some (b1 : Int)) :
    ∃ qh : Nat, qh < 4294967296 ∧ W / b ≤ qh ∧ qh ≤ W / b + 1 ∧ lp_dvd19 N N (st_dvd19 (n : Int) y un n on (b2 : Int) j ((two / b1 : Nat) : Int) ((two % b1 : Nat) : Int) (third : Int) l0 l1 u v o) K =
      K (.exit 4) (en_dvd19_0 (n : Int) y un n on (b2 : Int) j (qh : Int) l0 l1 u v o) := by
  have hb1 := k.b1lo
  have hb1' := k.b1hi
  have hb2 := k.b2hi
  have ht3 := k.t3
  have h2 := k.two_lt
  have hWb : W / b < 4294967296 := by
    rw [Nat.div_lt_iff_lt_mul k.b0, Nat.mul_comm]
    exact k.wb
  have hWm : W / b * b ≤ W := Nat.div_mul_le_self W b
  have hdiv : ∀ p, p * b ≤ W → p ≤ W / b := fun p h => (Nat.le_div_iff_mul_le k.b0).2 h
  generalize W / b = q at hWb hWm hdiv ⊢
  refine loop_fuel (fun M (s : Nat × Nat) => lp_dvd19 N M (st_dvd19 (n : Int) y un n on (b2 : Int) j (s.1 : Int) (s.2 : Int) (third : Int) l0 l1 u v o) K)
    (fun s => s.1 * b1 + s.2 = two ∧ q ≤ s.1 ∧ s.2 < 2 * 4294967296) (fun s => 3 - s.2 / 2147483648)
    (fun x => ∃ qh : Nat, qh < 4294967296 ∧ q ≤ qh ∧ qh ≤ q + 1 ∧ x = K (.exit 4) (en_dvd19_0 (n : Int) y un n on (b2 : Int) j (qh : Int) l0 l1 u v o)) (fun M s hs => ?_) (s := (two / b1, two % b1)) ⟨by rw [Nat.mul_comm]; exact Nat.div_add_mod two b1, k.first hWm, by dsimp only; have := Nat.mod_lt two (show b1 > 0 by omega); omega⟩ (by dsimp only; omega)
  obtain ⟨qh, r⟩ := s
  obtain ⟨he, hq, hr⟩ := hs
  dsimp only at he hq hr ⊢
  have hqb : qh ≤ two := Nat.le_trans (Nat.le_mul_of_pos_right qh (show 0 < b1 by omega)) (by omega)
  have htwo : two < 18446744073709551616 := by
    have : (b1 + 1) * 4294967296 ≤ 4294967296 * 4294967296 := Nat.mul_le_mul_right _ (by omega)
    omega
  have hr64 : IntKind.u64.wrap (r : Int) = (r : Int) := wrap64 (by omega)
  have less : 1 ≤ qh → q ≤ qh - 1 → r < 4294967296 → ((qh - 1) * b1 + (r + b1) = two ∧ q ≤ qh - 1 ∧ r + b1 < 2 * 4294967296) ∧ 3 - (r + b1) / 2147483648 < 3 - r / 2147483648 ∧ IntKind.u64.wrap ((qh : Int) - 1) = ((qh - 1 : Nat) : Int) ∧ IntKind.u64.wrap ((r : Int) + IntKind.u64.wrap (b1 : Int)) = ((r + b1 : Nat) : Int) := by
    intro h1 h3 h4
    refine ⟨⟨?_, h3, by omega⟩, by omega, ?_, ?_⟩
    · obtain ⟨p, rfl⟩ : ∃ p, qh = p + 1 := ⟨qh - 1, by omega⟩
      rw [Nat.succ_mul] at he
      rw [Nat.add_sub_cancel]
      omega
    · rw [show (qh : Int) - 1 = ((qh - 1 : Nat) : Int) by omega, wrap64 (by omega)]
    · rw [wrap64 (n := b1) (by omega), ← Int.natCast_add, wrap64 (by omega)]
  by_cases hrB : r < 4294967296
  · by_cases hqB : 4294967296 ≤ qh
    · right
      obtain ⟨g1, g2, g3, g4⟩ := less (by omega) (by omega) hrB
      refine ⟨(qh - 1, r + b1), g1, g2, ?_⟩
      simp only [step_dvd19, decide_eq_true (show (r : Int) < 4294967296 by omega), decide_eq_true (show (qh : Int) ≥ 4294967296 by omega), wm1 hn (by omega), din (show n - 1 < n by omega), ix, hv, g3, g4]
    · have hm := mulB (show qh < 4294967296 by omega) hb2
      have e1 : IntKind.u64.wrap ((qh : Int) * (b2 : Int)) = ((qh * b2 : Nat) : Int) := by rw [← Int.natCast_mul, wrap64 (by omega)]
      obtain ⟨Z, hZ⟩ : ∃ Z, Z = r * 4294967296 + third := ⟨_, rfl⟩
      have e2 : IntKind.u64.wrap (((BitVec.ofInt 64 (IntKind.u64.wrap ((r : Int) * 2 ^ 32)) ||| BitVec.ofInt 64 (third : Int)).toNat : Nat) : Int) = ((Z : Nat) : Int) := by
        rw [sh32 hrB, or32 hrB ht3, ← hZ, wrap64 (by omega)]
      obtain ⟨Y, hY⟩ : ∃ Y, Y = qh * b2 := ⟨_, rfl⟩
      rw [← hY] at e1 hm
      by_cases ht : Z < Y
      · right
        have hlt := k.less hWm hq he (by rw [← hZ, ← hY]; exact ht)
        obtain ⟨g1, g2, g3, g4⟩ := less (by omega) (by omega) hrB
        refine ⟨(qh - 1, r + b1), g1, g2, ?_⟩
        rw [step_dvd19, e1, e2, decide_eq_true (show ((Y : Nat) : Int) > ((Z : Nat) : Int) by omega), decide_eq_true (show (r : Int) < 4294967296 by omega), decide_eq_false (show ¬ ((qh : Int) ≥ 4294967296) by omega)]
        simp only [wm1 hn (show n < 2147483648 by omega), din (show n - 1 < n by omega), ix, hv, g3, g4]
      · left
        have hnear := hdiv _ (k.near he (by omega) (.inr (by rw [← hZ, ← hY]; omega)))
        refine ⟨qh, by omega, hq, by omega, ?_⟩
        rw [step_dvd19, e1, e2, decide_eq_false (show ¬ (((Y : Nat) : Int) > ((Z : Nat) : Int)) by omega), decide_eq_true (show (r : Int) < 4294967296 by omega), decide_eq_false (show ¬ ((qh : Int) ≥ 4294967296) by omega)]
  · left
    have hqB : qh < 4294967296 := by
      rcases Nat.lt_or_ge qh 4294967296 with h | h
      · exact h
      · have := Nat.mul_le_mul_right b1 h
        rw [Nat.add_mul] at h2
        omega
    have hnear := hdiv _ (k.near he hqB (.inl (by omega)))
    refine ⟨qh, hqB, hq, by omega, ?_⟩
    simp only [step_dvd19, decide_eq_false (show ¬ ((r : Int) < 4294967296) by omega)]
theorem dv_step {nu nu' P x x' U qh B I J c v t lo e : Nat} (hs : nu' + P * x = nu + P * x') (hv : nu + qh * B * J = U + P * c) (ht : t = c + qh * v) (hlo : lo = t % 4294967296) (hx : x' + lo = x + e * 4294967296) (hp : P = I * J) :
    nu' + qh * (B + I * v) * J = U + P * 4294967296 * (t / 4294967296 + e) := by
  have h1 : P * x' + P * lo = P * x + P * (e * 4294967296) := by rw [← Nat.mul_add, ← Nat.mul_add, hx]
  have h2 : P * t = P * lo + P * (4294967296 * (t / 4294967296)) := by rw [← Nat.mul_add, hlo, Nat.mod_add_div]
  have h3 : P * t = P * c + P * (qh * v) := by rw [ht, Nat.mul_add]
  have h4 : qh * (B + I * v) * J = qh * B * J + P * (qh * v) := by
    rw [Nat.mul_add, Nat.add_mul, hp]
    congr 1
    ac_rfl
  have h5 : P * 4294967296 * (t / 4294967296 + e) = P * (4294967296 * (t / 4294967296)) + P * (e * 4294967296) := by
    rw [Nat.mul_add, Nat.mul_assoc, Nat.mul_assoc, Nat.mul_comm 4294967296 e]
  rw [h4, h5]
  omega
theorem dvd23 {R : Type} (K : X → St → Option R) (N : Nat) (hN : 10 ≤ N) {b qh n un on j : Nat} (hn2 : n ≤ 8) (hq : qh < 4294967296) (y t11 : Int) (l0 l1 u v o : List Int) (hu : okD u) (hun : u.length = un) (hj : j + n < un) (hun2 : un ≤ 100) (hv : ∀ i, i < n → v[i]? = some ((dgt b i : Nat) : Int)) :
    ∃ (u' : List Int) (c : Nat), okD u' ∧ u'.length = un ∧ c ≤ 4294967296 ∧ u'.drop (j + n) = u.drop (j + n) ∧ nv u' + qh * (b % 4294967296 ^ n) * 4294967296 ^ j = nv u + 4294967296 ^ (j + n) * c ∧
      lp_dvd23 N N (st_dvd23 (n : Int) y un n on t11 (j : Int) (qh : Int) 0 (n : Int) 0 l0 l1 u v o) K = K (.exit 6) (en_dvd23_0 (n : Int) y un n on t11 (j : Int) (qh : Int) (c : Int) l0 l1 u' v o) := by
  refine loop_fuel (fun M (s : Nat × Nat × List Int) => lp_dvd23 N M (st_dvd23 (n : Int) y un n on t11 (j : Int) (qh : Int) (s.2.1 : Int) (n : Int) (s.1 : Int) l0 l1 s.2.2 v o) K)
    (fun s => s.1 ≤ n ∧ okD s.2.2 ∧ s.2.2.length = un ∧ s.2.1 ≤ 4294967296 ∧ s.2.2.drop (j + n) = u.drop (j + n) ∧ nv s.2.2 + qh * (b % 4294967296 ^ s.1) * 4294967296 ^ j = nv u + 4294967296 ^ (s.1 + j) * s.2.1) (fun s => n - s.1)
    (fun x => ∃ (u' : List Int) (c : Nat), okD u' ∧ u'.length = un ∧ c ≤ 4294967296 ∧ u'.drop (j + n) = u.drop (j + n) ∧ nv u' + qh * (b % 4294967296 ^ n) * 4294967296 ^ j = nv u + 4294967296 ^ (j + n) * c ∧ x = K (.exit 6) (en_dvd23_0 (n : Int) y un n on t11 (j : Int) (qh : Int) (c : Int) l0 l1 u' v o))
    (fun M s hs => ?_) (s := (0, 0, u)) ⟨Nat.zero_le _, hu, hun, Nat.zero_le _, rfl, by simp [Nat.mod_one]⟩ (by dsimp only; omega)
  obtain ⟨i, c, l⟩ := s
  obtain ⟨hi, hl, hlen, hc, hd, hval⟩ := hs
  dsimp only at hi hl hlen hc hd hval ⊢
  by_cases h1 : i < n
  · right
    have hvi := hv i h1
    have hdg := dgt_lt b i
    obtain ⟨x, hx, hxb, _⟩ := nat_get hl (show i + j < l.length by omega)
    have hm := mulB hq hdg
    generalize hvd : dgt b i = vd at hvi hdg hm
    have ht : IntKind.u64.wrap ((c : Int) + IntKind.u64.wrap ((qh : Int) * IntKind.u64.wrap (vd : Int))) = ((c + qh * vd : Nat) : Int) := by
      rw [wrap64 (n := vd) (by omega), ← Int.natCast_mul, wrap64 (by omega), ← Int.natCast_add, wrap64 (by omega)]
    have hand : IntKind.u64.wrap (((BitVec.ofInt 64 ((c + qh * vd : Nat) : Int) &&& BitVec.ofInt 64 4294967295).toNat : Nat) : Int) = (((c + qh * vd) % 4294967296 : Nat) : Int) := by
      rw [and_mask (by omega), wrap64 (by omega)]
    have hx64 := wrap64 (n := x) (by omega)
    have hlo : (c + qh * vd) % 4294967296 < 4294967296 := Nat.mod_lt _ (by decide)
    have hidx : i + j = j + i := Nat.add_comm _ _
    have fin : ∀ (x' e : Nat), x' < 4294967296 → x' + (c + qh * vd) % 4294967296 = x + e * 4294967296 → (c + qh * vd) / 4294967296 + e ≤ 4294967296 →
        (i + 1 ≤ n ∧ okD (l.set (i + j) (x' : Int)) ∧ (l.set (i + j) (x' : Int)).length = un ∧ (c + qh * vd) / 4294967296 + e ≤ 4294967296 ∧ (l.set (i + j) (x' : Int)).drop (j + n) = u.drop (j + n) ∧ nv (l.set (i + j) (x' : Int)) + qh * (b % 4294967296 ^ (i + 1)) * 4294967296 ^ j = nv u + 4294967296 ^ (i + 1 + j) * ((c + qh * vd) / 4294967296 + e)) := by
      intro x' e h3 h4 h5
      refine ⟨h1, hl.set _ (by omega), by simpa using hlen, h5, by rw [drop_set (by omega)]; exact hd, ?_⟩
      have h6 := nv_set hx (x' : Int)
      rw [Int.toNat_natCast, Int.toNat_natCast] at h6
      rw [mod_succ, hvd, show i + 1 + j = i + j + 1 by omega, Nat.pow_succ]
      exact dv_step h6 hval rfl rfl h4 (Nat.pow_add _ _ _)
    by_cases hlt : x < (c + qh * vd) % 4294967296
    · refine ⟨(i + 1, (c + qh * vd) / 4294967296 + 1, l.set (i + j) ((x + 4294967296 - (c + qh * vd) % 4294967296 : Nat) : Int)), fin _ 1 (by omega) (by omega) (by omega), by dsimp only; omega, ?_⟩
      have e1 : IntKind.u32.wrap (IntKind.u64.wrap ((x : Int) - (((c + qh * vd) % 4294967296 : Nat) : Int))) = ((x + 4294967296 - (c + qh * vd) % 4294967296 : Nat) : Int) := by
        have e : IntKind.u64.wrap ((x : Int) - (((c + qh * vd) % 4294967296 : Nat) : Int)) = ((x + 18446744073709551616 - (c + qh * vd) % 4294967296 : Nat) : Int) := by
          generalize (c + qh * vd) % 4294967296 = lo at hlt hlo
          simp only [IntKind.wrap, IntKind.signed, IntKind.bits]
          first | omega | (simp; omega)
        rw [e, wrap32]
        omega
      have e2 : IntKind.u64.wrap ((((c + qh * vd) / 4294967296 : Nat) : Int) + 1) = (((c + qh * vd) / 4294967296 + 1 : Nat) : Int) := by
        rw [show (((c + qh * vd) / 4294967296 : Nat) : Int) + 1 = (((c + qh * vd) / 4294967296 + 1 : Nat) : Int) by omega, wrap64 (by omega)]
      simp only [step_dvd23, dlt h1, din h1, ix, hvi, wz2 (show i + j < 2147483648 by omega), din (show i + j < un by omega), hx, decide_eq_true (show i + j < l.length by omega), ht, hand, hx64, decide_eq_true (show (x : Int) < (((c + qh * vd) % 4294967296 : Nat) : Int) by omega), e1, shr32, e2, wr (show i < 2147483648 by omega)]
    · refine ⟨(i + 1, (c + qh * vd) / 4294967296 + 0, l.set (i + j) ((x - (c + qh * vd) % 4294967296 : Nat) : Int)), fin _ 0 (by omega) (by omega) (by omega), by dsimp only; omega, ?_⟩
      have e1 : IntKind.u32.wrap (IntKind.u64.wrap ((x : Int) - (((c + qh * vd) % 4294967296 : Nat) : Int))) = ((x - (c + qh * vd) % 4294967296 : Nat) : Int) := by
        rw [show (x : Int) - (((c + qh * vd) % 4294967296 : Nat) : Int) = ((x - (c + qh * vd) % 4294967296 : Nat) : Int) by omega, wrap64 (by omega), wrap32, Nat.mod_eq_of_lt (by omega)]
      simp only [step_dvd23, dlt h1, din h1, ix, hvi, wz2 (show i + j < 2147483648 by omega), din (show i + j < un by omega), hx, decide_eq_true (show i + j < l.length by omega), ht, hand, hx64, decide_eq_false (show ¬ ((x : Int) < (((c + qh * vd) % 4294967296 : Nat) : Int)) by omega), e1, shr32, Nat.add_zero, wr (show i < 2147483648 by omega)]
  · left
    have e : i = n := by omega
    subst e
    refine ⟨l, c, hl, hlen, hc, hd, by rw [Nat.add_comm j i]; exact hval, ?_⟩
    simp only [step_dvd23, dge (Nat.le_refl _)]
theorem dv_add {nu nu' P x U B I J c v t : Nat} (hs : nu' + P * x = nu + P * (t % 4294967296)) (hv : nu + P * c = U + B * J) (ht : t = c + (x + v)) (hp : P = I * J) :
    nu' + P * 4294967296 * (t / 4294967296) = U + (B + I * v) * J := by
  have h2 : P * t = P * (t % 4294967296) + P * (4294967296 * (t / 4294967296)) := by rw [← Nat.mul_add, Nat.mod_add_div]
  have h3 : P * t = P * c + (P * x + P * v) := by rw [ht, Nat.mul_add, Nat.mul_add]
  have h4 : (B + I * v) * J = B * J + P * v := by
    rw [Nat.add_mul, hp]
    congr 1
    ac_rfl
  rw [h4, Nat.mul_assoc]
  omega
theorem dvd39 {R : Type} (K : X → St → Option R) (N : Nat) (hN : 10 ≤ N) {b q n un on j : Nat} (hn2 : n ≤ 8) (y t11 : Int) (l0 l1 u v o : List Int) (hu : okD u) (hun : u.length = un) (hj : j + n < un) (hun2 : un ≤ 100) (hv : ∀ i, i < n → v[i]? = some ((dgt b i : Nat) : Int)) :
    ∃ (u' : List Int) (c : Nat), okD u' ∧ u'.length = un ∧ c ≤ 1 ∧ u'.drop (j + n) = u.drop (j + n) ∧ nv u' + 4294967296 ^ (j + n) * c = nv u + (b % 4294967296 ^ n) * 4294967296 ^ j ∧
      lp_dvd39 N N (st_dvd39 (n : Int) y un n on t11 (j : Int) (q : Int) 0 (n : Int) 0 l0 l1 u v o) K = K (.exit 8) (en_dvd39_0 (n : Int) y un n on t11 (j : Int) (q : Int) (c : Int) l0 l1 u' v o) := by
  refine loop_fuel (fun M (s : Nat × Nat × List Int) => lp_dvd39 N M (st_dvd39 (n : Int) y un n on t11 (j : Int) (q : Int) (s.2.1 : Int) (n : Int) (s.1 : Int) l0 l1 s.2.2 v o) K)
    (fun s => s.1 ≤ n ∧ okD s.2.2 ∧ s.2.2.length = un ∧ s.2.1 ≤ 1 ∧ s.2.2.drop (j + n) = u.drop (j + n) ∧ nv s.2.2 + 4294967296 ^ (s.1 + j) * s.2.1 = nv u + (b % 4294967296 ^ s.1) * 4294967296 ^ j) (fun s => n - s.1)
    (fun x => ∃ (u' : List Int) (c : Nat), okD u' ∧ u'.length = un ∧ c ≤ 1 ∧ u'.drop (j + n) = u.drop (j + n) ∧ nv u' + 4294967296 ^ (j + n) * c = nv u + (b % 4294967296 ^ n) * 4294967296 ^ j ∧ x = K (.exit 8) (en_dvd39_0 (n : Int) y un n on t11 (j : Int) (q : Int) (c : Int) l0 l1 u' v o))
    (fun M s hs => ?_) (s := (0, 0, u)) ⟨Nat.zero_le _, hu, hun, Nat.zero_le _, rfl, by simp [Nat.mod_one]⟩ (by dsimp only; omega)
  obtain ⟨i, c, l⟩ := s
  obtain ⟨hi, hl, hlen, hc, hd, hval⟩ := hs
  dsimp only at hi hl hlen hc hd hval ⊢
  by_cases h1 : i < n
  · right
    have hvi := hv i h1
    have hdg := dgt_lt b i
    obtain ⟨x, hx, hxb, _⟩ := nat_get hl (show i + j < l.length by omega)
    generalize hvd : dgt b i = vd at hvi hdg
    have ht : IntKind.u64.wrap ((c : Int) + IntKind.u64.wrap (IntKind.u64.wrap (x : Int) + IntKind.u64.wrap (vd : Int))) = ((c + (x + vd) : Nat) : Int) := by
      rw [wrap64 (n := x) (by omega), wrap64 (n := vd) (by omega), ← Int.natCast_add, wrap64 (by omega), ← Int.natCast_add, wrap64 (by omega)]
    refine ⟨(i + 1, (c + (x + vd)) / 4294967296, l.set (i + j) (((c + (x + vd)) % 4294967296 : Nat) : Int)), ⟨h1, hl.set _ (by omega), by simpa using hlen, by dsimp only; omega, by dsimp only; rw [drop_set (by omega)]; exact hd, ?_⟩, by dsimp only; omega, ?_⟩
    · dsimp only
      have h6 := nv_set hx (((c + (x + vd)) % 4294967296 : Nat) : Int)
      rw [Int.toNat_natCast, Int.toNat_natCast] at h6
      rw [mod_succ, hvd, show i + 1 + j = i + j + 1 by omega, Nat.pow_succ]
      exact dv_add h6 hval rfl (Nat.pow_add _ _ _)
    · simp only [step_dvd39, dlt h1, din h1, ix, hvi, wz2 (show i + j < 2147483648 by omega), din (show i + j < un by omega), hx, decide_eq_true (show i + j < l.length by omega), ht, wrap32, shr32, wr (show i < 2147483648 by omega)]
  · left
    have e : i = n := by omega
    subst e
    refine ⟨l, c, hl, hlen, hc, hd, by rw [Nat.add_comm j i]; exact hval, ?_⟩
    simp only [step_dvd39, dge (Nat.le_refl _)]
end Go.Proofs.Ytbhfjdlhhjeknaa.Ab

namespace Go.Proofs.Ytbhfjdlhhjeknaa.Ab
set_option linter.unusedVariables false
set_option linter.unusedSimpArgs false
open Go
theorem dvd_guess {R : Type} (K : X → St → Option R) (N : Nat) (hN : 10 ≤ N) (M : Nat) {b n un on j : Nat} (hn : 1 ≤ n) (hn2 : n ≤ 8) (hun2 : un ≤ 100) (y : Int) (l0 l1 u v o : List Int) (hu : okD u) (hun : u.length = un) (hj : j + n < un)
    (hb : b < 4294967296 ^ n) (hb2 : 2147483648 * 4294967296 ^ (n - 1) ≤ b) (hU : nv u < b * 4294967296 ^ (j + 1)) (hv : ∀ i, i < n → v[i]? = some ((dgt b i : Nat) : Int)) :
    ∃ qh : Nat, qh < 4294967296 ∧ nv u / 4294967296 ^ j / b ≤ qh ∧ qh ≤ nv u / 4294967296 ^ j / b + 1 ∧
      lp_dvd12 N (M + 1) (st_dvd12 (n : Int) y un n on (((if 1 < n then dgt b (n - 2) else 0 : Nat)) : Int) (j : Int) l0 l1 u v o) K =
      lp_dvd23 N N (st_dvd23 (n : Int) y un n on (((if 1 < n then dgt b (n - 2) else 0 : Nat)) : Int) (j : Int) (qh : Int) 0 (n : Int) 0 l0 l1 u v o) (kt_dvd23 N (bk_dvd12 N M K)) := by
  have k := kn_of (U := nv u) (j := j) hn hb hb2 hU
  have hv1 := hv (n - 1) (by omega)
  obtain ⟨e1, h1, h1b, h1d⟩ := nat_get hu (show j + n < u.length by omega)
  obtain ⟨e2, h2, h2b, h2d⟩ := nat_get hu (show j + n - 1 < u.length by omega)
  rw [← h1d, ← h2d] at k
  have hb1lo := k.b1lo
  have hb1hi := k.b1hi
  generalize hb1d : dgt b (n - 1) = b1 at k hv1 hb1lo hb1hi
  obtain ⟨two, htwo⟩ : ∃ two, two = e1 * 4294967296 + e2 := ⟨_, rfl⟩
  rw [← htwo] at k
  have ht64 : two < 18446744073709551616 := by omega
  have hT : IntKind.u64.wrap (((BitVec.ofInt 64 (IntKind.u64.wrap (IntKind.u64.wrap (e1 : Int) * 2 ^ 32)) ||| BitVec.ofInt 64 (IntKind.u64.wrap (e2 : Int))).toNat : Nat) : Int) = ((two : Nat) : Int) := by
    rw [wrap64 (n := e1) (by omega), wrap64 (n := e2) (by omega), sh32 h1b, or32 h1b h2b, ← htwo, wrap64 ht64]
  have hb64 : IntKind.u64.wrap (b1 : Int) = (b1 : Int) := wrap64 (by omega)
  have hq64 : IntKind.u64.wrap (Int.tdiv (two : Int) (b1 : Int)) = ((two / b1 : Nat) : Int) := by
    rw [show Int.tdiv (two : Int) (b1 : Int) = ((two / b1 : Nat) : Int) from rfl, wrap64 (Nat.lt_of_le_of_lt (Nat.div_le_self _ _) ht64)]
  have hr64 : Int.tmod (two : Int) (b1 : Int) = ((two % b1 : Nat) : Int) := rfl
  have hne : decide ((b1 : Int) = 0) = false := decide_eq_false (by omega)
  have w1 := wz2 (i := j) (k := n) (by omega)
  have w2 := wm1 (n := j + n) (by omega) (by omega)
  have w3 := wm1 hn (show n < 2147483648 by omega)
  have hge : decide ((j : Int) ≥ 0) = true := decide_eq_true (by omega)
  by_cases hn1 : 1 < n
  · rw [if_pos hn1, if_pos hn1] at k
    rw [if_pos hn1]
    obtain ⟨e5, h5, h5b, h5d⟩ := nat_get hu (show j + n - 2 < u.length by omega)
    rw [← h5d] at k
    have w4 := wm2 (n := j + n) (by omega) (by omega)
    have he5 : IntKind.u64.wrap (e5 : Int) = (e5 : Int) := wrap64 (by omega)
    obtain ⟨qh, q1, q2, q3, q4⟩ := dvd19 (kt_dvd19 N (bk_dvd12 N M K)) N hN k hn hn2 (un := un) (on := on) y (j : Int) l0 l1 u v o hv1
    refine ⟨qh, q1, q2, q3, ?_⟩
    rw [end_dvd19_0] at q4
    rw [← q4]
    simp only [step_dvd12, hge, w1, w2, w3, w4, din (show j + n < un by omega), din (show j + n - 1 < un by omega), din (show j + n - 2 < un by omega), din (show n - 1 < n by omega), ix, h1, h2, h5, hv1, hT, hb64, hne, hq64, hr64, he5, decide_eq_true (show (n : Int) > 1 by omega)]
  · rw [if_neg hn1, if_neg hn1] at k
    rw [if_neg hn1]
    obtain ⟨qh, q1, q2, q3, q4⟩ := dvd19 (kt_dvd19 N (bk_dvd12 N M K)) N hN k hn hn2 (un := un) (on := on) y (j : Int) l0 l1 u v o hv1
    refine ⟨qh, q1, q2, q3, ?_⟩
    rw [end_dvd19_0] at q4
    rw [← q4]
    simp only [step_dvd12, hge, w1, w2, w3, din (show j + n < un by omega), din (show j + n - 1 < un by omega), din (show n - 1 < n by omega), ix, h1, h2, hv1, hT, hb64, hne, hq64, hr64, decide_eq_false (show ¬ ((n : Int) > 1) by omega)]
    rfl
theorem high_zero {u : List Int} {k : Nat} (hu : okD u) (h : nv u < 4294967296 ^ k) : nv (u.drop k) = 0 := by
  by_cases hk : k ≤ u.length
  · exact drop_lt h hk
  · rw [List.drop_of_length_le (by omega)]; rfl
theorem nv_top {u : List Int} {k x : Nat} (hu : okD u) (hx : u[k]? = some (x : Int)) (hz : nv (u.drop (k + 1)) = 0) : nv u = nv (u.take k) + 4294967296 ^ k * x ∧ nv (u.take k) < 4294967296 ^ k := by
  have hk := getElem?_lt hx
  have h1 := nv_take_drop u k (by omega)
  have h2 := nv_lt (hu.take k)
  rw [List.length_take, Nat.min_eq_left (by omega)] at h2
  have d1 : u.drop k = (x : Int) :: u.drop (k + 1) := by
    rw [List.drop_eq_getElem_cons hk]
    congr 1
    have := List.getElem?_eq_getElem hk
    rw [hx] at this
    exact (Option.some.inj this).symm
  rw [d1] at h1
  simp only [nv, hz, Int.toNat_natCast, Nat.mul_zero, Nat.add_zero] at h1
  exact ⟨h1, h2⟩
theorem dvd_turn {R : Type} (K : X → St → Option R) (N : Nat) (hN : 10 ≤ N) (M : Nat) {b n un on j : Nat} (hn : 1 ≤ n) (hn2 : n ≤ 8) (hun2 : un ≤ 100) (y : Int) (l0 l1 u v o : List Int) (hu : okD u) (hun : u.length = un) (hj : j + n < un)
    (hb : b < 4294967296 ^ n) (hb2 : 2147483648 * 4294967296 ^ (n - 1) ≤ b) (hU : nv u < b * 4294967296 ^ (j + 1)) (hv : ∀ i, i < n → v[i]? = some ((dgt b i : Nat) : Int)) (ho : o.length = on) (hjo : j < on) :
    ∃ u' : List Int, okD u' ∧ u'.length = un ∧ nv u' + nv u / 4294967296 ^ j / b * (b * 4294967296 ^ j) = nv u ∧ nv u' < b * 4294967296 ^ j ∧ nv u / 4294967296 ^ j / b < 4294967296 ∧
      lp_dvd12 N (M + 1) (st_dvd12 (n : Int) y un n on (((if 1 < n then dgt b (n - 2) else 0 : Nat)) : Int) (j : Int) l0 l1 u v o) K =
      lp_dvd12 N M (st_dvd12 (n : Int) y un n on (((if 1 < n then dgt b (n - 2) else 0 : Nat)) : Int) ((j : Int) - 1) l0 l1 u' v (o.set j ((nv u / 4294967296 ^ j / b : Nat) : Int))) K := by
  obtain ⟨qh, q1, q2, q3, q4⟩ := dvd_guess K N hN M hn hn2 hun2 (on := on) y l0 l1 u v o hu hun hj hb hb2 hU hv
  generalize (((if 1 < n then dgt b (n - 2) else 0 : Nat)) : Int) = t11 at q4 ⊢
  obtain ⟨u1, c, a1, a2, a3, a4, a5, a6⟩ := dvd23 (kt_dvd23 N (bk_dvd12 N M K)) N hN (b := b) (on := on) hn2 q1 y t11 l0 l1 u v o hu hun hj hun2 hv
  rw [Nat.mod_eq_of_lt hb] at a5
  have hJ := bpow_pos j
  have hb0 : 0 < b := Nat.lt_of_lt_of_le (Nat.mul_pos (by decide) (bpow_pos (n - 1))) hb2
  have hD0 : 0 < b * 4294967296 ^ j := Nat.mul_pos hb0 hJ
  have hdm : nv u / 4294967296 ^ j / b = nv u / (b * 4294967296 ^ j) := by rw [Nat.div_div_eq_div_mul, Nat.mul_comm]
  have hmod := Nat.div_add_mod (nv u) (b * 4294967296 ^ j)
  have hrem := Nat.mod_lt (nv u) hD0
  have hUn : nv u < 4294967296 ^ (j + n + 1) := by
    have h1 : b * 4294967296 ^ (j + 1) < 4294967296 ^ n * 4294967296 ^ (j + 1) := Nat.mul_lt_mul_of_pos_right hb (bpow_pos _)
    rw [← Nat.pow_add, show n + (j + 1) = j + n + 1 by omega] at h1
    omega
  have hbJ : b * 4294967296 ^ j < 4294967296 ^ (j + n) := by
    have h1 : b * 4294967296 ^ j < 4294967296 ^ n * 4294967296 ^ j := Nat.mul_lt_mul_of_pos_right hb hJ
    rw [← Nat.pow_add, Nat.add_comm n j] at h1
    exact h1
  rw [hdm] at q2 q3 ⊢
  generalize hqd : nv u / (b * 4294967296 ^ j) = q at q2 q3 hmod ⊢
  have hqb : q < 4294967296 := by
    rw [← hqd, Nat.div_lt_iff_lt_mul hD0, Nat.mul_comm, Nat.mul_assoc, ← Nat.pow_succ]
    exact hU
  have hz : nv (u.drop (j + n + 1)) = 0 := high_zero hu hUn
  have hz1 : nv (u1.drop (j + n + 1)) = 0 := by
    have h1 := congrArg (List.drop 1) a4
    rw [List.drop_drop, List.drop_drop] at h1
    rw [h1]
    exact hz
  obtain ⟨x, hx, hxb, _⟩ := nat_get a1 (show j + n < u1.length by omega)
  obtain ⟨t1, t2⟩ := nv_top a1 hx hz1
  have hP := bpow_pos (j + n)
  have w1 := wz2 (i := j) (k := n) (by omega)
  have hx64 : IntKind.u64.wrap (x : Int) = (x : Int) := wrap64 (by omega)
  have wj : IntKind.i64.wrap ((j : Int) - 1) = (j : Int) - 1 := by rw [wrap_z (by omega) (by omega)]
  have hq32 : IntKind.u32.wrap (q : Int) = (q : Int) := by rw [wrap32, Nat.mod_eq_of_lt hqb]
  rw [a6, end_dvd23_0] at q4
  rw [q4]
  have hge : decide (0 ≤ (j : Int) ∧ (j : Int) < ((on : Nat) : Int)) = true := din hjo
  have hjl : decide (j < o.length) = true := decide_eq_true (by omega)
  have hul : decide (j + n < u1.length) = true := decide_eq_true (by omega)
  have hset := nv_set hx
  by_cases hlt : x < c
  · -- one too many
    obtain ⟨x', hx'b, hx'e, hx'w⟩ : ∃ x' : Nat, x' < 4294967296 ∧ x' + c = x + 4294967296 ∧ IntKind.u32.wrap ((x : Int) - IntKind.u32.wrap (c : Int)) = (x' : Int) := by
      by_cases hcB : c = 4294967296
      · refine ⟨x, hxb, by omega, ?_⟩
        rw [hcB, wrap32, Nat.mod_self, show (x : Int) - ((0 : Nat) : Int) = (x : Int) by omega, wrap32, Nat.mod_eq_of_lt hxb]
      · refine ⟨x + 4294967296 - c, by omega, by omega, ?_⟩
        rw [wrap32, Nat.mod_eq_of_lt (show c < 4294967296 by omega)]
        have e : IntKind.u32.wrap ((x : Int) - (c : Int)) = ((x + 4294967296 - c : Nat) : Int) := by
          simp only [IntKind.wrap, IntKind.signed, IntKind.bits]
          first | omega | (simp; omega)
        exact e
    have hs1 := hset (x' : Int)
    rw [Int.toNat_natCast, Int.toNat_natCast] at hs1
    have hok1 := a1.set (j + n) (x := (x' : Int)) (by omega)
    have hln1 : (u1.set (j + n) (x' : Int)).length = un := by simpa using a2
    obtain ⟨u2, c2, b1, b2, b3, b4, b5, b6⟩ := dvd39 (kt_dvd39 N (bk_dvd12 N M K)) N hN (b := b) (q := qh - 1) (on := on) hn2 y t11 l0 l1 (u1.set (j + n) (x' : Int)) v o hok1 hln1 hj hun2 hv
    rw [Nat.mod_eq_of_lt hb] at b5
    have hx2 : u2[j + n]? = some (x' : Int) := by
      have h1 := congrArg (fun l => l[0]?) b4
      simp only [List.getElem?_drop, Nat.add_zero] at h1
      rw [h1, List.getElem?_set_self (by omega)]
    have hz2 : nv (u2.drop (j + n + 1)) = 0 := by
      have h1 := congrArg (List.drop 1) b4
      rw [List.drop_drop, List.drop_drop, drop_set (by omega)] at h1
      rw [h1]
      exact hz1
    obtain ⟨s1, s2⟩ := nv_top b1 hx2 hz2
    have hs2 := nv_set hx2 (((x' + c2) % 4294967296 : Nat) : Int)
    rw [Int.toNat_natCast, Int.toNat_natCast] at hs2
    have hcx : 4294967296 ^ (j + n) * x + 4294967296 ^ (j + n) ≤ 4294967296 ^ (j + n) * c := by rw [← Nat.mul_succ]; exact Nat.mul_le_mul_left _ hlt
    have hqq : qh = q + 1 := by
      rcases Nat.lt_or_ge q qh with h | h
      · omega
      · have e : qh = q := by omega
        subst e
        rw [Nat.mul_assoc, Nat.mul_comm qh] at a5
        omega
    subst hqq
    rw [Nat.mul_assoc, Nat.succ_mul, Nat.mul_comm q] at a5
    have hfin : x' + c2 = 4294967296 ∧ nv (u2.take (j + n)) = nv u % (b * 4294967296 ^ j) := by
      have hc2 : c2 = 1 := by
        rcases Nat.eq_zero_or_pos c2 with h | h
        · subst h
          rw [Nat.mul_zero] at b5
          omega
        · omega
      subst hc2
      rw [Nat.mul_one] at b5
      have hc1 : c = x + 1 := by
        rcases Nat.lt_or_ge (x + 1) c with h | h
        · have h3 : 4294967296 ^ (j + n) * x + 4294967296 ^ (j + n) + 4294967296 ^ (j + n) ≤ 4294967296 ^ (j + n) * c := by
            rw [← Nat.mul_succ, ← Nat.mul_succ]
            exact Nat.mul_le_mul_left _ h
          omega
        · omega
      subst hc1
      rw [Nat.mul_succ] at a5
      omega
    obtain ⟨hf1, hf2⟩ := hfin
    refine ⟨u2.set (j + n) (((x' + c2) % 4294967296 : Nat) : Int), b1.set _ (by omega), by simpa using b2, ?_, ?_, hqb, ?_⟩
    · rw [hf1, Nat.mod_self, Nat.mul_zero] at hs2
      rw [hf1, Nat.mod_self, Nat.mul_comm q]
      omega
    · rw [hf1, Nat.mod_self, Nat.mul_zero] at hs2
      rw [hf1, Nat.mod_self]
      omega
    · have hqm : IntKind.u64.wrap (((q + 1 : Nat) : Int) - 1) = ((q + 1 - 1 : Nat) : Int) := by
        rw [show ((q + 1 : Nat) : Int) - 1 = ((q + 1 - 1 : Nat) : Int) by omega, wrap64 (by omega)]
      have hfw : IntKind.u32.wrap ((x' : Int) + IntKind.u32.wrap (c2 : Int)) = (((x' + c2) % 4294967296 : Nat) : Int) := by
        rw [wrap32, Nat.mod_eq_of_lt (show c2 < 4294967296 by omega), ← Int.natCast_add, wrap32]
      have hul2 : decide (j + n < u2.length) = true := decide_eq_true (by omega)
      simp only [w1, din (show j + n < un by omega), ix, hx, hul, hx64, decide_eq_true (show (x : Int) < (c : Int) by omega), hx'w, hqm]
      rw [b6, end_dvd39_0]
      simp only [w1, din (show j + n < un by omega), ix, hx2, hul2, hfw, hge, hjl, Nat.add_sub_cancel, hq32, wj]
  · have hcx : 4294967296 ^ (j + n) * c ≤ 4294967296 ^ (j + n) * x := Nat.mul_le_mul_left _ (by omega)
    have hs1 := hset ((x - c : Nat) : Int)
    rw [Int.toNat_natCast, Int.toNat_natCast, Nat.mul_sub] at hs1
    have hqq : qh = q := by
      rcases Nat.lt_or_ge q qh with h | h
      · have e : qh = q + 1 := by omega
        subst e
        rw [Nat.mul_assoc, Nat.succ_mul, Nat.mul_comm q] at a5
        omega
      · omega
    subst hqq
    rw [Nat.mul_assoc, Nat.mul_comm qh] at a5
    have hw : IntKind.u32.wrap ((x : Int) - IntKind.u32.wrap (c : Int)) = ((x - c : Nat) : Int) := by
      rw [wrap32, Nat.mod_eq_of_lt (show c < 4294967296 by omega), show (x : Int) - (c : Int) = ((x - c : Nat) : Int) by omega, wrap32, Nat.mod_eq_of_lt (by omega)]
    refine ⟨u1.set (j + n) ((x - c : Nat) : Int), a1.set _ (by omega), by simpa using a2, ?_, ?_, hqb, ?_⟩
    · rw [Nat.mul_comm qh]
      omega
    · omega
    · simp only [w1, din (show j + n < un by omega), ix, hx, hul, hx64, decide_eq_false (show ¬ ((x : Int) < (c : Int)) by omega), hw, hge, hjl, hq32, wj]
end Go.Proofs.Ytbhfjdlhhjeknaa.Ab

namespace Go.Proofs.Ytbhfjdlhhjeknaa.Ab
set_option linter.unusedVariables false
set_option linter.unusedSimpArgs false
open Go
def gBigQ (pre : Nat → Nat → Bool) : GT := fun vs h => match vs, h with
  | [.u (.a (.big v)), .u (.a (.big w))], [] => .ite (pre v w) (.ret (.tup [.a (.dig (v / w)), .a (.dig (v % w))]) []) .no
  | _, _ => .no
theorem FnT.bigQ {f : FuncId} {fn : Func} {code : Code} {fns : Fns} (hfn : ∀ f, FnT Try.prog f (fns f)) (hf : Try.prog.funcs[f]? = some fn) (hb : fn.body = some code) (hn : (fn.name == "runtime.NumGoroutine") = false) (an : Ann)
    (pre : Nat → Nat → Bool)
    (H : ∀ D E, okD D → okD E → D.getLast? ≠ some 0 → E.getLast? ≠ some 0 → pre (nv D) (nv E) = true → ∃ N,
      (nv D < nv E ∧ run ty fns an N fn [.ro 0 D.length, .ro 1 E.length] [.at false (.int .u32 D), .at false (.int .u32 E)] = some (.tup [.a .nil, .a (.ro 0 D.length)], [.at false (.int .u32 D), .at false (.int .u32 E)])) ∨
      ∃ Q U n, run ty fns an N fn [.ro 0 D.length, .ro 1 E.length] [.at false (.int .u32 D), .at false (.int .u32 E)] =
        some (.tup [.a (.sl 2 0 Q.length), .a (.sl 3 0 n)], [.at false (.int .u32 D), .at false (.int .u32 E), .at true (.int .u32 Q), .at true (.int .u32 U)]) ∧ okD Q ∧ nv Q = nv D / nv E ∧ okD U ∧ n ≤ U.length ∧ nv (U.take n) = nv D % nv E) : FnT Try.prog f (gBigQ pre) := by
  intro vs hp v h' e μ w cvs hr hv
  unfold gBigQ at e
  split at e
  case h_2 => exact (T.no_inv e).elim
  rename_i a b
  obtain ⟨hpre, e⟩ := T.pre_inv e
  obtain ⟨rfl, rfl⟩ := T.ret_inv e
  obtain ⟨c1, c2, rfl, ⟨D, hD, rfl, hDl, hDs⟩, ⟨E, hE, rfl, hEl, hEs⟩⟩ := rep_two hv
  obtain ⟨m1, m2, f1, f2, r2, a2⟩ := open2 hr hDs hEs
  have h0 : μ.l.length = 0 := by rw [hr.len]; rfl
  have hro : ∀ b ∈ ([.at false (.int .u32 D), .at false (.int .u32 E)] : List B), ∀ c, b ≠ .at true c := by
    intro b hb c
    simp at hb
    rcases hb with rfl | rfl <;> simp
  obtain ⟨N, H⟩ := H D E hD hE hDl hEl hpre
  rcases H with ⟨hlt, hrun⟩ | ⟨Q, U, n, hrun, hQ, hQv, hU, hUn, hUv⟩
  · refine (FnT.runs hfn hf hb hn an N _ _ (.tup [.a .nil, .a (.ro 0 D.length)]) [.at false (.int .u32 D), .at false (.int .u32 E)] (by rw [T.run_of]; exact hrun) _ w _ r2 a2).mono fun cv w' ⟨μ', he, hcv⟩ => ?_
    obtain ⟨cs, rfl, hcs⟩ := hcv
    have hl : 0 < μ'.l.length := by have := he.rel.len; simp at this; omega
    have hm0 : μ'.l[0]? = some m1 := by
      obtain ⟨_, ν, hν⟩ := he.pre
      have h1 : (μ.app [m1, m2]).l = μ.l ++ [m1, m2] := rfl
      rw [hν, h1, List.append_assoc, List.getElem?_append_right (by omega), h0]
      rfl
    match cs, hcs with
    | [d1, d2], ⟨g1, g2, _⟩ =>
      have g1 : d1 = .slice none 0 0 := g1
      have g2 : RepA μ' (.ro 0 D.length) d2 := g2
      have hs := slz_ro hm0 (f1.mono he.pre.1) (Nat.le_refl _) g2
      rw [List.take_length] at hs
      refine ⟨_, Ev.cut (h := []) (ros := [.at false (.int .u32 D), .at false (.int .u32 E)]) (ms := [m1, m2]) (by rw [h0]; rfl) rfl hro he (fun i rw c hi => absurd hi (by simp)), _, rfl, ⟨[], (fun x hx => by cases hx), ?_, .inl ⟨rfl, g1⟩⟩, ⟨D, hD, ?_, hs⟩, trivial⟩
      · rw [Nat.div_eq_of_lt hlt]; rfl
      · rw [Nat.mod_eq_of_lt hlt]
  · refine (FnT.runs hfn hf hb hn an N _ _ (.tup [.a (.sl 2 0 Q.length), .a (.sl 3 0 n)]) [.at false (.int .u32 D), .at false (.int .u32 E), .at true (.int .u32 Q), .at true (.int .u32 U)] (by rw [T.run_of]; exact hrun) _ w _ r2 a2).mono fun cv w' ⟨μ', he, hcv⟩ => ?_
    obtain ⟨cs, rfl, hcs⟩ := hcv
    have hl4 : μ'.l.length = 4 := by have := he.rel.len; simpa using this
    have hl : 2 < μ'.l.length := by omega
    have hl3 : 3 < μ'.l.length := by omega
    obtain ⟨z, z1, z2, z3⟩ := he.freeze (k := 2) (List.getElem?_eq_getElem hl) rfl
    obtain ⟨z', y1, y2, y3⟩ := z3.freeze (k := 3) (List.getElem?_eq_getElem hl3) rfl
    match cs, hcs with
    | [d1, d2], ⟨g1, g2, _⟩ =>
      have g1 : RepA ⟨z', μ'.l⟩ (.sl 2 0 Q.length) d1 := RepA.pre ⟨z1.trans y1, [], by simp⟩ g1
      have g2 : RepA ⟨z', μ'.l⟩ (.sl 3 0 n) d2 := RepA.pre ⟨z1.trans y1, [], by simp⟩ g2
      have s1 := slz_sl (μ := ⟨z', μ'.l⟩) (List.getElem?_eq_getElem hl) (z2.mono y1) (Nat.le_refl _) g1
      have s2 := slz_sl (μ := ⟨z', μ'.l⟩) (List.getElem?_eq_getElem hl3) y2 hUn g2
      rw [List.take_length] at s1
      exact ⟨_, Ev.cut (h := []) (ros := [.at false (.int .u32 D), .at false (.int .u32 E)]) (ms := [m1, m2]) (by rw [h0]; rfl) rfl hro y3 (fun i rw c hi => absurd hi (by simp)), _, rfl, ⟨Q, hQ, hQv, s1⟩, ⟨U.take n, hU.take n, hUv, s2⟩, trivial⟩
theorem dvd5 {R : Type} (K : X → St → Option R) (N : Nat) (hN : 40 ≤ N) {n m e : Nat} (hn : 1 ≤ n) (hn2 : n ≤ 8) (l0 l1 : List Int) (he : l1[n - 1]? = some (e : Int)) (he0 : 0 < e) (heb : e < 4294967296) :
    ∃ y : Nat, y ≤ 31 ∧ 2147483648 ≤ e * 2 ^ y ∧ e * 2 ^ y < 4294967296 ∧ lp_dvd5 N N (st_dvd5 m n (n : Int) 0 l0 l1) K = K (.exit 0) (en_dvd5_0 m n (n : Int) (y : Int) l0 l1) := by
  refine loop_fuel (fun M (y : Nat) => lp_dvd5 N M (st_dvd5 m n (n : Int) (y : Int) l0 l1) K) (fun y => y ≤ 31 ∧ e * 2 ^ y < 4294967296) (fun y => 31 - y)
    (fun o => ∃ y : Nat, y ≤ 31 ∧ 2147483648 ≤ e * 2 ^ y ∧ e * 2 ^ y < 4294967296 ∧ o = K (.exit 0) (en_dvd5_0 m n (n : Int) (y : Int) l0 l1)) (fun M y hs => ?_) (s := 0) ⟨Nat.zero_le _, by simpa using heb⟩ (by omega)
  obtain ⟨hy, hlt⟩ := hs
  have hm : min (Int.toNat (y : Int)) 32 = y := by omega
  obtain ⟨X, hX⟩ : ∃ X, X = e * 2 ^ y := ⟨_, rfl⟩
  have hw : IntKind.u32.wrap ((e : Int) * 2 ^ y) = (X : Int) := by
    rw [show (e : Int) * 2 ^ y = ((e * 2 ^ y : Nat) : Int) by rw [Int.natCast_mul, Int.natCast_pow]; rfl, wrap32, Nat.mod_eq_of_lt hlt, hX]
  have w3 := wm1 hn (show n < 2147483648 by omega)
  have hneg : decide ((y : Int) < 0) = false := decide_eq_false (by omega)
  rw [← hX] at hlt
  obtain ⟨P, hP⟩ : ∃ P : Int, P = 2 ^ y := ⟨_, rfl⟩
  rw [← hP] at hw
  by_cases h1 : X < 2147483648
  · right
    have h2 : y < 31 := by
      rcases Nat.lt_or_ge y 31 with h | h
      · exact h
      · have h3 : 2 ^ 31 ≤ 2 ^ y := Nat.pow_le_pow_right (by decide) h
        have h4 := Nat.le_mul_of_pos_left (2 ^ y) he0
        have h5 : (2 : Nat) ^ 31 = 2147483648 := by decide
        omega
    refine ⟨y + 1, ⟨by omega, ?_⟩, by omega, ?_⟩
    · rw [Nat.pow_succ, ← Nat.mul_assoc, ← hX]; omega
    · have w4 : IntKind.u64.wrap ((y : Int) + 1) = ((y + 1 : Nat) : Int) := by rw [show (y : Int) + 1 = ((y + 1 : Nat) : Int) by omega, wrap64 (by omega)]
      have hd : decide ((X : Int) < 2147483648) = true := decide_eq_true (by omega)
      rw [step_dvd5, w3, din (show n - 1 < n by omega)]
      dsimp only
      rw [ix, hneg, hm, ← hP, he]
      dsimp only
      rw [hw, hd, w4]
  · left
    refine ⟨y, hy, by omega, by omega, ?_⟩
    have hd : decide ((X : Int) < 2147483648) = false := decide_eq_false (by omega)
    rw [step_dvd5, w3, din (show n - 1 < n by omega)]
    dsimp only
    rw [ix, hneg, hm, ← hP, he]
    dsimp only
    rw [hw, hd]
theorem take_zero {o : List Int} {k j : Nat} {x : Int} (ho : okD o) (h : nv (o.take k) = 0) (hj : j < k) (hx : o[j]? = some x) : x = 0 := by
  have h1 : (o.take k)[j]? = some x := by rw [List.getElem?_take, if_pos hj]; exact hx
  have h2 := nv_dgt (ho.take k) h1
  rw [h] at h2
  simpa [dgt] using h2
theorem take_set_ge {o : List Int} {j : Nat} (x : Int) : (o.set j x).take j = o.take j := by
  apply List.ext_getElem?
  intro i
  rw [List.getElem?_take, List.getElem?_take]
  split
  · rw [List.getElem?_set_ne (by omega)]
  · rfl
theorem dvd_all {R : Type} (K : X → St → Option R) (N : Nat) (hN : 12 ≤ N) {b n un on A : Nat} (hn : 1 ≤ n) (hn2 : n ≤ 8) (hun2 : un ≤ 10) (hon : on + n ≤ un) (y : Int) (l0 l1 u v : List Int) (hu : okD u) (hun : u.length = un)
    (hb : b < 4294967296 ^ n) (hb2 : 2147483648 * 4294967296 ^ (n - 1) ≤ b) (hU : nv u < b * 4294967296 ^ on) (hA : nv u = A) (hv : ∀ i, i < n → v[i]? = some ((dgt b i : Nat) : Int)) :
    ∃ u' o : List Int, okD u' ∧ u'.length = un ∧ okD o ∧ o.length = on ∧ nv o = A / b ∧ nv u' = A % b ∧
      lp_dvd12 N N (st_dvd12 (n : Int) y un n on (((if 1 < n then dgt b (n - 2) else 0 : Nat)) : Int) ((on : Int) - 1) l0 l1 u v (List.replicate on 0)) K = K (.exit 2) (en_dvd12_0 (n : Int) y un on l0 l1 u' o) := by
  have hb0 : 0 < b := Nat.lt_of_lt_of_le (Nat.mul_pos (by decide) (bpow_pos (n - 1))) hb2
  refine loop_fuel (fun M (s : Nat × List Int × List Int) => lp_dvd12 N M (st_dvd12 (n : Int) y un n on (((if 1 < n then dgt b (n - 2) else 0 : Nat)) : Int) ((s.1 : Int) - 1) l0 l1 s.2.1 v s.2.2) K)
    (fun s => s.1 ≤ on ∧ okD s.2.1 ∧ s.2.1.length = un ∧ nv s.2.1 < b * 4294967296 ^ s.1 ∧ okD s.2.2 ∧ s.2.2.length = on ∧ nv (s.2.2.take s.1) = 0 ∧ nv s.2.2 * b + nv s.2.1 = A) (fun s => s.1)
    (fun x => ∃ u' o : List Int, okD u' ∧ u'.length = un ∧ okD o ∧ o.length = on ∧ nv o = A / b ∧ nv u' = A % b ∧ x = K (.exit 2) (en_dvd12_0 (n : Int) y un on l0 l1 u' o)) (fun M s hs => ?_)
    (s := (on, u, List.replicate on 0)) ⟨Nat.le_refl _, hu, hun, hU, .zeros _, by simp, by simp [nv_zeros], by simp [nv_zeros, hA]⟩ (by dsimp only; omega)
  obtain ⟨k, u1, o⟩ := s
  obtain ⟨hk, h1, h2, h3, h4, h5, h6, h7⟩ := hs
  dsimp only at hk h1 h2 h3 h4 h5 h6 h7 ⊢
  cases k with
  | zero =>
    left
    rw [Nat.pow_zero, Nat.mul_one] at h3
    refine ⟨u1, o, h1, h2, h4, h5, ?_, ?_, ?_⟩
    · rw [← h7, Nat.mul_comm, Nat.mul_add_div hb0, Nat.div_eq_of_lt h3, Nat.add_zero]
    · rw [← h7, Nat.mul_comm, Nat.mul_add_mod, Nat.mod_eq_of_lt h3]
    · have hd : decide ((((0 : Nat) : Int) - 1) ≥ 0) = false := decide_eq_false (by omega)
      simp only [step_dvd12, hd]
  | succ j =>
    right
    rw [show ((j + 1 : Nat) : Int) - 1 = (j : Int) by omega]
    obtain ⟨u', a1, a2, a3, a4, a5, a6⟩ := dvd_turn K N (by omega) M hn hn2 (by omega) y l0 l1 u1 v o h1 h2 (show j + n < un by omega) hb hb2 h3 hv h5 (by omega)
    generalize nv u1 / 4294967296 ^ j / b = q at a3 a5 a6
    obtain ⟨x, hx, _, _⟩ := nat_get h4 (show j < o.length by omega)
    have hx0 := take_zero h4 h6 (Nat.lt_succ_self j) hx
    have hset := nv_set hx (q : Int)
    rw [Int.toNat_natCast, Int.toNat_natCast, show x = 0 by omega, Nat.mul_zero, Nat.add_zero] at hset
    refine ⟨(j, u', o.set j (q : Int)), ⟨by dsimp only; omega, a1, a2, a4, h4.set _ (by omega), by simpa using h5, ?_, ?_⟩, by dsimp only; omega, a6⟩
    · dsimp only
      rw [take_set_ge]
      have := nv_take (h4.take (j + 1)) j (by rw [List.length_take]; omega)
      rw [h6, List.take_take, Nat.zero_mod, Nat.min_eq_left (by omega)] at this
      exact this
    · dsimp only
      rw [hset, Nat.add_mul, ← h7, ← a3]
      have e : 4294967296 ^ j * q * b = q * (b * 4294967296 ^ j) := by rw [Nat.mul_comm (4294967296 ^ j), Nat.mul_assoc, Nat.mul_comm (4294967296 ^ j)]
      rw [e]
      omega
theorem dgt_shift {U y i : Nat} (hy : y ≤ 31) : dgt (U / 2 ^ y) i = ((dgt U (i + 1) * 4294967296 + dgt U i) / 2 ^ y) % 4294967296 := by
  unfold dgt
  rw [Nat.div_div_eq_div_mul, Nat.mul_comm, ← Nat.div_div_eq_div_mul, Nat.pow_succ, ← Nat.div_div_eq_div_mul]
  generalize U / 4294967296 ^ i = V
  have hp : 0 < 2 ^ y := Nat.pow_pos (by decide)
  have e : V = (V / 4294967296 % 4294967296 * 4294967296 + V % 4294967296) + 2 ^ y * (2 ^ (32 - y) * 4294967296 * (V / 4294967296 / 4294967296)) := by
    have h1 : 2 ^ y * (2 ^ (32 - y) * 4294967296 * (V / 4294967296 / 4294967296)) = 4294967296 * 4294967296 * (V / 4294967296 / 4294967296) := by
      rw [← Nat.mul_assoc, ← Nat.mul_assoc, ← Nat.pow_add, show y + (32 - y) = 32 by omega]
    rw [h1]
    omega
  have h2 : V / 2 ^ y = (V / 4294967296 % 4294967296 * 4294967296 + V % 4294967296) / 2 ^ y + 2 ^ (32 - y) * 4294967296 * (V / 4294967296 / 4294967296) := by
    conv => lhs; rw [e]
    rw [Nat.add_mul_div_left _ _ hp]
  rw [h2, Nat.mul_comm (2 ^ (32 - y)) 4294967296, Nat.mul_assoc, Nat.add_mul_mod_self_left]
theorem take_set_succ {l : List Int} {i : Nat} (h : i < l.length) (d : Int) : (l.set i d).take (i + 1) = l.take i ++ [d] := by
  rw [List.take_add_one, List.getElem?_set_self h, take_set_ge]
  rfl
theorem dvd49 {R : Type} (K : X → St → Option R) (N : Nat) (hN : 12 ≤ N) {n y on : Nat} (hn2 : n ≤ 8) (hy : y ≤ 31) (l0 l1 o u : List Int) (hu : okD u) (hn : n < u.length) (hU : nv u < 4294967296 ^ n) :
    ∃ u' : List Int, okD u' ∧ u'.length = u.length ∧ nv (u'.take n) = nv u / 2 ^ y ∧
      lp_dvd49 N N (st_dvd49 (n : Int) (y : Int) on n (n : Int) 0 l0 l1 o u) K = K (.exit 10) (en_dvd49_0 on n l0 l1 o u') := by
  refine loop_fuel (fun M (s : Nat × List Int) => lp_dvd49 N M (st_dvd49 (n : Int) (y : Int) on n (n : Int) (s.1 : Int) l0 l1 o s.2) K)
    (fun s => s.1 ≤ n ∧ okD s.2 ∧ s.2.length = u.length ∧ s.2.drop s.1 = u.drop s.1 ∧ nv (s.2.take s.1) = nv u / 2 ^ y % 4294967296 ^ s.1) (fun s => n - s.1)
    (fun x => ∃ u' : List Int, okD u' ∧ u'.length = u.length ∧ nv (u'.take n) = nv u / 2 ^ y ∧ x = K (.exit 10) (en_dvd49_0 on n l0 l1 o u')) (fun M s hs => ?_)
    (s := (0, u)) ⟨Nat.zero_le _, hu, rfl, rfl, by simp [nv, Nat.mod_one]⟩ (by dsimp only; omega)
  obtain ⟨i, l⟩ := s
  obtain ⟨hi, hl, hlen, hd, hv⟩ := hs
  dsimp only at hi hl hlen hd hv ⊢
  by_cases h1 : i < n
  · right
    have hget : ∀ p, i ≤ p → l[p]? = u[p]? := by
      intro p hp
      have h2 := congrArg (fun l => l[p - i]?) hd
      simp only [List.getElem?_drop] at h2
      rwa [show i + (p - i) = p by omega] at h2
    have h2 : l[i]? = some ((dgt (nv u) i : Nat) : Int) := by rw [hget i (Nat.le_refl _)]; exact nv_get hu (by omega)
    have h3 : l[i + 1]? = some ((dgt (nv u) (i + 1) : Nat) : Int) := by rw [hget (i + 1) (by omega)]; exact nv_get hu (by omega)
    have hm : min (Int.toNat (y : Int)) 64 = y := by omega
    have hdi := dgt_lt (nv u) i
    have hdj := dgt_lt (nv u) (i + 1)
    have hsh := dgt_shift (U := nv u) (y := y) (i := i) hy
    obtain ⟨r, hr⟩ : ∃ r, r = dgt (nv u / 2 ^ y) i := ⟨_, rfl⟩
    have hrb : r < 4294967296 := by rw [hr]; exact dgt_lt _ _
    have hhigh : ¬ (i + 1 < n) → dgt (nv u) (i + 1) = 0 := fun h => dgt_high hU (by omega)
    rw [← hr] at hsh
    generalize dgt (nv u) i = a at h2 hdi hsh
    generalize dgt (nv u) (i + 1) = c at h3 hdj hsh hhigh
    have hp : 0 < 2 ^ y := Nat.pow_pos (by decide)
    have hfd : ∀ z : Nat, IntKind.u32.wrap (Int.fdiv (z : Int) (2 ^ (min (Int.toNat (y : Int)) 64))) = ((z / 2 ^ y % 4294967296 : Nat) : Int) := by
      intro z
      rw [hm, Int.fdiv_eq_ediv_of_nonneg _ (Int.pow_nonneg (by decide)), show (2 : Int) ^ y = ((2 ^ y : Nat) : Int) by rw [Int.natCast_pow]; rfl, show (z : Int) / ((2 ^ y : Nat) : Int) = ((z / 2 ^ y : Nat) : Int) from rfl, wrap32]
    have hneg : decide ((y : Int) < 0) = false := decide_eq_false (by omega)
    have w := wr (show i < 2147483648 by omega)
    have hll : decide (i < l.length) = true := decide_eq_true (by omega)
    refine ⟨(i + 1, l.set i (r : Int)), ⟨by dsimp only; omega, hl.set _ (by omega), by simpa using hlen, ?_, ?_⟩, by dsimp only; omega, ?_⟩
    · dsimp only
      rw [drop_set (by omega)]
      have h4 := congrArg (List.drop 1) hd
      rwa [List.drop_drop, List.drop_drop] at h4
    · dsimp only
      rw [take_set_succ (by omega), nv_snoc, hv, List.length_take, Nat.min_eq_left (by omega), Int.toNat_natCast, mod_succ, hr]
    · by_cases h4 : i + 1 < n
      · have e1 : IntKind.u32.wrap (Int.fdiv (IntKind.u64.wrap (((BitVec.ofInt 64 (IntKind.u64.wrap (IntKind.u64.wrap (c : Int) * 2 ^ 32)) ||| BitVec.ofInt 64 (IntKind.u64.wrap (a : Int))).toNat : Nat) : Int)) (2 ^ (min (Int.toNat (y : Int)) 64))) = (r : Int) := by
          rw [wrap64 (n := c) (by omega), wrap64 (n := a) (by omega), sh32 hdj, or32 hdj hdi, wrap64 (by omega), hfd, ← hsh]
        simp only [step_dvd49, dlt h1, w, dlt h4, din h1, din h4, ix, h2, h3, hneg, hll, e1]
      · rw [hhigh h4, Nat.zero_mul, Nat.zero_add] at hsh
        have e1 : IntKind.u32.wrap (Int.fdiv (IntKind.u64.wrap (((BitVec.ofInt 64 0 ||| BitVec.ofInt 64 (IntKind.u64.wrap (a : Int))).toNat : Nat) : Int)) (2 ^ (min (Int.toNat (y : Int)) 64))) = (r : Int) := by
          rw [wrap64 (n := a) (by omega), zero_or hdi, wrap64 (by omega), hfd, ← hsh]
        simp only [step_dvd49, dlt h1, w, dge (show n ≤ i + 1 by omega), din h1, ix, h2, hneg, hll, e1]
  · left
    have e : i = n := by omega
    subst e
    refine ⟨l, hl, hlen, ?_, ?_⟩
    · rw [hv]
      exact Nat.mod_eq_of_lt (Nat.lt_of_le_of_lt (Nat.div_le_self _ _) hU)
    · simp only [step_dvd49, dge (Nat.le_refl _)]
theorem ok_dvd : FnT Try.prog 162 (gBigQ (fun v w => lowB v && lowB w && decide (0 < w))) := by
  refine FnT.bigQ tabok_dvd Try.func162 rfl rfl an_dvd _ fun D E hD hE hDl hEl hp => ⟨50, ?_⟩
  rw [Bool.and_eq_true, Bool.and_eq_true] at hp
  have hm := lowB_len hD hDl hp.1.1
  have hn2 := lowB_len hE hEl hp.1.2
  have hE0 := of_decide_eq_true hp.2
  have hDv := nv_lt hD
  have hEv := nv_lt hE
  have hn : 1 ≤ E.length := by
    rcases Nat.eq_zero_or_pos E.length with h | h
    · rw [List.length_eq_zero_iff.1 h] at hE0
      exact absurd hE0 (by decide)
    · exact h
  by_cases hlt : D.length < E.length
  · left
    refine ⟨cmp_len hD hE hEl hlt, ?_⟩
    rw [run_dvd, decide_eq_true (by omega)]
  · right
    rw [run_dvd, decide_eq_false (by omega)]
    dsimp only
    obtain ⟨e, he, heb, hed⟩ := nat_get hE (show E.length - 1 < E.length by omega)
    have htop := trim_ge hE hEl (by omega)
    have he1 : e = nv E / 4294967296 ^ (E.length - 1) := by
      rw [hed]
      unfold dgt
      rw [Nat.mod_eq_of_lt]
      rw [Nat.div_lt_iff_lt_mul (bpow_pos _), ← Nat.pow_succ', show (E.length - 1).succ = E.length by omega]
      exact hEv
    have he0 : 0 < e := by
      rw [he1]
      exact Nat.div_pos htop (bpow_pos _)
    obtain ⟨y, hy, hy1, hy2, hy3⟩ := dvd5 (kt_dvd5 50 (kEnd Try.f162 2)) 50 (by omega) (m := D.length) hn hn2 D E he he0 heb
    rw [hy3, end_dvd5_0]
    have hp0 : 0 < 2 ^ y := Nat.pow_pos (by decide)
    have hp31 := pow31 hy
    obtain ⟨A, hA⟩ : ∃ A, A = nv D * 2 ^ y := ⟨_, rfl⟩
    obtain ⟨b, hb⟩ : ∃ b, b = nv E * 2 ^ y := ⟨_, rfl⟩
    have hbn : b < 4294967296 ^ E.length := by
      have h1 : nv E < (e + 1) * 4294967296 ^ (E.length - 1) := by rw [he1, Nat.mul_comm]; exact Nat.lt_mul_div_succ _ (bpow_pos _)
      have h2 : nv E * 2 ^ y < (e + 1) * 4294967296 ^ (E.length - 1) * 2 ^ y := Nat.mul_lt_mul_of_pos_right h1 hp0
      have h3 : (e + 1) * 4294967296 ^ (E.length - 1) * 2 ^ y = (e * 2 ^ y + 2 ^ y) * 4294967296 ^ (E.length - 1) := by
        rw [Nat.mul_right_comm, Nat.succ_mul]
      have h4 : e * 2 ^ y + 2 ^ y ≤ 4294967296 := by
        have h5 : 4294967296 = 2 ^ (32 - y) * 2 ^ y := by rw [← Nat.pow_add, show 32 - y + y = 32 by omega]
        rw [← Nat.succ_mul, h5]
        refine Nat.mul_le_mul_right _ ?_
        rw [h5] at hy2
        exact Nat.lt_of_mul_lt_mul_right hy2
      have h5 : (e * 2 ^ y + 2 ^ y) * 4294967296 ^ (E.length - 1) ≤ 4294967296 * 4294967296 ^ (E.length - 1) := Nat.mul_le_mul_right _ h4
      rw [← Nat.pow_succ', show (E.length - 1).succ = E.length by omega] at h5
      omega
    have hb2 : 2147483648 * 4294967296 ^ (E.length - 1) ≤ b := by
      have h1 : e * 4294967296 ^ (E.length - 1) ≤ nv E := by rw [he1]; exact Nat.div_mul_le_self _ _
      have h2 : e * 4294967296 ^ (E.length - 1) * 2 ^ y ≤ nv E * 2 ^ y := Nat.mul_le_mul_right _ h1
      have h3 : 2147483648 * 4294967296 ^ (E.length - 1) ≤ e * 2 ^ y * 4294967296 ^ (E.length - 1) := Nat.mul_le_mul_right _ hy1
      rw [Nat.mul_right_comm] at h2
      omega
    have hAm : A < 4294967296 ^ (D.length + 1) := by
      have h1 : nv D * 2 ^ y < 4294967296 ^ D.length * 2 ^ y := Nat.mul_lt_mul_of_pos_right hDv hp0
      have h2 : 4294967296 ^ D.length * 2 ^ y ≤ 4294967296 ^ D.length * 4294967296 := Nat.mul_le_mul_left _ (by omega)
      rw [Nat.pow_succ]
      omega
    have hAb : A < b * 4294967296 ^ (D.length - E.length + 1) := by
      have h1 : nv D * 2 ^ y < 4294967296 ^ D.length * 2 ^ y := Nat.mul_lt_mul_of_pos_right hDv hp0
      have h2 : 4294967296 ^ D.length * 2 ^ y ≤ 4294967296 ^ D.length * 2147483648 := Nat.mul_le_mul_left _ hp31
      have h3 : 2147483648 * 4294967296 ^ (E.length - 1) * 4294967296 ^ (D.length - E.length + 1) ≤ b * 4294967296 ^ (D.length - E.length + 1) := Nat.mul_le_mul_right _ hb2
      rw [Nat.mul_assoc, ← Nat.pow_add, show E.length - 1 + (D.length - E.length + 1) = D.length by omega, Nat.mul_comm] at h3
      omega
    have ok1 : dbOk D.length D (y : Int) = true := by unfold dbOk; rw [Bool.and_eq_true]; exact ⟨decide_eq_true (by omega), digB_iff.2 hD⟩
    have ok2 : dbOk E.length E (y : Int) = true := by unfold dbOk; rw [Bool.and_eq_true]; exact ⟨decide_eq_true (by omega), digB_iff.2 hE⟩
    have on1 : IntKind.i64.wrap ((D.length : Int) - (E.length : Int)) = ((D.length - E.length + 1 : Nat) : Int) - 1 := by rw [wrap_z (by omega) (by omega)]; omega
    have on2 : IntKind.i64.wrap (((D.length - E.length + 1 : Nat) : Int) - 1 + 1) = ((D.length - E.length + 1 : Nat) : Int) := by rw [wrap_z (by omega) (by omega)]; omega
    have tn : ((E.length : Int) - 0).toNat = E.length := by omega
    have hdec : decide (0 ≤ (0 : Int) ∧ (0 : Int) ≤ (E.length : Int) ∧ ((E.length : Int) : Int) ≤ ((E.length + 1 : Nat) : Int)) = true := decide_eq_true (by omega)
    have hdec2 : decide (0 ≤ (((D.length - E.length + 1 : Nat) : Int) : Int) ∧ (((D.length - E.length + 1 : Nat) : Int) : Int) ≤ ((D.length - E.length + 1 : Nat) : Int) ∧ (((D.length - E.length + 1 : Nat) : Int) : Int) ≤ 9223372036854775807 ∧ (D.length - E.length + 1) * 4 ≤ 140737488355328 ∧ 0 < 1 ∧ True) = true := decide_eq_true ⟨by omega, by omega, by omega, by omega, by omega, trivial⟩
    have hvg : ∀ i, i < E.length → (dg (E.length + 1) b)[i]? = some ((dgt b i : Nat) : Int) := fun i hi => dg_get (by omega)
    have huv : nv (dg (D.length + 1) A) = A := by rw [nv_dg, Nat.mod_eq_of_lt hAm]
    have mid : ∃ Q U n, (lp_dvd12 50 50 (st_dvd12 (E.length : Int) (y : Int) (D.length + 1) E.length (D.length - E.length + 1) (((if 1 < E.length then dgt b (E.length - 2) else 0 : Nat)) : Int) (((D.length - E.length + 1 : Nat) : Int) - 1) D E (dg (D.length + 1) A) (dg (E.length + 1) b) (List.replicate (D.length - E.length + 1) 0)) (kt_dvd12 50 (kEnd Try.f162 2))) =
        some (.tup [.a (.sl 2 0 Q.length), .a (.sl 3 0 n)], [.at false (.int .u32 D), .at false (.int .u32 E), .at true (.int .u32 Q), .at true (.int .u32 U)]) ∧ okD Q ∧ nv Q = nv D / nv E ∧ okD U ∧ n ≤ U.length ∧ nv (U.take n) = nv D % nv E := by
      obtain ⟨u', o, a1, a2, a3, a4, a5, a6, a7⟩ := dvd_all (kt_dvd12 50 (kEnd Try.f162 2)) 50 (by omega) (b := b) (un := D.length + 1) (on := D.length - E.length + 1) (A := A) hn hn2 (by omega) (by omega) (y : Int) D E (dg (D.length + 1) A) (dg (E.length + 1) b) (dg_ok _ _) (dg_len _ _) hbn hb2 (by rw [huv]; exact hAb) huv hvg
      have hb0 : 0 < b := by rw [hb]; exact Nat.mul_pos hE0 hp0
      have hlt2 := Nat.mod_lt A hb0
      obtain ⟨u2, c1, c2, c3, c4⟩ := dvd49 (kt_dvd49 50 (kEnd Try.f162 2)) 50 (by omega) (n := E.length) (on := D.length - E.length + 1) hn2 hy D E o u' a1 (by omega) (by rw [a6]; omega)
      refine ⟨o, u2, E.length, ?_, a3, ?_, c1, by omega, ?_⟩
      · have hd3 : decide (0 ≤ (0 : Int) ∧ (0 : Int) ≤ (E.length : Int) ∧ ((E.length : Int) : Int) ≤ ((D.length + 1 : Nat) : Int)) = true := decide_eq_true (by omega)
        rw [a7, end_dvd12_0, hd3]
        dsimp only
        rw [tn, c4, end_dvd49_0, a4]
      · rw [a5, hA, hb, Nat.mul_div_mul_right _ _ hp0]
      · rw [c3, a6, hA, hb, Nat.mul_mod_mul_right, Nat.mul_div_cancel _ hp0]
    simp only [ok1, ok2, hdec, on1, on2, hdec2, Int.toNat_natCast, tn, ← hA, ← hb]
    by_cases h1 : 1 < E.length
    · rw [if_pos h1] at mid
      have w4 := wm2 (n := E.length) (by omega) (by omega)
      have h64 : IntKind.u64.wrap ((dgt b (E.length - 2) : Nat) : Int) = ((dgt b (E.length - 2) : Nat) : Int) := wrap64 (by have := dgt_lt b (E.length - 2); omega)
      simp only [decide_eq_true (show (E.length : Int) > 1 by omega), w4, din (show E.length - 2 < E.length by omega), ix, hvg (E.length - 2) (by omega), h64]
      exact mid
    · rw [if_neg h1] at mid
      simp only [decide_eq_false (show ¬ ((E.length : Int) > 1) by omega)]
      exact mid
end Go.Proofs.Ytbhfjdlhhjeknaa.Ab

namespace Go.Proofs.Ytbhfjdlhhjeknaa.Ab
set_option linter.unusedVariables false
set_option linter.unusedSimpArgs false
open Go
theorem slz_len {z : Nat → Option (Array Value)} {D : List Int} {cv : Value} (h : SlZ z D cv) : D.length ≤ maxLen := by
  rcases h with ⟨rfl, _⟩ | ⟨_, _, c, _, h1, h2, _⟩
  · exact Nat.zero_le _
  · omega
theorem rep_three {μ : Mu} {t u v : V} {cvs : List Value} (h : RepVs μ [t, u, v] cvs) : ∃ b c d, cvs = [b, c, d] ∧ RepV μ t b ∧ RepV μ u c ∧ RepV μ v d := by
  cases cvs with
  | nil => exact h.elim
  | cons b cs =>
    obtain ⟨c, d, rfl, h1, h2⟩ := rep_two h.2
    exact ⟨b, c, d, rfl, h.1, h1, h2⟩
theorem put_core {f : FuncId} {fn : Func} {code : Code} {fns : Fns} (hfn : ∀ f, FnT Try.prog f (fns f)) (hf : Try.prog.funcs[f]? = some fn) (hb : fn.body = some code) (hn : (fn.name == "runtime.NumGoroutine") = false) (an : Ann)
    {rest : List A} {gs : List B} (hrest : ∀ x ∈ rest, x.ids = []) (hgs : ∀ b ∈ gs, b = .gone) {s s0 : Bool} {v0 : Nat}
    (H : ∀ D, okD D → D.length ≤ maxLen → ∃ N n, n ≤ D.length ∧ nv (D.take n) = nv D ∧ (D.take n).getLast? ≠ some 0 ∧
      run ty fns an N fn [.ptr 0 0, .bool s, .ro (gs.length + 1) D.length] ((.at true (.as 1 (.bool s0 :: .big v0 :: rest)) :: gs) ++ [.at false (.int .u32 D)]) =
        some (.ptr 0 0, (.at true (.as 1 (.bool (s && decide (0 < nv D)) :: .ro (gs.length + 1) n :: rest)) :: gs) ++ [.at false (.int .u32 D)]))
    {μ : Mu} {w : World} {c1 c2 c3 : Value} {D : List Int} (hr : Rel μ (.at true (.as 1 (.bool s0 :: .big v0 :: rest)) :: gs) w) (h1 : RepV μ (.ptr 0 0) c1) (h2 : RepV μ (.bool s) c2) (hD : okD D) (h3 : SlZ μ.z D c3) :
    CallRes Try.prog f [c1, c2, c3] w fun cv w' => Goes μ (.at true (.as 1 (.bool s0 :: .big v0 :: rest)) :: gs) w (.ptr 0 0) (.at true (.as 1 (.bool (s && decide (0 < nv D)) :: .big (nv D) :: rest)) :: gs) cv w' := by
  obtain ⟨m, f1, r2, a2⟩ := hr.thaw h3
  obtain ⟨N, n, hn1, hn2, hn3, hrun⟩ := H D hD (slz_len h3)
  have hlen : μ.l.length = gs.length + 1 := hr.len
  have hargs : RepVs (μ.app [m]) [.ptr 0 0, .bool s, .ro (gs.length + 1) D.length] [c1, c2, c3] := ⟨h1.pre (.app μ _), h2, a2, trivial⟩
  refine (FnT.runs hfn hf hb hn an N _ _ (.ptr 0 0) ((.at true (.as 1 (.bool (s && decide (0 < nv D)) :: .ro (gs.length + 1) n :: rest)) :: gs) ++ [.at false (.int .u32 D)]) (by rw [T.run_of]; exact hrun) _ w _ r2 hargs).mono fun cv w' ⟨μ', he, hcv⟩ => ?_
  have hm : μ'.l[gs.length + 1]? = some m := by
    obtain ⟨_, ν, hν⟩ := he.pre
    have e : (μ.app [m]).l = μ.l ++ [m] := rfl
    rw [hν, e, List.append_assoc, List.getElem?_append_right (by omega), hlen, Nat.sub_self]
    rfl
  have hw := he.weak (k := 0) (c := .as 1 (.bool (s && decide (0 < nv D)) :: .ro (gs.length + 1) n :: rest)) (c' := .as 1 (.bool (s && decide (0 < nv D)) :: .big (nv D) :: rest)) (rw := true) rfl rfl (fun m0 _ p x hx => by
    rw [C.get?_as] at hx
    match p, hx with
    | 0, hx => exact ⟨x, by rw [C.get?_as]; exact hx, fun cv h => h⟩
    | 1, hx =>
      refine ⟨_, by rw [C.get?_as]; rfl, fun cv h => ?_⟩
      have e : x = .big (nv D) := by simpa using hx.symm
      subst e
      have hs := slz_ro hm (f1.mono he.pre.1) hn1 h
      exact ⟨D.take n, hD.take n, hn2, hn3, hs⟩
    | p + 2, hx => exact ⟨x, by rw [C.get?_as]; exact hx, fun cv h => h⟩)
  have hc := Ev.cut (ros := [.at false (.int .u32 D)]) (ms := [m]) (μ := μ) hr.len rfl (fun b hb c => by simp at hb; subst hb; simp) hw (fun i rw c hi hb p x hx => by
    rw [List.getElem?_set] at hb
    split at hb
    · simp at hb
      obtain ⟨_, rfl, rfl⟩ := hb
      rw [C.get?_as] at hx
      match p, hx with
      | 0, hx => simp at hx; subst hx; rfl
      | 1, hx => simp at hx; subst hx; rfl
      | p + 2, hx => exact hrest x (List.mem_of_getElem? (by simpa using hx))
    · rename_i hne
      obtain ⟨i, rfl⟩ : ∃ p, i = p + 1 := ⟨i - 1, by omega⟩
      have hi2 : i < gs.length := by simpa using hi
      rw [List.getElem?_append_left (by simpa using hi)] at hb
      simp only [List.getElem?_cons_succ] at hb
      have := hgs _ (List.mem_of_getElem? hb)
      cases this)
  refine ⟨⟨μ'.z, μ.l⟩, ?_, ?_⟩
  · have e : ((((B.at true (.as 1 (.bool (s && decide (0 < nv D)) :: .ro (gs.length + 1) n :: rest)) :: gs) ++ [B.at false (.int .u32 D)]).set 0 (B.at true (.as 1 (.bool (s && decide (0 < nv D)) :: .big (nv D) :: rest)))).take (B.at true (.as 1 (.bool s0 :: .big v0 :: rest)) :: gs).length) = B.at true (.as 1 (.bool (s && decide (0 < nv D)) :: .big (nv D) :: rest)) :: gs := by
      simp
    rw [e] at hc
    exact hc
  · obtain ⟨m0, h4, rfl⟩ := hcv
    refine ⟨m0, ?_, rfl⟩
    obtain ⟨_, ν, hν⟩ := he.pre
    have e : (μ.app [m]).l = μ.l ++ [m] := rfl
    rw [hν, e, List.append_assoc, List.getElem?_append_left (by omega)] at h4
    exact h4
theorem trim_pos {D : List Int} {n : Nat} (hD : okD D) (hn : n ≤ D.length) (h : nv (D.take n) = nv D) (hl : (D.take n).getLast? ≠ some 0) : decide (((n : Nat) : Int) > 0) = decide (0 < nv D) := by
  rcases Nat.eq_zero_or_pos n with h0 | h0
  · subst h0
    rw [← h]
    rfl
  · have h1 := trim_ge (hD.take n) hl (by rw [List.length_take]; omega)
    have h2 := bpow_pos ((D.take n).length - 1)
    rw [decide_eq_true (by omega), decide_eq_true (by omega)]
theorem take_last {D : List Int} {n : Nat} {x : Int} (hx : D[n]? = some x) : D.take (n + 1) = D.take n ++ [x] := by
  rw [List.take_add_one, hx]
  rfl
end Go.Proofs.Ytbhfjdlhhjeknaa.Ab

namespace Go.Proofs.Ytbhfjdlhhjeknaa.Ab
set_option linter.unusedVariables false
set_option linter.unusedSimpArgs false
open Go
def an_putA : Ann := ⟨fun r => if r = 1 then some ([0, 1, 2], [0, 1, 2]) else none, fun _ _ => .quiet⟩
def tab_putA : Fns := tabT []
theorem tabok_putA : ∀ f, FnT Try.prog f (tab_putA f) := tabT_nil
def st_putA1 (less1 : Bool) (digits2n : Nat) (b0_0 : Bool) (b0_1 : Nat) (l1 : List Int) : St := ⟨(.ptr 0 0 :: .bool less1 :: .ro 1 digits2n :: (anys 35 [])), [.at true (.as 1 [.bool b0_0, .big b0_1]), .at false (.int .u32 l1)]⟩
abbrev kp_putA1 : Option (List Nat × List Nat) := some ([0, 1, 2], [0, 1, 2])
noncomputable def lp_putA1 {R : Type} (N M : Nat) (s : St) (K : X → St → Option R) : Option R := loopH 2 kp_putA1 (fun st K => exec ty tab_putA an_putA N 2 (atOf [true, false, false, false] Try.f160) st K) M s K
noncomputable def kt_putA1 {R : Type} (N : Nat) (K : X → St → Option R) : X → St → Option R := kBlkR 0 (kSeqR tab_putA an_putA N 2 (atOf [true, true] Try.f160) (K))
def en_putA1_0 (less1 : Bool) (digits2n : Nat) (b0_0 : Bool) (b0_1 : Nat) (l1 : List Int) : St := ⟨(.ptr 0 0 :: .bool less1 :: .ro 1 digits2n :: (anys 35 [])), [.at true (.as 1 [.bool b0_0, .big b0_1]), .at false (.int .u32 l1)]⟩
theorem run_putA (N : Nat) (s : Bool) (n : Nat) (s0 : Bool) (v0 : Nat) (A : List Int) : run ty tab_putA an_putA N Try.f160 [.ptr 0 0, .bool s, .ro 1 n] [.at true (.as 1 [.bool s0, .big v0]), .at false (.int .u32 A)]
    = lp_putA1 N N (st_putA1 s n s0 v0 A) (kt_putA1 N (kEnd Try.f160 2)) := by
  kernel_rfl
theorem step_putA1 {R : Type} (N M : Nat) (K : X → St → Option R) (less1 : Bool) (digits2n : Nat) (b0_0 : Bool) (b0_1 : Nat) (l1 : List Int) : lp_putA1 N (M + 1) (st_putA1 less1 digits2n b0_0 b0_1 l1) K
    = (match decide ((((digits2n : Nat) : Int) : Int) > 0) with | true => (match decide (0 ≤ (IntKind.i64.wrap (((digits2n : Nat) : Int) - 1) : Int) ∧ (IntKind.i64.wrap (((digits2n : Nat) : Int) - 1) : Int) < ((digits2n : Nat) : Int)) with | true => (match l1[0 + (IntKind.i64.wrap (((digits2n : Nat) : Int) - 1)).toNat * 1]? with | some e1 => (match e1 == 0 with | true => (match decide (0 ≤ (IntKind.i64.wrap (((digits2n : Nat) : Int) - 1) : Int) ∧ (IntKind.i64.wrap (((digits2n : Nat) : Int) - 1) : Int) ≤ ((digits2n : Nat) : Int)) with | true => lp_putA1 N M (st_putA1 less1 ((IntKind.i64.wrap (((digits2n : Nat) : Int) - 1)).toNat) b0_0 b0_1 l1) K | false => none) | false => K (.exit 0) (en_putA1_0 less1 digits2n b0_0 b0_1 l1)) | none => none) | false => none) | false => K (.exit 0) (en_putA1_0 less1 digits2n b0_0 b0_1 l1)) := by
  kernel_rfl
theorem end_putA1_0 (N : Nat) (less1 : Bool) (digits2n : Nat) (b0_0 : Bool) (b0_1 : Nat) (l1 : List Int) : kt_putA1 N (kEnd Try.f160 2) (.exit 0) (en_putA1_0 less1 digits2n b0_0 b0_1 l1)
    = (match less1 with | true => some (.ptr 0 0, [.at true (.as 1 [.bool (decide ((((digits2n : Nat) : Int) : Int) > 0)), .ro 1 digits2n]), .at false (.int .u32 l1)]) | false => some (.ptr 0 0, [.at true (.as 1 [.bool false, .ro 1 digits2n]), .at false (.int .u32 l1)])) := by
  kernel_rfl
theorem H_putA (s s0 : Bool) (v0 : Nat) (D : List Int) (hD : okD D) (hlen : D.length ≤ maxLen) : ∃ N n, n ≤ D.length ∧ nv (D.take n) = nv D ∧ (D.take n).getLast? ≠ some 0 ∧
      run ty tab_putA an_putA N Try.f160 [.ptr 0 0, .bool s, .ro 1 D.length] ((.at true (.as 1 (.bool s0 :: .big v0 :: [])) :: []) ++ [.at false (.int .u32 D)]) =
        some (.ptr 0 0, (.at true (.as 1 (.bool (s && decide (0 < nv D)) :: .ro 1 n :: [])) :: []) ++ [.at false (.int .u32 D)]) := by
  unfold maxLen at hlen
  refine ⟨D.length + 1, ?_⟩
  have hrun := run_putA (D.length + 1) s D.length s0 v0 D
  have key := loop_fuel (N := D.length + 1) (fun M (n : Nat) => lp_putA1 (D.length + 1) M (st_putA1 s n s0 v0 D) (kt_putA1 (D.length + 1) (kEnd Try.f160 2))) (fun n => n ≤ D.length ∧ nv (D.take n) = nv D) (fun n => n)
    (fun o => ∃ n, n ≤ D.length ∧ nv (D.take n) = nv D ∧ (D.take n).getLast? ≠ some 0 ∧ o = some (.ptr 0 0, (.at true (.as 1 (.bool (s && decide (0 < nv D)) :: .ro 1 n :: [])) :: []) ++ [.at false (.int .u32 D)])) (fun M n hs => ?_) (s := D.length) ⟨Nat.le_refl _, by rw [List.take_length]⟩ (Nat.lt_succ_self _)
  · obtain ⟨n, h1, h2, h3, h4⟩ := key
    exact ⟨n, h1, h2, h3, hrun.trans h4⟩
  obtain ⟨hn, hv⟩ := hs
  cases n with
  | zero =>
    left
    have h3 : (D.take 0).getLast? ≠ some 0 := by simp
    refine ⟨0, hn, hv, h3, ?_⟩
    have hp := trim_pos hD hn hv h3
    simp only [step_putA1, decide_eq_false (show ¬ ((((0 : Nat) : Int) : Int) > 0) by omega), end_putA1_0]
    rw [← hp, decide_eq_false (show ¬ ((((0 : Nat) : Int) : Int) > 0) by omega)]
    cases s <;> rfl
  | succ n =>
    obtain ⟨x, hx, _, _⟩ := nat_get hD (show n < D.length by omega)
    have w : IntKind.i64.wrap (((n + 1 : Nat) : Int) - 1) = (n : Int) := by rw [wrap_z (by omega) (by omega)]; omega
    have hpos : decide ((((n + 1 : Nat) : Int) : Int) > 0) = true := decide_eq_true (by omega)
    have htl := take_last hx
    by_cases h0 : x = 0
    · right
      subst h0
      refine ⟨n, ⟨by omega, ?_⟩, Nat.lt_succ_self n, ?_⟩
      · rw [← hv, htl, nv_snoc]
        simp
      · have e1 : decide (0 ≤ (n : Int) ∧ (n : Int) ≤ ((n + 1 : Nat) : Int)) = true := decide_eq_true (by omega)
        simp only [step_putA1, hpos, w, din (Nat.lt_succ_self n), ix, hx, show (((0 : Nat) : Int) == 0) = true from rfl, e1]
        rw [Int.toNat_natCast]
    · left
      have h3 : (D.take (n + 1)).getLast? ≠ some 0 := by
        rw [htl, List.getLast?_append]
        simp
        omega
      refine ⟨n + 1, hn, hv, h3, ?_⟩
      have hp := trim_pos hD hn hv h3
      have hx0 : ((x : Int) == 0) = false := by simp; omega
      simp only [step_putA1, hpos, w, din (Nat.lt_succ_self n), ix, hx, hx0, end_putA1_0]
      rw [← hp, hpos]
      cases s <;> rfl
def an_putB : Ann := ⟨fun r => if r = 1 then some ([0, 1, 2], [0, 1, 2]) else none, fun _ _ => .quiet⟩
def tab_putB : Fns := tabT []
theorem tabok_putB : ∀ f, FnT Try.prog f (tab_putB f) := tabT_nil
def st_putB1 (less1 : Bool) (digits2n : Nat) (b0_0 : Bool) (b0_1 : Nat) (b0_2 : Nat) (l1 : List Int) : St := ⟨(.ptr 0 0 :: .bool less1 :: .ro 1 digits2n :: (anys 35 [])), [.at true (.as 1 [.bool b0_0, .big b0_1, .big b0_2]), .at false (.int .u32 l1)]⟩
abbrev kp_putB1 : Option (List Nat × List Nat) := some ([0, 1, 2], [0, 1, 2])
noncomputable def lp_putB1 {R : Type} (N M : Nat) (s : St) (K : X → St → Option R) : Option R := loopH 2 kp_putB1 (fun st K => exec ty tab_putB an_putB N 2 (atOf [true, false, false, false] Try.f160) st K) M s K
noncomputable def kt_putB1 {R : Type} (N : Nat) (K : X → St → Option R) : X → St → Option R := kBlkR 0 (kSeqR tab_putB an_putB N 2 (atOf [true, true] Try.f160) (K))
def en_putB1_0 (less1 : Bool) (digits2n : Nat) (b0_0 : Bool) (b0_1 : Nat) (b0_2 : Nat) (l1 : List Int) : St := ⟨(.ptr 0 0 :: .bool less1 :: .ro 1 digits2n :: (anys 35 [])), [.at true (.as 1 [.bool b0_0, .big b0_1, .big b0_2]), .at false (.int .u32 l1)]⟩
theorem run_putB (N : Nat) (s : Bool) (n : Nat) (s0 : Bool) (v0 : Nat) (d0 : Nat) (A : List Int) : run ty tab_putB an_putB N Try.f160 [.ptr 0 0, .bool s, .ro 1 n] [.at true (.as 1 [.bool s0, .big v0, .big d0]), .at false (.int .u32 A)]
    = lp_putB1 N N (st_putB1 s n s0 v0 d0 A) (kt_putB1 N (kEnd Try.f160 2)) := by
  kernel_rfl
theorem step_putB1 {R : Type} (N M : Nat) (K : X → St → Option R) (less1 : Bool) (digits2n : Nat) (b0_0 : Bool) (b0_1 : Nat) (b0_2 : Nat) (l1 : List Int) : lp_putB1 N (M + 1) (st_putB1 less1 digits2n b0_0 b0_1 b0_2 l1) K
    = (match decide ((((digits2n : Nat) : Int) : Int) > 0) with | true => (match decide (0 ≤ (IntKind.i64.wrap (((digits2n : Nat) : Int) - 1) : Int) ∧ (IntKind.i64.wrap (((digits2n : Nat) : Int) - 1) : Int) < ((digits2n : Nat) : Int)) with | true => (match l1[0 + (IntKind.i64.wrap (((digits2n : Nat) : Int) - 1)).toNat * 1]? with | some e1 => (match e1 == 0 with | true => (match decide (0 ≤ (IntKind.i64.wrap (((digits2n : Nat) : Int) - 1) : Int) ∧ (IntKind.i64.wrap (((digits2n : Nat) : Int) - 1) : Int) ≤ ((digits2n : Nat) : Int)) with | true => lp_putB1 N M (st_putB1 less1 ((IntKind.i64.wrap (((digits2n : Nat) : Int) - 1)).toNat) b0_0 b0_1 b0_2 l1) K | false => none) | false => K (.exit 0) (en_putB1_0 less1 digits2n b0_0 b0_1 b0_2 l1)) | none => none) | false => none) | false => K (.exit 0) (en_putB1_0 less1 digits2n b0_0 b0_1 b0_2 l1)) := by
  kernel_rfl
theorem end_putB1_0 (N : Nat) (less1 : Bool) (digits2n : Nat) (b0_0 : Bool) (b0_1 : Nat) (b0_2 : Nat) (l1 : List Int) : kt_putB1 N (kEnd Try.f160 2) (.exit 0) (en_putB1_0 less1 digits2n b0_0 b0_1 b0_2 l1)
    = (match less1 with | true => some (.ptr 0 0, [.at true (.as 1 [.bool (decide ((((digits2n : Nat) : Int) : Int) > 0)), .ro 1 digits2n, .big b0_2]), .at false (.int .u32 l1)]) | false => some (.ptr 0 0, [.at true (.as 1 [.bool false, .ro 1 digits2n, .big b0_2]), .at false (.int .u32 l1)])) := by
  kernel_rfl
theorem H_putB (s s0 : Bool) (v0 d0 : Nat) (D : List Int) (hD : okD D) (hlen : D.length ≤ maxLen) : ∃ N n, n ≤ D.length ∧ nv (D.take n) = nv D ∧ (D.take n).getLast? ≠ some 0 ∧
      run ty tab_putB an_putB N Try.f160 [.ptr 0 0, .bool s, .ro 1 D.length] ((.at true (.as 1 (.bool s0 :: .big v0 :: [.big d0])) :: []) ++ [.at false (.int .u32 D)]) =
        some (.ptr 0 0, (.at true (.as 1 (.bool (s && decide (0 < nv D)) :: .ro 1 n :: [.big d0])) :: []) ++ [.at false (.int .u32 D)]) := by
  unfold maxLen at hlen
  refine ⟨D.length + 1, ?_⟩
  have hrun := run_putB (D.length + 1) s D.length s0 v0 d0 D
  have key := loop_fuel (N := D.length + 1) (fun M (n : Nat) => lp_putB1 (D.length + 1) M (st_putB1 s n s0 v0 d0 D) (kt_putB1 (D.length + 1) (kEnd Try.f160 2))) (fun n => n ≤ D.length ∧ nv (D.take n) = nv D) (fun n => n)
    (fun o => ∃ n, n ≤ D.length ∧ nv (D.take n) = nv D ∧ (D.take n).getLast? ≠ some 0 ∧ o = some (.ptr 0 0, (.at true (.as 1 (.bool (s && decide (0 < nv D)) :: .ro 1 n :: [.big d0])) :: []) ++ [.at false (.int .u32 D)])) (fun M n hs => ?_) (s := D.length) ⟨Nat.le_refl _, by rw [List.take_length]⟩ (Nat.lt_succ_self _)
  · obtain ⟨n, h1, h2, h3, h4⟩ := key
    exact ⟨n, h1, h2, h3, hrun.trans h4⟩
  obtain ⟨hn, hv⟩ := hs
  cases n with
  | zero =>
    left
    have h3 : (D.take 0).getLast? ≠ some 0 := by simp
    refine ⟨0, hn, hv, h3, ?_⟩
    have hp := trim_pos hD hn hv h3
    simp only [step_putB1, decide_eq_false (show ¬ ((((0 : Nat) : Int) : Int) > 0) by omega), end_putB1_0]
    rw [← hp, decide_eq_false (show ¬ ((((0 : Nat) : Int) : Int) > 0) by omega)]
    cases s <;> rfl
  | succ n =>
    obtain ⟨x, hx, _, _⟩ := nat_get hD (show n < D.length by omega)
    have w : IntKind.i64.wrap (((n + 1 : Nat) : Int) - 1) = (n : Int) := by rw [wrap_z (by omega) (by omega)]; omega
    have hpos : decide ((((n + 1 : Nat) : Int) : Int) > 0) = true := decide_eq_true (by omega)
    have htl := take_last hx
    by_cases h0 : x = 0
    · right
      subst h0
      refine ⟨n, ⟨by omega, ?_⟩, Nat.lt_succ_self n, ?_⟩
      · rw [← hv, htl, nv_snoc]
        simp
      · have e1 : decide (0 ≤ (n : Int) ∧ (n : Int) ≤ ((n + 1 : Nat) : Int)) = true := decide_eq_true (by omega)
        simp only [step_putB1, hpos, w, din (Nat.lt_succ_self n), ix, hx, show (((0 : Nat) : Int) == 0) = true from rfl, e1]
        rw [Int.toNat_natCast]
    · left
      have h3 : (D.take (n + 1)).getLast? ≠ some 0 := by
        rw [htl, List.getLast?_append]
        simp
        omega
      refine ⟨n + 1, hn, hv, h3, ?_⟩
      have hp := trim_pos hD hn hv h3
      have hx0 : ((x : Int) == 0) = false := by simp; omega
      simp only [step_putB1, hpos, w, din (Nat.lt_succ_self n), ix, hx, hx0, end_putB1_0]
      rw [← hp, hpos]
      cases s <;> rfl
def an_putC : Ann := ⟨fun r => if r = 1 then some ([0, 1, 2], [0, 1, 2]) else none, fun _ _ => .quiet⟩
def tab_putC : Fns := tabT []
theorem tabok_putC : ∀ f, FnT Try.prog f (tab_putC f) := tabT_nil
def st_putC1 (less1 : Bool) (digits2n : Nat) (b0_0 : Bool) (b0_1 : Nat) (l2 : List Int) : St := ⟨(.ptr 0 0 :: .bool less1 :: .ro 2 digits2n :: (anys 35 [])), [.at true (.as 1 [.bool b0_0, .big b0_1]), .gone, .at false (.int .u32 l2)]⟩
abbrev kp_putC1 : Option (List Nat × List Nat) := some ([0, 1, 2], [0, 1, 2])
noncomputable def lp_putC1 {R : Type} (N M : Nat) (s : St) (K : X → St → Option R) : Option R := loopH 3 kp_putC1 (fun st K => exec ty tab_putC an_putC N 3 (atOf [true, false, false, false] Try.f160) st K) M s K
noncomputable def kt_putC1 {R : Type} (N : Nat) (K : X → St → Option R) : X → St → Option R := kBlkR 0 (kSeqR tab_putC an_putC N 3 (atOf [true, true] Try.f160) (K))
def en_putC1_0 (less1 : Bool) (digits2n : Nat) (b0_0 : Bool) (b0_1 : Nat) (l2 : List Int) : St := ⟨(.ptr 0 0 :: .bool less1 :: .ro 2 digits2n :: (anys 35 [])), [.at true (.as 1 [.bool b0_0, .big b0_1]), .gone, .at false (.int .u32 l2)]⟩
theorem run_putC (N : Nat) (s : Bool) (n : Nat) (s0 : Bool) (v0 : Nat) (A : List Int) : run ty tab_putC an_putC N Try.f160 [.ptr 0 0, .bool s, .ro 2 n] [.at true (.as 1 [.bool s0, .big v0]), .gone, .at false (.int .u32 A)]
    = lp_putC1 N N (st_putC1 s n s0 v0 A) (kt_putC1 N (kEnd Try.f160 3)) := by
  kernel_rfl
theorem step_putC1 {R : Type} (N M : Nat) (K : X → St → Option R) (less1 : Bool) (digits2n : Nat) (b0_0 : Bool) (b0_1 : Nat) (l2 : List Int) : lp_putC1 N (M + 1) (st_putC1 less1 digits2n b0_0 b0_1 l2) K
    = (match decide ((((digits2n : Nat) : Int) : Int) > 0) with | true => (match decide (0 ≤ (IntKind.i64.wrap (((digits2n : Nat) : Int) - 1) : Int) ∧ (IntKind.i64.wrap (((digits2n : Nat) : Int) - 1) : Int) < ((digits2n : Nat) : Int)) with | true => (match l2[0 + (IntKind.i64.wrap (((digits2n : Nat) : Int) - 1)).toNat * 1]? with | some e1 => (match e1 == 0 with | true => (match decide (0 ≤ (IntKind.i64.wrap (((digits2n : Nat) : Int) - 1) : Int) ∧ (IntKind.i64.wrap (((digits2n : Nat) : Int) - 1) : Int) ≤ ((digits2n : Nat) : Int)) with | true => lp_putC1 N M (st_putC1 less1 ((IntKind.i64.wrap (((digits2n : Nat) : Int) - 1)).toNat) b0_0 b0_1 l2) K | false => none) | false => K (.exit 0) (en_putC1_0 less1 digits2n b0_0 b0_1 l2)) | none => none) | false => none) | false => K (.exit 0) (en_putC1_0 less1 digits2n b0_0 b0_1 l2)) := by
  kernel_rfl
theorem end_putC1_0 (N : Nat) (less1 : Bool) (digits2n : Nat) (b0_0 : Bool) (b0_1 : Nat) (l2 : List Int) : kt_putC1 N (kEnd Try.f160 3) (.exit 0) (en_putC1_0 less1 digits2n b0_0 b0_1 l2)
    = (match less1 with | true => some (.ptr 0 0, [.at true (.as 1 [.bool (decide ((((digits2n : Nat) : Int) : Int) > 0)), .ro 2 digits2n]), .gone, .at false (.int .u32 l2)]) | false => some (.ptr 0 0, [.at true (.as 1 [.bool false, .ro 2 digits2n]), .gone, .at false (.int .u32 l2)])) := by
  kernel_rfl
theorem H_putC (s s0 : Bool) (v0 : Nat) (D : List Int) (hD : okD D) (hlen : D.length ≤ maxLen) : ∃ N n, n ≤ D.length ∧ nv (D.take n) = nv D ∧ (D.take n).getLast? ≠ some 0 ∧
      run ty tab_putC an_putC N Try.f160 [.ptr 0 0, .bool s, .ro 2 D.length] ((.at true (.as 1 (.bool s0 :: .big v0 :: [])) :: [.gone]) ++ [.at false (.int .u32 D)]) =
        some (.ptr 0 0, (.at true (.as 1 (.bool (s && decide (0 < nv D)) :: .ro 2 n :: [])) :: [.gone]) ++ [.at false (.int .u32 D)]) := by
  unfold maxLen at hlen
  refine ⟨D.length + 1, ?_⟩
  have hrun := run_putC (D.length + 1) s D.length s0 v0 D
  have key := loop_fuel (N := D.length + 1) (fun M (n : Nat) => lp_putC1 (D.length + 1) M (st_putC1 s n s0 v0 D) (kt_putC1 (D.length + 1) (kEnd Try.f160 3))) (fun n => n ≤ D.length ∧ nv (D.take n) = nv D) (fun n => n)
    (fun o => ∃ n, n ≤ D.length ∧ nv (D.take n) = nv D ∧ (D.take n).getLast? ≠ some 0 ∧ o = some (.ptr 0 0, (.at true (.as 1 (.bool (s && decide (0 < nv D)) :: .ro 2 n :: [])) :: [.gone]) ++ [.at false (.int .u32 D)])) (fun M n hs => ?_) (s := D.length) ⟨Nat.le_refl _, by rw [List.take_length]⟩ (Nat.lt_succ_self _)
  · obtain ⟨n, h1, h2, h3, h4⟩ := key
    exact ⟨n, h1, h2, h3, hrun.trans h4⟩
  obtain ⟨hn, hv⟩ := hs
  cases n with
  | zero =>
    left
    have h3 : (D.take 0).getLast? ≠ some 0 := by simp
    refine ⟨0, hn, hv, h3, ?_⟩
    have hp := trim_pos hD hn hv h3
    simp only [step_putC1, decide_eq_false (show ¬ ((((0 : Nat) : Int) : Int) > 0) by omega), end_putC1_0]
    rw [← hp, decide_eq_false (show ¬ ((((0 : Nat) : Int) : Int) > 0) by omega)]
    cases s <;> rfl
  | succ n =>
    obtain ⟨x, hx, _, _⟩ := nat_get hD (show n < D.length by omega)
    have w : IntKind.i64.wrap (((n + 1 : Nat) : Int) - 1) = (n : Int) := by rw [wrap_z (by omega) (by omega)]; omega
    have hpos : decide ((((n + 1 : Nat) : Int) : Int) > 0) = true := decide_eq_true (by omega)
    have htl := take_last hx
    by_cases h0 : x = 0
    · right
      subst h0
      refine ⟨n, ⟨by omega, ?_⟩, Nat.lt_succ_self n, ?_⟩
      · rw [← hv, htl, nv_snoc]
        simp
      · have e1 : decide (0 ≤ (n : Int) ∧ (n : Int) ≤ ((n + 1 : Nat) : Int)) = true := decide_eq_true (by omega)
        simp only [step_putC1, hpos, w, din (Nat.lt_succ_self n), ix, hx, show (((0 : Nat) : Int) == 0) = true from rfl, e1]
        rw [Int.toNat_natCast]
    · left
      have h3 : (D.take (n + 1)).getLast? ≠ some 0 := by
        rw [htl, List.getLast?_append]
        simp
        omega
      refine ⟨n + 1, hn, hv, h3, ?_⟩
      have hp := trim_pos hD hn hv h3
      have hx0 : ((x : Int) == 0) = false := by simp; omega
      simp only [step_putC1, hpos, w, din (Nat.lt_succ_self n), ix, hx, hx0, end_putC1_0]
      rw [← hp, hpos]
      cases s <;> rfl
def gPut : GT := fun vs h => match vs, h with
  | [.ptr 0 0, .bool s, .u (.a (.dig v))], [.at true (.as 1 [.bool _, .big _])] => .ret (.ptr 0 0) [.at true (.as 1 [.bool (s && decide (0 < v)), .big v])]
  | [.ptr 0 0, .bool s, .u (.a (.big v))], [.at true (.as 1 [.bool _, .big _])] => .ret (.ptr 0 0) [.at true (.as 1 [.bool (s && decide (0 < v)), .big v])]
  | [.ptr 0 0, .bool s, .u (.a (.dig v))], [.at true (.as 1 [.bool _, .big _, .big d])] => .ret (.ptr 0 0) [.at true (.as 1 [.bool (s && decide (0 < v)), .big v, .big d])]
  | [.ptr 0 0, .bool s, .u (.a (.big v))], [.at true (.as 1 [.bool _, .big _, .big d])] => .ret (.ptr 0 0) [.at true (.as 1 [.bool (s && decide (0 < v)), .big v, .big d])]
  | [.ptr 0 0, .bool s, .sl 1 0 n], [.at true (.as 1 [.bool _, .big _]), .at true (.int .u32 A)] => .ite (decide (n = A.length) && digB A) (.ret (.ptr 0 0) [.at true (.as 1 [.bool (s && decide (0 < nv A)), .big (nv A)]), .gone]) .no
  | _, _ => .no
theorem ok_put : FnT Try.prog 160 gPut := by
  intro vs hp v h' e μ w cvs hr hv
  unfold gPut at e
  split at e
  · rename_i s v s0 v0
    obtain ⟨rfl, rfl⟩ := T.ret_inv e
    obtain ⟨c1, c2, c3, rfl, h1, h2, D, hD, rfl, h3⟩ := rep_three hv
    exact put_core tabok_putA Try.func160 rfl rfl an_putA (rest := []) (gs := []) (fun x h => by cases h) (fun x h => by cases h) (H_putA s s0 v0) hr h1 h2 hD h3
  · rename_i s v s0 v0
    obtain ⟨rfl, rfl⟩ := T.ret_inv e
    obtain ⟨c1, c2, c3, rfl, h1, h2, D, hD, rfl, _, h3⟩ := rep_three hv
    exact put_core tabok_putA Try.func160 rfl rfl an_putA (rest := []) (gs := []) (fun x h => by cases h) (fun x h => by cases h) (H_putA s s0 v0) hr h1 h2 hD h3
  · rename_i s v s0 v0 d
    obtain ⟨rfl, rfl⟩ := T.ret_inv e
    obtain ⟨c1, c2, c3, rfl, h1, h2, D, hD, rfl, h3⟩ := rep_three hv
    exact put_core tabok_putB Try.func160 rfl rfl an_putB (rest := [.big d]) (gs := []) (fun x h => by simp at h; subst h; rfl) (fun x h => by cases h) (H_putB s s0 v0 d) hr h1 h2 hD h3
  · rename_i s v s0 v0 d
    obtain ⟨rfl, rfl⟩ := T.ret_inv e
    obtain ⟨c1, c2, c3, rfl, h1, h2, D, hD, rfl, _, h3⟩ := rep_three hv
    exact put_core tabok_putB Try.func160 rfl rfl an_putB (rest := [.big d]) (gs := []) (fun x h => by simp at h; subst h; rfl) (fun x h => by cases h) (H_putB s s0 v0 d) hr h1 h2 hD h3
  · rename_i s n s0 v0 D
    obtain ⟨hd, e⟩ := T.pre_inv e
    obtain ⟨rfl, rfl⟩ := T.ret_inv e
    rw [Bool.and_eq_true] at hd
    have hn := of_decide_eq_true hd.1
    subst hn
    have hD := digB_iff.1 hd.2
    obtain ⟨c1, c2, c3, rfl, h1, h2, h3⟩ := rep_three hv
    have hl : 1 < μ.l.length := by have := hr.len; simp at this; omega
    obtain ⟨z, z1, z2, z3⟩ := (Ev.refl hr).freeze (k := 1) (List.getElem?_eq_getElem hl) rfl
    have hp : Pre μ ⟨z, μ.l⟩ := ⟨z1, [], by simp⟩
    have h3 : RepA ⟨z, μ.l⟩ (.sl 1 0 D.length) c3 := RepA.pre hp h3
    have hs := slz_sl (μ := ⟨z, μ.l⟩) (List.getElem?_eq_getElem hl) z2 (Nat.le_refl _) h3
    rw [List.take_length] at hs
    refine (put_core tabok_putC Try.func160 rfl rfl an_putC (rest := []) (gs := [.gone]) (fun x h => by cases h) (fun x h => by simpa using h) (H_putC s s0 v0) (μ := ⟨z, μ.l⟩) z3.rel (h1.pre hp) h2 hD hs).mono fun cv w' ⟨μ', he, hcv⟩ => ⟨μ', z3.trans he, hcv⟩
  · exact (T.no_inv e).elim
end Go.Proofs.Ytbhfjdlhhjeknaa.Ab

namespace Go.Proofs.Ytbhfjdlhhjeknaa.Ab
set_option linter.unusedVariables false
set_option linter.unusedSimpArgs false
open Go
theorem Rel.recell {μ : Mu} {h : H} {w : World} (r : Rel μ h w) {k : Nat} {rw : Bool} {c c' : C} (hb : h[k]? = some (.at rw c)) (hes : c'.esz = c.esz) (hl : c'.live rw → c.live rw)
    (hc : ∀ m, μ.l[k]? = some m → ∀ p x, c'.get? p = some x → ∃ cv, w.cell? ⟨m.blk, m.off + p, Option.none⟩ = some cv ∧ RepA μ x cv) : Rel μ (h.set k (.at rw c')) w := by
  have hk : k < h.length := getElem?_lt hb
  have get : ∀ (j : Nat) (rw' : Bool) (d : C), (h.set k (.at rw c'))[j]? = some (.at rw' d) → (j = k ∧ rw' = rw ∧ d = c') ∨ (h[j]? = some (.at rw' d)) := by
    intro j rw' d hj
    by_cases e : k = j
    · subst e
      rw [List.getElem?_set_self hk] at hj
      cases hj
      exact .inl ⟨rfl, rfl, rfl⟩
    · rw [List.getElem?_set_ne e] at hj
      exact .inr hj
  refine ⟨by simpa using r.len, ?_, ?_, ?_, ?_, ?_⟩
  · intro j m rw' d hm hd p x hx
    rcases get j rw' d hd with ⟨rfl, rfl, rfl⟩ | hd
    · exact hc m hm p x hx
    · exact r.cell j m rw' d hm hd p x hx
  · intro j m d hm hd
    rcases get j _ d hd with ⟨rfl, h1, rfl⟩ | hd
    · subst h1
      rw [hes]
      exact r.own j m c hm hb
    · exact r.own j m d hm hd
  · intro j m rw' d hm hd hl'
    rcases get j rw' d hd with ⟨rfl, rfl, rfl⟩ | hd
    · exact r.lt j m rw' c hm hb (hl hl')
    · exact r.lt j m rw' d hm hd hl'
  · intro i j m n d rw' d' hij hm hn hd hd' hl'
    rcases get j rw' d' hd' with ⟨e1, e2, e3⟩ | hd2
    · subst e1; subst e2; subst e3
      rcases get i _ d hd with ⟨h1, _, _⟩ | hd1
      · exact absurd h1 hij
      · exact r.sep i j m n d rw' c hij hm hn hd1 hb (hl hl')
    · rcases get i _ d hd with ⟨e1, e2, e3⟩ | hd1
      · subst e1; subst e2; subst e3
        exact r.sep i j m n c rw' d' hij hm hn hb hd2 hl'
      · exact r.sep i j m n d rw' d' hij hm hn hd1 hd2 hl'
  · intro b cur hk'
    refine ⟨(r.fz b cur hk').1, fun j m d hm hd => ?_⟩
    rcases get j _ d hd with ⟨rfl, h1, rfl⟩ | hd
    · subst h1
      exact (r.fz b cur hk').2 j m c hm hb
    · exact (r.fz b cur hk').2 j m d hm hd
theorem Ev.start {μ μ' : Mu} {h h2 h' : H} {w w' : World} (e : Ev μ h2 w μ' h' w') (hs : ∀ (i : Nat) (rw : Bool) (d : C), h2[i]? = some (.at rw d) → ∃ d0, h[i]? = some (.at rw d0) ∧ (d.live rw → d0.live rw)) : Ev μ h w μ' h' w' := by
  have hwr : ∀ k, Wr μ h2 k → Wr μ h k := by
    rintro k ⟨i, m, c, hm, hb, hk⟩
    obtain ⟨d0, hd, _⟩ := hs i true c hb
    exact ⟨i, m, d0, hm, hd, hk⟩
  refine ⟨e.rel, e.pre, e.fr.mono hwr, ?_, ?_, ?_⟩
  · intro j rw c hj hb
    obtain ⟨d, hd, hl⟩ := e.old j rw c hj hb
    obtain ⟨d0, hd0, hl0⟩ := hs j rw d hd
    exact ⟨d0, hd0, fun h => hl0 (hl h)⟩
  · intro i m rw c hi hm hb
    obtain ⟨h1, h2⟩ := e.new i m rw c hi hm hb
    exact ⟨h1, h2.imp (hwr _) id⟩
  · intro k cur hk
    exact (e.zn k cur hk).imp id (Or.imp (hwr k) id)
theorem rep_1 {μ : Mu} {v : V} {cvs : List Value} (h : RepVs μ [v] cvs) : ∃ c, cvs = [c] ∧ RepV μ v c := by
  cases cvs with
  | nil => exact h.elim
  | cons c cs =>
    cases cs with
    | nil => exact ⟨c, rfl, h.1⟩
    | cons _ _ => exact h.2.elim
def gCellS (F : Bool → Nat → V) (pre : Bool → Nat → Bool) : GT := fun vs h => match vs, h with | [.ptr 0 0], [.at r (.as 1 [.bool s, .big v])] => .ite (pre s v) (.ret (F s v) [.at r (.as 1 [.bool s, .big v])]) .no | _, _ => .no
theorem FnT.cellS {f : FuncId} {fn : Func} {code : Code} {fns : Fns} (hfn : ∀ f, FnT Try.prog f (fns f)) (hf : Try.prog.funcs[f]? = some fn) (hb : fn.body = some code) (hn : (fn.name == "runtime.NumGoroutine") = false) (an : Ann)
    (F : Bool → Nat → V) (hF : ∀ s v, (F s v).flat = true) (pre : Bool → Nat → Bool)
    (H : ∀ (r s : Bool) D, okD D → D.getLast? ≠ some 0 → D.length ≤ maxLen → pre s (nv D) = true → ∃ N, run ty fns an N fn [.ptr 0 0] [.at r (.as 1 [.bool s, .ro 1 D.length]), .at false (.int .u32 D)] =
      some (F s (nv D), [.at r (.as 1 [.bool s, .ro 1 D.length]), .at false (.int .u32 D)])) :
    FnT Try.prog f (gCellS F pre) := by
  intro vs hp v h' e μ w cvs hr hv
  unfold gCellS at e
  split at e
  case h_2 => exact (T.no_inv e).elim
  rename_i r s a
  obtain ⟨hpre, e⟩ := T.pre_inv e
  obtain ⟨rfl, rfl⟩ := T.ret_inv e
  obtain ⟨c1, rfl, h1⟩ := rep_1 hv
  have hl : μ.l.length = 1 := hr.len
  have hm0 : μ.l[0]? = some μ.l[0] := List.getElem?_eq_getElem (by omega)
  obtain ⟨cv1, hc1, D, hD, rfl, hDl, hDs⟩ := hr.cell 0 _ r (.as 1 [.bool s, .big a]) hm0 rfl 1 (.big a) rfl
  obtain ⟨cv0, hc0, hr0⟩ := hr.cell 0 _ r (.as 1 [.bool s, .big (nv D)]) hm0 rfl 0 (.bool s) rfl
  obtain ⟨m, f1, r2, a2⟩ := hr.thaw hDs
  have hmm : (μ.app [m]).l[0]? = some μ.l[0] := by
    show (μ.l ++ [m])[0]? = _
    rw [List.getElem?_append_left (by omega)]
    exact hm0
  have r3 := r2.recell (k := 0) (rw := r) (c := .as 1 [.bool s, .big (nv D)]) (c' := .as 1 [.bool s, .ro 1 D.length]) rfl rfl (fun h => h.imp id fun _ => ⟨0, _, rfl⟩) (fun m1 hm1 p x hx => by
    rw [hmm] at hm1
    cases hm1
    rw [C.get?_as] at hx
    match p, hx with
    | 0, hx => simp at hx; subst hx; exact ⟨cv0, hc0, hr0⟩
    | 1, hx => simp at hx; subst hx; exact ⟨cv1, hc1, a2⟩
    | p + 2, hx => simp at hx)
  obtain ⟨N, hrun⟩ := H r s D hD hDl (slz_len hDs) hpre
  have hargs : RepVs (μ.app [m]) [.ptr 0 0] [c1] := ⟨h1.pre (.app μ _), trivial⟩
  refine (FnT.runs hfn hf hb hn an N [.ptr 0 0] [.at r (.as 1 [.bool s, .ro 1 D.length]), .at false (.int .u32 D)] (F s (nv D)) [.at r (.as 1 [.bool s, .ro 1 D.length]), .at false (.int .u32 D)] (by rw [T.run_of]; exact hrun) _ w _ r3 hargs).mono fun cv w' ⟨μ', he, hcv⟩ => ?_
  have hm : μ'.l[1]? = some m := by
    obtain ⟨_, ν, hν⟩ := he.pre
    have e : (μ.app [m]).l = μ.l ++ [m] := rfl
    rw [hν, e, List.append_assoc, List.getElem?_append_right (by omega), hl]
    rfl
  have hw := he.weak (k := 0) (rw := r) (c := .as 1 [.bool s, .ro 1 D.length]) (c' := .as 1 [.bool s, .big (nv D)]) rfl rfl (fun m0 _ p x hx => by
    rw [C.get?_as] at hx
    match p, hx with
    | 0, hx => exact ⟨x, by rw [C.get?_as]; exact hx, fun cv h => h⟩
    | 1, hx =>
      refine ⟨_, by rw [C.get?_as]; rfl, fun cv h => ?_⟩
      have e : x = .big (nv D) := by simpa using hx.symm
      subst e
      have hs := slz_ro hm (f1.mono he.pre.1) (Nat.le_refl _) h
      rw [List.take_length] at hs
      exact ⟨D, hD, rfl, hDl, hs⟩
    | p + 2, hx => simp at hx)
  have hst := Ev.start (h := [.at r (.as 1 [.bool s, .big (nv D)])] ++ [.at false (.int .u32 D)]) hw (fun i rw d hi => by
    match i, hi with
    | 0, hi => simp at hi; obtain ⟨rfl, rfl⟩ := hi; exact ⟨_, rfl, fun h => h.imp id fun _ => ⟨0, _, rfl⟩⟩
    | 1, hi => exact ⟨d, hi, id⟩
    | i + 2, hi => simp at hi)
  have hc := Ev.cut (ros := [.at false (.int .u32 D)]) (ms := [m]) (μ := μ) hr.len rfl (fun b hb c => by simp at hb; subst hb; simp) hst (fun i rw c hi hb p x hx => by
    match i, hb with
    | 0, hb =>
      simp at hb
      obtain ⟨_, rfl⟩ := hb
      rw [C.get?_as] at hx
      match p, hx with
      | 0, hx => simp at hx; subst hx; rfl
      | 1, hx => simp at hx; subst hx; rfl
      | p + 2, hx => simp at hx
    | i + 1, _ => simp at hi)
  exact ⟨_, hc, hcv.of_flat (hF _ _)⟩
end Go.Proofs.Ytbhfjdlhhjeknaa.Ab

namespace Go.Proofs.Ytbhfjdlhhjeknaa.Ab
set_option linter.unusedVariables false
set_option linter.unusedSimpArgs false
open Go
def tab_newInt : Fns := tabT [(160, gPut)]
theorem tabok_newInt : ∀ f, FnT Try.prog f (tab_newInt f) := (tabT_cons (k := 160) ok_put tabT_nil)
theorem run_newInt (N : Nat) (n : Int) : run ty tab_newInt ann0 N Try.f119 [.int .i64 n] []
    = (match decide ((n : Int) < 0) with | true => (match decide (2 = [IntKind.u32.wrap (IntKind.u64.wrap (0 - (IntKind.u64.wrap n))), IntKind.u32.wrap (Int.fdiv (IntKind.u64.wrap (0 - (IntKind.u64.wrap n))) (2 ^ 32))].length) && digB [IntKind.u32.wrap (IntKind.u64.wrap (0 - (IntKind.u64.wrap n))), IntKind.u32.wrap (Int.fdiv (IntKind.u64.wrap (0 - (IntKind.u64.wrap n))) (2 ^ 32))] with | true => some (.ptr 0 0, [.at true (.as 1 [.bool ((decide ((n : Int) < 0)) && (decide (0 < nv [IntKind.u32.wrap (IntKind.u64.wrap (0 - (IntKind.u64.wrap n))), IntKind.u32.wrap (Int.fdiv (IntKind.u64.wrap (0 - (IntKind.u64.wrap n))) (2 ^ 32))]))), .big (nv [IntKind.u32.wrap (IntKind.u64.wrap (0 - (IntKind.u64.wrap n))), IntKind.u32.wrap (Int.fdiv (IntKind.u64.wrap (0 - (IntKind.u64.wrap n))) (2 ^ 32))])])]) | false => none) | false => (match decide (2 = [IntKind.u32.wrap (IntKind.u64.wrap n), IntKind.u32.wrap (Int.fdiv (IntKind.u64.wrap n) (2 ^ 32))].length) && digB [IntKind.u32.wrap (IntKind.u64.wrap n), IntKind.u32.wrap (Int.fdiv (IntKind.u64.wrap n) (2 ^ 32))] with | true => some (.ptr 0 0, [.at true (.as 1 [.bool ((decide ((n : Int) < 0)) && (decide (0 < nv [IntKind.u32.wrap (IntKind.u64.wrap n), IntKind.u32.wrap (Int.fdiv (IntKind.u64.wrap n) (2 ^ 32))]))), .big (nv [IntKind.u32.wrap (IntKind.u64.wrap n), IntKind.u32.wrap (Int.fdiv (IntKind.u64.wrap n) (2 ^ 32))])])]) | false => none)) := by
  kernel_rfl
def inI64 (n : Int) : Bool := decide (-9223372036854775808 ≤ n ∧ n < 9223372036854775808)
def gNewInt : GT := fun vs h => match vs, h with
  | [.int .i64 n], [] => .ite (inI64 n) (.ret (.ptr 0 0) [.at true (.as 1 [.bool (decide (n < 0)), .big n.natAbs])]) .no
  | _, _ => .no
theorem two_digits {a : Nat} (ha : a < 18446744073709551616) : digB [IntKind.u32.wrap (a : Int), IntKind.u32.wrap (Int.fdiv (a : Int) (2 ^ 32))] = true ∧ nv [IntKind.u32.wrap (a : Int), IntKind.u32.wrap (Int.fdiv (a : Int) (2 ^ 32))] = a := by
  rw [shr32, wrap32, wrap32]
  refine ⟨?_, ?_⟩
  · rw [digB_iff]
    intro d hd
    simp at hd
    omega
  · simp only [nv, Int.toNat_natCast]
    omega
theorem ok_newInt : FnT Try.prog 119 gNewInt := by
  refine fnT tabok_newInt Try.func119 rfl rfl ann0 fun vs h v h' e => ⟨0, ?_⟩
  unfold gNewInt at e
  split at e
  case h_2 => exact (T.no_inv e).elim
  rename_i n
  obtain ⟨hd, e⟩ := T.pre_inv e
  obtain ⟨rfl, rfl⟩ := T.ret_inv e
  have hn := of_decide_eq_true hd
  obtain ⟨a, ha⟩ : ∃ a : Nat, a = n.natAbs := ⟨_, rfl⟩
  obtain ⟨d1, d2⟩ := two_digits (a := a) (by omega)
  refine Eq.trans (run_newInt 0 n) ?_
  by_cases h0 : n < 0
  · have e1 : IntKind.u64.wrap (0 - IntKind.u64.wrap n) = (a : Int) := by
      simp only [IntKind.wrap, IntKind.signed, IntKind.bits]
      first | omega | (simp; omega)
    have hp : decide (0 < a) = true := decide_eq_true (by omega)
    rw [e1, d1, d2, hp, ← ha, decide_eq_true h0]
    rfl
  · have e1 : IntKind.u64.wrap n = (a : Int) := by
      rw [show n = (a : Int) by omega, wrap64 (by omega)]
    rw [e1, d1, d2, ← ha, decide_eq_false h0]
    rfl
def sgI (s : Bool) (v : Nat) : Int := match s with | true => -(v : Int) | false => (v : Int)
def gAddI : GT := fun vs h => match vs, h with
  | [.ptr 0 0, .ptr 0 0, .ptr 1 0], [.at true (.as 1 [.bool s, .big v]), .at r (.as 1 [.bool t, .big x])] =>
    .ite (lowB v && lowB x) (.ret (.ptr 0 0) [.at true (.as 1 [.bool (decide (sgI s v + sgI t x < 0)), .big (sgI s v + sgI t x).natAbs]), .at r (.as 1 [.bool t, .big x])]) .no
  | [.ptr 0 0, .ptr 1 0, .ptr 2 0], [.at true (.as 1 [.bool _, .big _]), .at r (.as 1 [.bool s, .big v]), .at q (.as 1 [.bool t, .big x])] =>
    .ite (lowB v && lowB x) (.ret (.ptr 0 0) [.at true (.as 1 [.bool (decide (sgI s v + sgI t x < 0)), .big (sgI s v + sgI t x).natAbs]), .at r (.as 1 [.bool s, .big v]), .at q (.as 1 [.bool t, .big x])]) .no
  | _, _ => .no
theorem dec_iff {p q : Prop} [Decidable p] [Decidable q] (h : p ↔ q) : decide p = decide q := by simp [h]
theorem add_same {s : Bool} {v x : Nat} : (s && decide (0 < v + x)) = decide (sgI s v + sgI s x < 0) ∧ v + x = (sgI s v + sgI s x).natAbs := by
  cases s
  · refine ⟨(decide_eq_false ?_).symm, ?_⟩
    · show ¬ ((v : Int) + (x : Int) < 0); omega
    · show v + x = ((v : Int) + (x : Int)).natAbs; omega
  · refine ⟨dec_iff ?_, ?_⟩
    · show 0 < v + x ↔ -(v : Int) + -(x : Int) < 0; omega
    · show v + x = (-(v : Int) + -(x : Int)).natAbs; omega
theorem add_ge {s : Bool} {v x : Nat} (h : x ≤ v) : (s && decide (0 < v - x)) = decide (sgI s v + sgI (!s) x < 0) ∧ v - x = (sgI s v + sgI (!s) x).natAbs := by
  cases s
  · refine ⟨(decide_eq_false ?_).symm, ?_⟩
    · show ¬ ((v : Int) + -(x : Int) < 0); omega
    · show v - x = ((v : Int) + -(x : Int)).natAbs; omega
  · refine ⟨dec_iff ?_, ?_⟩
    · show 0 < v - x ↔ -(v : Int) + (x : Int) < 0; omega
    · show v - x = (-(v : Int) + (x : Int)).natAbs; omega
theorem add_lt {s : Bool} {v x : Nat} (h : v ≤ x) : ((!s) && decide (0 < x - v)) = decide (sgI s v + sgI (!s) x < 0) ∧ x - v = (sgI s v + sgI (!s) x).natAbs := by
  cases s
  · refine ⟨dec_iff ?_, ?_⟩
    · show 0 < x - v ↔ (v : Int) + -(x : Int) < 0; omega
    · show x - v = ((v : Int) + -(x : Int)).natAbs; omega
  · refine ⟨(decide_eq_false ?_).symm, ?_⟩
    · show ¬ (-(v : Int) + (x : Int) < 0); omega
    · show x - v = (-(v : Int) + (x : Int)).natAbs; omega
def an_addX : Ann := ⟨fun r =>  none, fun r n => if r = 2 ∧ n = 13 then .grow else if r = 2 ∧ n = 14 then .plain else if r = 4 ∧ n = 13 then .grow else if r = 4 ∧ n = 14 then .plain else if r = 5 ∧ n = 13 then .grow else if r = 5 ∧ n = 14 then .plain else .quiet⟩
def tab_addX : Fns := tabT [(175, gBig2 (fun v w => v + w) (fun v w => lowB v && lowB w)), (160, gPut), (176, gBigC (fun v w => .int .i64 (cmpI v w)) (fun v w => lowB v && lowB w)), (177, gBig2 (fun v w => v - w) (fun v w => lowB v && lowB w && decide (w ≤ v)))]
theorem tabok_addX : ∀ f, FnT Try.prog f (tab_addX f) := (tabT_cons (k := 175) ok_addD (tabT_cons (k := 160) ok_put (tabT_cons (k := 176) ok_cmpD (tabT_cons (k := 177) ok_subD tabT_nil))))
theorem run_addX (N : Nat) (s : Bool) (v : Nat) (r : Bool) (t : Bool) (x : Nat) : run ty tab_addX an_addX N Try.f150 [.ptr 0 0, .ptr 0 0, .ptr 1 0] [.at true (.as 1 [.bool s, .big v]), .at r (.as 1 [.bool t, .big x])]
    = (match s == t with | true => (match lowB v && lowB x with | true => some (.ptr 0 0, [.at true (.as 1 [.bool (s && (decide (0 < v + x))), .big (v + x)]), .at r (.as 1 [.bool t, .big x])]) | false => none) | false => (match lowB v && lowB x with | true => (match decide ((cmpI v x : Int) ≥ 0) with | true => (match lowB v && lowB x && decide (x ≤ v) with | true => some (.ptr 0 0, [.at true (.as 1 [.bool (s && (decide (0 < v - x))), .big (v - x)]), .at r (.as 1 [.bool t, .big x])]) | false => none) | false => (match lowB x && lowB v && decide (v ≤ x) with | true => some (.ptr 0 0, [.at true (.as 1 [.bool (t && (decide (0 < x - v))), .big (x - v)]), .at r (.as 1 [.bool t, .big x])]) | false => none)) | false => none)) := by
  kernel_rfl
theorem H_addX (s r t : Bool) (v x : Nat) (hl : (lowB v && lowB x) = true) : run ty tab_addX an_addX 0 Try.f150 [.ptr 0 0, .ptr 0 0, .ptr 1 0] [.at true (.as 1 [.bool s, .big v]), .at r (.as 1 [.bool t, .big x])] =
    some (.ptr 0 0, [.at true (.as 1 [.bool (decide (sgI s v + sgI t x < 0)), .big (sgI s v + sgI t x).natAbs]), .at r (.as 1 [.bool t, .big x])]) := by
  refine Eq.trans (run_addX 0 s v r t x) ?_
  have hl2 : (lowB x && lowB v) = true := by rw [Bool.and_comm]; exact hl
  by_cases hst : s = t
  · subst hst
    rw [show (s == s) = true by simp, hl, ← add_same.1, ← add_same.2]
  · have ht : t = !s := by cases s <;> cases t <;> simp_all
    subst ht
    rw [show (s == !s) = false by cases s <;> rfl, hl]
    dsimp only
    by_cases hvx : x ≤ v
    · have hc : cmpI v x ≥ 0 := by unfold cmpI; rw [if_neg (by omega)]; split <;> omega
      have hle : decide (x ≤ v) = true := decide_eq_true hvx
      rw [decide_eq_true hc, hle, ← (add_ge hvx).1, ← (add_ge hvx).2]
      rfl
    · have hc : ¬ cmpI v x ≥ 0 := by unfold cmpI; rw [if_pos (by omega)]; omega
      have hle : decide (v ≤ x) = true := decide_eq_true (by omega)
      have hvx' : v ≤ x := by omega
      rw [decide_eq_false hc, hl2, hle, ← (add_lt hvx').1, ← (add_lt hvx').2]
      rfl
def an_addY : Ann := ⟨fun r =>  none, fun r n => if r = 2 ∧ n = 13 then .grow else if r = 2 ∧ n = 14 then .plain else if r = 4 ∧ n = 13 then .grow else if r = 4 ∧ n = 14 then .plain else if r = 5 ∧ n = 13 then .grow else if r = 5 ∧ n = 14 then .plain else .quiet⟩
def tab_addY : Fns := tabT [(175, gBig2 (fun v w => v + w) (fun v w => lowB v && lowB w)), (160, gPut), (176, gBigC (fun v w => .int .i64 (cmpI v w)) (fun v w => lowB v && lowB w)), (177, gBig2 (fun v w => v - w) (fun v w => lowB v && lowB w && decide (w ≤ v)))]
theorem tabok_addY : ∀ f, FnT Try.prog f (tab_addY f) := (tabT_cons (k := 175) ok_addD (tabT_cons (k := 160) ok_put (tabT_cons (k := 176) ok_cmpD (tabT_cons (k := 177) ok_subD tabT_nil))))
theorem run_addY (N : Nat) (s0 : Bool) (v0 : Nat) (r : Bool) (s : Bool) (v : Nat) (q : Bool) (t : Bool) (x : Nat) : run ty tab_addY an_addY N Try.f150 [.ptr 0 0, .ptr 1 0, .ptr 2 0] [.at true (.as 1 [.bool s0, .big v0]), .at r (.as 1 [.bool s, .big v]), .at q (.as 1 [.bool t, .big x])]
    = (match s == t with | true => (match lowB v && lowB x with | true => some (.ptr 0 0, [.at true (.as 1 [.bool (s && (decide (0 < v + x))), .big (v + x)]), .at r (.as 1 [.bool s, .big v]), .at q (.as 1 [.bool t, .big x])]) | false => none) | false => (match lowB v && lowB x with | true => (match decide ((cmpI v x : Int) ≥ 0) with | true => (match lowB v && lowB x && decide (x ≤ v) with | true => some (.ptr 0 0, [.at true (.as 1 [.bool (s && (decide (0 < v - x))), .big (v - x)]), .at r (.as 1 [.bool s, .big v]), .at q (.as 1 [.bool t, .big x])]) | false => none) | false => (match lowB x && lowB v && decide (v ≤ x) with | true => some (.ptr 0 0, [.at true (.as 1 [.bool (t && (decide (0 < x - v))), .big (x - v)]), .at r (.as 1 [.bool s, .big v]), .at q (.as 1 [.bool t, .big x])]) | false => none)) | false => none)) := by
  kernel_rfl
theorem H_addY (s0 r s q t : Bool) (v0 v x : Nat) (hl : (lowB v && lowB x) = true) : run ty tab_addY an_addY 0 Try.f150 [.ptr 0 0, .ptr 1 0, .ptr 2 0] [.at true (.as 1 [.bool s0, .big v0]), .at r (.as 1 [.bool s, .big v]), .at q (.as 1 [.bool t, .big x])] =
    some (.ptr 0 0, [.at true (.as 1 [.bool (decide (sgI s v + sgI t x < 0)), .big (sgI s v + sgI t x).natAbs]), .at r (.as 1 [.bool s, .big v]), .at q (.as 1 [.bool t, .big x])]) := by
  refine Eq.trans (run_addY 0 s0 v0 r s v q t x) ?_
  have hl2 : (lowB x && lowB v) = true := by rw [Bool.and_comm]; exact hl
  by_cases hst : s = t
  · subst hst
    rw [show (s == s) = true by simp, hl, ← add_same.1, ← add_same.2]
  · have ht : t = !s := by cases s <;> cases t <;> simp_all
    subst ht
    rw [show (s == !s) = false by cases s <;> rfl, hl]
    dsimp only
    by_cases hvx : x ≤ v
    · have hc : cmpI v x ≥ 0 := by unfold cmpI; rw [if_neg (by omega)]; split <;> omega
      have hle : decide (x ≤ v) = true := decide_eq_true hvx
      rw [decide_eq_true hc, hle, ← (add_ge hvx).1, ← (add_ge hvx).2]
      rfl
    · have hc : ¬ cmpI v x ≥ 0 := by unfold cmpI; rw [if_pos (by omega)]; omega
      have hle : decide (v ≤ x) = true := decide_eq_true (by omega)
      have hvx' : v ≤ x := by omega
      rw [decide_eq_false hc, hl2, hle, ← (add_lt hvx').1, ← (add_lt hvx').2]
      rfl
theorem ok_addI : FnT Try.prog 150 gAddI := by
  intro vs hp v h' e
  unfold gAddI at e
  split at e
  · rename_i s v r t x
    obtain ⟨hl, e⟩ := T.pre_inv e
    obtain ⟨rfl, rfl⟩ := T.ret_inv e
    exact FnT.runs tabok_addX Try.func150 rfl rfl an_addX 0 _ _ _ _ (by rw [T.run_of]; exact H_addX s r t v x hl)
  · rename_i s0 v0 r s v q t x
    obtain ⟨hl, e⟩ := T.pre_inv e
    obtain ⟨rfl, rfl⟩ := T.ret_inv e
    exact FnT.runs tabok_addY Try.func150 rfl rfl an_addY 0 _ _ _ _ (by rw [T.run_of]; exact H_addY s0 r s q t v0 v x hl)
  · exact (T.no_inv e).elim
def an_i64W : Ann := ⟨fun r => if r = 3 then some ([0, 3, 9, 10, 11], [0, 3]) else none, fun _ _ => .quiet⟩
def tab_i64W : Fns := tabT []
theorem tabok_i64W : ∀ f, FnT Try.prog f (tab_i64W f) := tabT_nil
def st_i64W3 (u3 : Int) (t9n : Nat) (t10 : Int) (t11 : Int) (rw0 : Bool) (b0_0 : Bool) (l1 : List Int) : St := ⟨(.ptr 0 0 :: .any :: .any :: .int .u64 u3 :: .any :: .any :: .any :: .any :: .any :: .ro 1 t9n :: .int .i64 t10 :: .int .i64 t11 :: (anys 23 [])), [.at rw0 (.as 1 [.bool b0_0, .ro 1 t9n]), .at false (.int .u32 l1)]⟩
abbrev kp_i64W3 : Option (List Nat × List Nat) := some ([0, 3, 9, 10, 11], [0, 3])
noncomputable def lp_i64W3 {R : Type} (N M : Nat) (s : St) (K : X → St → Option R) : Option R := loopH 2 kp_i64W3 (fun st K => exec ty tab_i64W an_i64W N 2 (atOf [true, true, false, true, false, false] Try.f167) st K) M s K
noncomputable def kt_i64W3 {R : Type} (N : Nat) (K : X → St → Option R) : X → St → Option R := kBlkR 0 (kSeqR tab_i64W an_i64W N 2 (atOf [true, true, true] Try.f167) (K))
def en_i64W3_0 (u3 : Int) (rw0 : Bool) (b0_0 : Bool) (b0_1n : Nat) (l1 : List Int) : St := ⟨(.ptr 0 0 :: .any :: .any :: .int .u64 u3 :: (anys 31 [])), [.at rw0 (.as 1 [.bool b0_0, .ro 1 b0_1n]), .at false (.int .u32 l1)]⟩
theorem run_i64W (N : Nat) (rw : Bool) (s : Bool) (n : Nat) (A : List Int) : run ty tab_i64W an_i64W N Try.f167 [.ptr 0 0] [.at rw (.as 1 [.bool s, .ro 1 n]), .at false (.int .u32 A)]
    = lp_i64W3 N N (st_i64W3 0 n ((n : Nat) : Int) 0 rw s A) (kt_i64W3 N (kEnd Try.f167 2)) := by
  kernel_rfl
theorem step_i64W3 {R : Type} (N M : Nat) (K : X → St → Option R) (u3 : Int) (t9n : Nat) (t10 : Int) (t11 : Int) (rw0 : Bool) (b0_0 : Bool) (l1 : List Int) : lp_i64W3 N (M + 1) (st_i64W3 u3 t9n t10 t11 rw0 b0_0 l1) K
    = (match decide ((t11 : Int) < t10) with | true => (match decide (0 ≤ (t11 : Int) ∧ (t11 : Int) < ((t9n : Nat) : Int)) with | true => (match l1[0 + (t11).toNat * 1]? with | some e1 => (match decide ((t11 : Int) < 2) with | true => (match decide (IntKind.i64.wrap (32 * t11) < 0) with | true => none | false => lp_i64W3 N M (st_i64W3 (IntKind.u64.wrap (BitVec.ofInt 64 u3 ||| BitVec.ofInt 64 (IntKind.u64.wrap ((IntKind.u64.wrap e1) * 2 ^ (min (Int.toNat (IntKind.i64.wrap (32 * t11))) 64)))).toNat) t9n t10 (IntKind.i64.wrap (t11 + 1)) rw0 b0_0 l1) K) | false => lp_i64W3 N M (st_i64W3 u3 t9n t10 (IntKind.i64.wrap (t11 + 1)) rw0 b0_0 l1) K) | none => none) | false => none) | false => K (.exit 0) (en_i64W3_0 u3 rw0 b0_0 t9n l1)) := by
  kernel_rfl
theorem end_i64W3_0 (N : Nat) (u3 : Int) (rw0 : Bool) (b0_0 : Bool) (b0_1n : Nat) (l1 : List Int) : kt_i64W3 N (kEnd Try.f167 2) (.exit 0) (en_i64W3_0 u3 rw0 b0_0 b0_1n l1)
    = (match b0_0 with | true => some (.int .i64 (IntKind.i64.wrap (IntKind.u64.wrap (0 - u3))), [.at rw0 (.as 1 [.bool b0_0, .ro 1 b0_1n]), .at false (.int .u32 l1)]) | false => some (.int .i64 (IntKind.i64.wrap u3), [.at rw0 (.as 1 [.bool b0_0, .ro 1 b0_1n]), .at false (.int .u32 l1)])) := by
  kernel_rfl
def low63 (v : Nat) : Bool := decide (v < 9223372036854775808)
def gI64 : GT := gCellS (fun s v => .int .i64 (sgI s v)) (fun _ v => low63 v)
theorem ok_i64 : FnT Try.prog 167 gI64 := by
  refine FnT.cellS tabok_i64W Try.func167 rfl rfl an_i64W (fun s v => .int .i64 (sgI s v)) (fun _ _ => rfl) (fun _ v => low63 v) fun r s D hD hDl hlen hp => ⟨D.length + 1, ?_⟩
  have hlow := of_decide_eq_true hp
  unfold maxLen at hlen
  have hDv := nv_lt hD
  have hn2 : D.length ≤ 2 := trim_len hD hDl (Nat.lt_of_lt_of_le hlow (by decide))
  rw [run_i64W]
  refine loop_fuel (fun M (s' : Nat × Nat) => lp_i64W3 (D.length + 1) M (st_i64W3 (s'.2 : Int) D.length (D.length : Int) (s'.1 : Int) r s D) (kt_i64W3 (D.length + 1) (kEnd Try.f167 2))) (fun s' => s'.1 ≤ D.length ∧ s'.2 = nv D % 4294967296 ^ s'.1) (fun s' => D.length - s'.1)
    (fun o => o = some (.int .i64 (sgI s (nv D)), [.at r (.as 1 [.bool s, .ro 1 D.length]), .at false (.int .u32 D)])) (fun M s' hs => ?_) (s := (0, 0)) ⟨Nat.zero_le _, by simp [Nat.mod_one]⟩ (by dsimp only; omega)
  obtain ⟨i, u⟩ := s'
  obtain ⟨hi, hu⟩ := hs
  dsimp only at hi hu ⊢
  by_cases h1 : i < D.length
  · right
    obtain ⟨x, hx, hxb, hxd⟩ := nat_get hD h1
    have hsh : ∃ y : Nat, IntKind.i64.wrap (32 * (i : Int)) = (y : Int) ∧ min (Int.toNat (y : Int)) 64 = y ∧ 4294967296 ^ i = 2 ^ y ∧ y ≤ 32 := by
      match i, h1 with
      | 0, _ => exact ⟨0, rfl, rfl, rfl, by omega⟩
      | 1, _ => exact ⟨32, rfl, rfl, rfl, by omega⟩
      | i + 2, h1 => omega
    obtain ⟨y, y1, y2, y3, y4⟩ := hsh
    have huc : u < 2 ^ y := by rw [hu, ← y3]; exact Nat.mod_lt _ (bpow_pos i)
    have hxy : x * 2 ^ y ≤ 4294967295 * 4294967296 := Nat.mul_le_mul (by omega) (Nat.pow_le_pow_right (n := 2) (by decide) y4)
    have hu32 : 2 ^ y ≤ 4294967296 := Nat.pow_le_pow_right (n := 2) (by decide) y4
    refine ⟨(i + 1, u + x * 2 ^ y), ⟨h1, ?_⟩, by dsimp only; omega, ?_⟩
    · dsimp only
      rw [mod_succ, ← hxd, hu, y3, Nat.mul_comm x]
    · obtain ⟨X, hX⟩ : ∃ X, X = x * 2 ^ y := ⟨_, rfl⟩
      obtain ⟨P, hP⟩ : ∃ P : Int, P = 2 ^ y := ⟨_, rfl⟩
      have e1 : IntKind.u64.wrap (IntKind.u64.wrap (x : Int) * P) = (X : Int) := by
        rw [hP, wrap64 (n := x) (by omega), show (x : Int) * 2 ^ y = ((x * 2 ^ y : Nat) : Int) by rw [Int.natCast_mul, Int.natCast_pow]; rfl, wrap64 (by omega), hX]
      have e2 : IntKind.u64.wrap (((BitVec.ofInt 64 (u : Int) ||| BitVec.ofInt 64 (X : Int)).toNat : Nat) : Int) = ((u + X : Nat) : Int) := by
        rw [hX, or_shift huc (by omega), wrap64 (by omega)]
      have hneg : decide ((y : Int) < 0) = false := decide_eq_false (by omega)
      have h2 : decide ((i : Int) < 2) = true := decide_eq_true (by omega)
      rw [step_i64W3, dlt h1, din h1, y1, y2, ← hP, h2, hneg, wr (show i < 2147483648 by omega)]
      rw [← hX]
      simp only [ix, hx, e1, e2]
  · left
    have e : i = D.length := by omega
    subst e
    rw [mod_all hDv (Nat.le_refl _)] at hu
    subst hu
    simp only [step_i64W3, dge (Nat.le_refl _), end_i64W3_0]
    cases s
    · have e1 : IntKind.i64.wrap ((nv D : Nat) : Int) = (nv D : Int) := wrap_s (by omega) (by omega)
      simp only [e1, sgI]
    · have e1 : IntKind.i64.wrap (IntKind.u64.wrap (0 - ((nv D : Nat) : Int))) = -(nv D : Int) := by
        generalize nv D = a at hlow
        simp only [IntKind.wrap, IntKind.signed, IntKind.bits]
        first | omega | (simp; omega) | (split <;> omega)
      simp only [e1, sgI]
def an_A_exactIntSub_0 : Ann := ⟨fun r =>  none, fun r n => if r = 1 ∧ n = 12 then .plain else if r = 1 ∧ n = 13 then .plain else .quiet⟩
def tab_A_exactIntSub_0 : Fns := tabT [(160, gPut), (150, gAddI)]
theorem tabok_A_exactIntSub_0 : ∀ f, FnT Try.prog f (tab_A_exactIntSub_0 f) := (tabT_cons (k := 160) ok_put (tabT_cons (k := 150) ok_addI tabT_nil))
theorem run_A_exactIntSub_0 (N : Nat) (b0_0 : Bool) (b0_1 : Nat) (b1_0 : Bool) (b1_1 : Nat) (r2 : Bool) (b2_0 : Bool) (b2_1 : Nat) : run ty tab_A_exactIntSub_0 an_A_exactIntSub_0 N Try.f149 [.ptr 0 0, .ptr 1 0, .ptr 2 0] [.at true (.as 1 [.bool b0_0, .big b0_1]), .at true (.as 1 [.bool b1_0, .big b1_1]), .at r2 (.as 1 [.bool b2_0, .big b2_1])]
    = (match lowB b1_1 && lowB b2_1 with | true => some (.ptr 0 0, [.at true (.as 1 [.bool (decide ((sgI b1_0 b1_1) + (sgI (!b2_0 && (decide (0 < b2_1))) b2_1) < 0)), .big (((sgI b1_0 b1_1) + (sgI (!b2_0 && (decide (0 < b2_1))) b2_1)).natAbs)]), .at true (.as 1 [.bool b1_0, .big b1_1]), .at r2 (.as 1 [.bool b2_0, .big b2_1])]) | false => none) := by
  kernel_rfl
def gA_exactIntSub : GT := fun vs h => match vs, h with
  | [.ptr 0 0, .ptr 1 0, .ptr 2 0], [.at true (.as 1 [.bool b0_0, .big b0_1]), .at true (.as 1 [.bool b1_0, .big b1_1]), .at r2 (.as 1 [.bool b2_0, .big b2_1])] => .ite (lowB b1_1 && lowB b2_1) (.ret (.ptr 0 0) [.at true (.as 1 [.bool (decide ((sgI b1_0 b1_1) + (sgI (!b2_0 && (decide (0 < b2_1))) b2_1) < 0)), .big (((sgI b1_0 b1_1) + (sgI (!b2_0 && (decide (0 < b2_1))) b2_1)).natAbs)]), .at true (.as 1 [.bool b1_0, .big b1_1]), .at r2 (.as 1 [.bool b2_0, .big b2_1])]) (.no)
  | _, _ => .no
theorem okA_exactIntSub : FnT Try.prog 149 gA_exactIntSub := by
  intro vs hp v h' e
  unfold gA_exactIntSub at e
  split at e
  · exact FnT.runs tabok_A_exactIntSub_0 Try.func149 rfl rfl an_A_exactIntSub_0 0 _ _ v h' (by rw [T.run_of]; exact Eq.trans (run_A_exactIntSub_0 0 _ _ _ _ _ _ _) e)
  · exact (T.no_inv e).elim
def tab_A_exactIntSign_0 : Fns := tabT []
theorem tabok_A_exactIntSign_0 : ∀ f, FnT Try.prog f (tab_A_exactIntSign_0 f) := tabT_nil
theorem run_A_exactIntSign_0 (N : Nat) (b0_0 : Bool) (b0_1 : Nat) : run ty tab_A_exactIntSign_0 ann0 N Try.f151 [.ptr 0 0] [.at true (.as 1 [.bool b0_0, .big b0_1])]
    = (match b0_0 with | true => some (.int .i64 (-1), [.at true (.as 1 [.bool b0_0, .big b0_1])]) | false => (match decide ((((ndig b0_1 : Nat) : Int) : Int) > 0) with | true => some (.int .i64 1, [.at true (.as 1 [.bool b0_0, .big b0_1])]) | false => some (.int .i64 0, [.at true (.as 1 [.bool b0_0, .big b0_1])]))) := by
  kernel_rfl
def gA_exactIntSign : GT := fun vs h => match vs, h with
  | [.ptr 0 0], [.at true (.as 1 [.bool b0_0, .big b0_1])] => .ite (b0_0) (.ret (.int .i64 (-1)) [.at true (.as 1 [.bool b0_0, .big b0_1])]) (.ite (decide ((((ndig b0_1 : Nat) : Int) : Int) > 0)) (.ret (.int .i64 1) [.at true (.as 1 [.bool b0_0, .big b0_1])]) (.ret (.int .i64 0) [.at true (.as 1 [.bool b0_0, .big b0_1])]))
  | _, _ => .no
theorem okA_exactIntSign : FnT Try.prog 151 gA_exactIntSign := by
  intro vs hp v h' e
  unfold gA_exactIntSign at e
  split at e
  · exact FnT.runs tabok_A_exactIntSign_0 Try.func151 rfl rfl ann0 0 _ _ v h' (by rw [T.run_of]; exact Eq.trans (run_A_exactIntSign_0 0 _ _) e)
  · exact (T.no_inv e).elim
def tab_A_exactIntCmp_0 : Fns := tabT [(149, gA_exactIntSub), (151, gA_exactIntSign)]
theorem tabok_A_exactIntCmp_0 : ∀ f, FnT Try.prog f (tab_A_exactIntCmp_0 f) := (tabT_cons (k := 149) okA_exactIntSub (tabT_cons (k := 151) okA_exactIntSign tabT_nil))
theorem run_A_exactIntCmp_0 (N : Nat) (b0_0 : Bool) (b0_1 : Nat) (r1 : Bool) (b1_0 : Bool) (b1_1 : Nat) : run ty tab_A_exactIntCmp_0 ann0 N Try.f182 [.ptr 0 0, .ptr 1 0] [.at true (.as 1 [.bool b0_0, .big b0_1]), .at r1 (.as 1 [.bool b1_0, .big b1_1])]
    = (match lowB b0_1 && lowB b1_1 with | true => (match decide ((sgI b0_0 b0_1) + (sgI (!b1_0 && (decide (0 < b1_1))) b1_1) < 0) with | true => some (.int .i64 (-1), [.at true (.as 1 [.bool b0_0, .big b0_1]), .at r1 (.as 1 [.bool b1_0, .big b1_1])]) | false => (match decide ((((ndig (((sgI b0_0 b0_1) + (sgI (!b1_0 && (decide (0 < b1_1))) b1_1)).natAbs) : Nat) : Int) : Int) > 0) with | true => some (.int .i64 1, [.at true (.as 1 [.bool b0_0, .big b0_1]), .at r1 (.as 1 [.bool b1_0, .big b1_1])]) | false => some (.int .i64 0, [.at true (.as 1 [.bool b0_0, .big b0_1]), .at r1 (.as 1 [.bool b1_0, .big b1_1])]))) | false => none) := by
  kernel_rfl
def gA_exactIntCmp : GT := fun vs h => match vs, h with
  | [.ptr 0 0, .ptr 1 0], [.at true (.as 1 [.bool b0_0, .big b0_1]), .at r1 (.as 1 [.bool b1_0, .big b1_1])] => .ite (lowB b0_1 && lowB b1_1) (.ite (decide ((sgI b0_0 b0_1) + (sgI (!b1_0 && (decide (0 < b1_1))) b1_1) < 0)) (.ret (.int .i64 (-1)) [.at true (.as 1 [.bool b0_0, .big b0_1]), .at r1 (.as 1 [.bool b1_0, .big b1_1])]) (.ite (decide ((((ndig (((sgI b0_0 b0_1) + (sgI (!b1_0 && (decide (0 < b1_1))) b1_1)).natAbs) : Nat) : Int) : Int) > 0)) (.ret (.int .i64 1) [.at true (.as 1 [.bool b0_0, .big b0_1]), .at r1 (.as 1 [.bool b1_0, .big b1_1])]) (.ret (.int .i64 0) [.at true (.as 1 [.bool b0_0, .big b0_1]), .at r1 (.as 1 [.bool b1_0, .big b1_1])]))) (.no)
  | _, _ => .no
theorem okA_exactIntCmp : FnT Try.prog 182 gA_exactIntCmp := by
  intro vs hp v h' e
  unfold gA_exactIntCmp at e
  split at e
  · exact FnT.runs tabok_A_exactIntCmp_0 Try.func182 rfl rfl ann0 0 _ _ v h' (by rw [T.run_of]; exact Eq.trans (run_A_exactIntCmp_0 0 _ _ _ _ _) e)
  · exact (T.no_inv e).elim
def tab_is64W : Fns := tabT [(167, gI64), (119, gNewInt), (182, gA_exactIntCmp)]
theorem tabok_is64W : ∀ f, FnT Try.prog f (tab_is64W f) := (tabT_cons (k := 167) ok_i64 (tabT_cons (k := 119) ok_newInt (tabT_cons (k := 182) okA_exactIntCmp tabT_nil)))
theorem run_is64W (N : Nat) (r : Bool) (s : Bool) (v : Nat) : run ty tab_is64W ann0 N Try.f166 [.ptr 0 0] [.at r (.as 1 [.bool s, .big v])]
    = (match low63 v with | true => (match inI64 (sgI s v) with | true => (match lowB ((sgI s v : Int).natAbs) && lowB v with | true => (match decide ((sgI (decide ((sgI s v : Int) < 0)) ((sgI s v : Int).natAbs)) + (sgI (!s && (decide (0 < v))) v) < 0) with | true => some (.bool false, [.at r (.as 1 [.bool s, .big v])]) | false => (match decide ((((ndig (((sgI (decide ((sgI s v : Int) < 0)) ((sgI s v : Int).natAbs)) + (sgI (!s && (decide (0 < v))) v)).natAbs) : Nat) : Int) : Int) > 0) with | true => some (.bool false, [.at r (.as 1 [.bool s, .big v])]) | false => some (.bool true, [.at r (.as 1 [.bool s, .big v])]))) | false => none) | false => none) | false => none) := by
  kernel_rfl
def gIs64 : GT := fun vs h => match vs, h with | [.ptr 0 0], [.at r (.as 1 [.bool s, .big v])] => .ite (low63 v) (.ret (.bool true) [.at r (.as 1 [.bool s, .big v])]) .no | _, _ => .no
theorem sgI_abs (z : Int) : sgI (decide (z < 0)) z.natAbs = z := by
  by_cases h : z < 0
  · rw [decide_eq_true h]; show -(z.natAbs : Int) = z; omega
  · rw [decide_eq_false h]; show (z.natAbs : Int) = z; omega
theorem sgI_neg (s : Bool) (v : Nat) : sgI (!s && decide (0 < v)) v = -(sgI s v) := by
  rcases Nat.eq_zero_or_pos v with h | h
  · subst h
    cases s <;> rfl
  · rw [decide_eq_true h]
    cases s
    · rfl
    · show (v : Int) = - -(v : Int); omega
theorem low_of {v : Nat} (h : v < 9223372036854775809) : lowB v = true := decide_eq_true (Nat.lt_of_lt_of_le h (by decide))
theorem ok_is64 : FnT Try.prog 166 gIs64 := by
  refine fnT tabok_is64W Try.func166 rfl rfl ann0 fun vs h v h' e => ⟨0, ?_⟩
  unfold gIs64 at e
  split at e
  case h_2 => exact (T.no_inv e).elim
  rename_i r s v
  obtain ⟨hd, e⟩ := T.pre_inv e
  obtain ⟨rfl, rfl⟩ := T.ret_inv e
  have hv := of_decide_eq_true hd
  have hz : -9223372036854775808 ≤ sgI s v ∧ sgI s v < 9223372036854775808 := by
    cases s
    · show -9223372036854775808 ≤ (v : Int) ∧ (v : Int) < 9223372036854775808; omega
    · show -9223372036854775808 ≤ -(v : Int) ∧ -(v : Int) < 9223372036854775808; omega
  have h1 : inI64 (sgI s v) = true := decide_eq_true hz
  have h2 : (lowB (sgI s v).natAbs && lowB v) = true := by rw [low_of (show (sgI s v).natAbs < 9223372036854775809 by omega), low_of (show v < 9223372036854775809 by omega)]; rfl
  refine Eq.trans (run_is64W 0 r s v) ?_
  rw [hd, h1, h2, sgI_abs, sgI_neg, show sgI s v + -(sgI s v) = 0 by omega]
  rfl
def an_sfW : Ann := ⟨fun r => if r = 2 then some ([0, 1, 2, 7, 8], [0, 1, 2, 7]) else none, fun r n => if r = 4 ∧ n = 3 then .plain else if r = 7 ∧ n = 13 then .plain else .quiet⟩
def tab_sfW : Fns := tabT [(162, gBigQ (fun v w => lowB v && lowB w && decide (0 < w))), (160, gPut)]
theorem tabok_sfW : ∀ f, FnT Try.prog f (tab_sfW f) := (tabT_cons (k := 162) ok_dvd (tabT_cons (k := 160) ok_put tabT_nil))
def st_sfW2 (t7 : Nat) (t8 : Nat) (b0_0 : Bool) (b0_1 : Nat) (b0_2 : Nat) (rw1 : Bool) (b1_0 : Bool) (b1_1 : Nat) (rw2 : Bool) (b2_0 : Bool) (b2_1 : Nat) : St := ⟨(.ptr 0 0 :: .ptr 1 0 :: .ptr 2 0 :: .any :: .any :: .any :: .any :: .big t7 :: .big t8 :: (anys 72 [])), [.at true (.as 1 [.bool b0_0, .big b0_1, .big b0_2]), .at rw1 (.as 1 [.bool b1_0, .big b1_1]), .at rw2 (.as 1 [.bool b2_0, .big b2_1])]⟩
abbrev kp_sfW2 : Option (List Nat × List Nat) := some ([0, 1, 2, 7, 8], [0, 1, 2, 7])
noncomputable def lp_sfW2 {R : Type} (N M : Nat) (s : St) (K : X → St → Option R) : Option R := loopH 3 kp_sfW2 (fun st K => exec ty tab_sfW an_sfW N 3 (atOf [true, true, false, false, false] Try.f122) st K) M s K
noncomputable def kt_sfW2 {R : Type} (N : Nat) (K : X → St → Option R) : X → St → Option R := kBlkR 0 (kSeqR tab_sfW an_sfW N 3 (atOf [true, true, true] Try.f122) (K))
def en_sfW2_0 (t7 : Nat) (b0_0 : Bool) (b0_1 : Nat) (b0_2 : Nat) (rw1 : Bool) (b1_0 : Bool) (b1_1 : Nat) (rw2 : Bool) (b2_0 : Bool) (b2_1 : Nat) : St := ⟨(.ptr 0 0 :: .ptr 1 0 :: .ptr 2 0 :: .any :: .any :: .any :: .any :: .big t7 :: (anys 73 [])), [.at true (.as 1 [.bool b0_0, .big b0_1, .big b0_2]), .at rw1 (.as 1 [.bool b1_0, .big b1_1]), .at rw2 (.as 1 [.bool b2_0, .big b2_1])]⟩
theorem run_sfW (N : Nat) (s0 : Bool) (v0 : Nat) (w0 : Nat) (r : Bool) (s : Bool) (v : Nat) (q : Bool) (t : Bool) (w : Nat) : run ty tab_sfW an_sfW N Try.f122 [.ptr 0 0, .ptr 1 0, .ptr 2 0] [.at true (.as 1 [.bool s0, .big v0, .big w0]), .at r (.as 1 [.bool s, .big v]), .at q (.as 1 [.bool t, .big w])]
    = lp_sfW2 N N (st_sfW2 v w s0 v0 w0 r s v q t w) (kt_sfW2 N (kEnd Try.f122 3)) := by
  kernel_rfl
theorem step_sfW2 {R : Type} (N M : Nat) (K : X → St → Option R) (t7 : Nat) (t8 : Nat) (b0_0 : Bool) (b0_1 : Nat) (b0_2 : Nat) (rw1 : Bool) (b1_0 : Bool) (b1_1 : Nat) (rw2 : Bool) (b2_0 : Bool) (b2_1 : Nat) : lp_sfW2 N (M + 1) (st_sfW2 t7 t8 b0_0 b0_1 b0_2 rw1 b1_0 b1_1 rw2 b2_0 b2_1) K
    = (match decide ((((ndig t8 : Nat) : Int) : Int) > 0) with | true => (match lowB t7 && lowB t8 && decide (0 < t8) with | true => lp_sfW2 N M (st_sfW2 t8 (t7 % t8) b0_0 b0_1 b0_2 rw1 b1_0 b1_1 rw2 b2_0 b2_1) K | false => none) | false => K (.exit 0) (en_sfW2_0 t7 b0_0 b0_1 b0_2 rw1 b1_0 b1_1 rw2 b2_0 b2_1)) := by
  kernel_rfl
theorem end_sfW2_0 (N : Nat) (t7 : Nat) (b0_0 : Bool) (b0_1 : Nat) (b0_2 : Nat) (rw1 : Bool) (b1_0 : Bool) (b1_1 : Nat) (rw2 : Bool) (b2_0 : Bool) (b2_1 : Nat) : kt_sfW2 N (kEnd Try.f122 3) (.exit 0) (en_sfW2_0 t7 b0_0 b0_1 b0_2 rw1 b1_0 b1_1 rw2 b2_0 b2_1)
    = (match lowB b1_1 && lowB t7 && decide (0 < t7) with | true => (match lowB b2_1 && lowB t7 && decide (0 < t7) with | true => some (.ptr 0 0, [.at true (.as 1 [.bool ((!(b1_0 == b2_0)) && (decide (0 < b1_1 / t7))), .big (b1_1 / t7), .big (b2_1 / t7)]), .at rw1 (.as 1 [.bool b1_0, .big b1_1]), .at rw2 (.as 1 [.bool b2_0, .big b2_1])]) | false => none) | false => none) := by
  kernel_rfl
theorem ndig_zero {v : Nat} : decide (((ndig v : Nat) : Int) > 0) = decide (0 < v) := by
  cases v with
  | zero => rfl
  | succ k =>
    have h : 0 < ndig (k + 1) := by
      unfold ndig ndigF
      rw [if_neg (by omega)]
      omega
    rw [decide_eq_true (by omega), decide_eq_true (by omega)]
def gSetFrac : GT := fun vs h => match vs, h with
  | [.ptr 0 0, .ptr 1 0, .ptr 2 0], [.at true (.as 1 [.bool _, .big _, .big _]), .at r (.as 1 [.bool s, .big v]), .at q (.as 1 [.bool t, .big w])] =>
    .ite (lowB v && lowB w && decide (0 < w)) (.ret (.ptr 0 0) [.at true (.as 1 [.bool ((s != t) && decide (0 < v / Nat.gcd v w)), .big (v / Nat.gcd v w), .big (w / Nat.gcd v w)]), .at r (.as 1 [.bool s, .big v]), .at q (.as 1 [.bool t, .big w])]) .no
  | _, _ => .no
theorem low_le {v w : Nat} (h : lowB w = true) (hv : v ≤ w) : lowB v = true := decide_eq_true (Nat.lt_of_le_of_lt hv (of_decide_eq_true h))
theorem ok_SetFrac : FnT Try.prog 122 gSetFrac := by
  refine fnT tabok_sfW Try.func122 rfl rfl an_sfW fun vs h v h' e => ?_
  unfold gSetFrac at e
  split at e
  case h_2 => exact (T.no_inv e).elim
  rename_i s0 v0 w0 r s v q t w
  obtain ⟨hd, e⟩ := T.pre_inv e
  obtain ⟨rfl, rfl⟩ := T.ret_inv e
  have hd0 := hd
  rw [Bool.and_eq_true, Bool.and_eq_true] at hd0
  obtain ⟨⟨hv, hw⟩, h0⟩ := hd0
  have h0 := of_decide_eq_true h0
  refine ⟨w + 1, Eq.trans (run_sfW (w + 1) s0 v0 w0 r s v q t w) ?_⟩
  have hgw : Nat.gcd v w ≤ w := Nat.le_of_dvd h0 (Nat.gcd_dvd_right v w)
  have hg0 : 0 < Nat.gcd v w := Nat.gcd_pos_of_pos_right v h0
  refine loop_fuel (fun M (p : Nat × Nat) => lp_sfW2 (w + 1) M (st_sfW2 p.1 p.2 s0 v0 w0 r s v q t w) (kt_sfW2 (w + 1) (kEnd Try.f122 3))) (fun p => Nat.gcd p.1 p.2 = Nat.gcd v w ∧ lowB p.1 = true ∧ lowB p.2 = true) (fun p => p.2) (fun o => o = _) (fun M p hs => ?_) (s := (v, w)) ⟨rfl, hv, hw⟩ (Nat.lt_succ_self w)
  obtain ⟨x, y⟩ := p
  obtain ⟨hg, hx, hy⟩ := hs
  dsimp only at hg hx hy ⊢
  rcases Nat.eq_zero_or_pos y with h1 | h1
  · left
    subst h1
    rw [Nat.gcd_zero_right] at hg
    subst hg
    have e0 : decide (0 < Nat.gcd v w) = true := decide_eq_true hg0
    rw [step_sfW2, ndig_zero, decide_eq_false (Nat.lt_irrefl 0)]
    dsimp only
    rw [end_sfW2_0, hv, hw, low_le hw hgw, e0]
    rfl
  · right
    refine ⟨(y, x % y), ⟨?_, hy, low_le hy (Nat.le_of_lt (Nat.mod_lt _ h1))⟩, Nat.mod_lt _ h1, ?_⟩
    · dsimp only
      rw [← hg, Nat.gcd_comm x y, Nat.gcd_rec y x, Nat.gcd_comm]
    · rw [step_sfW2, ndig_zero, decide_eq_true h1, hx, hy]
      rfl
def tab_denW : Fns := tabT [(119, gNewInt), (160, gPut)]
theorem tabok_denW : ∀ f, FnT Try.prog f (tab_denW f) := (tabT_cons (k := 119) ok_newInt (tabT_cons (k := 160) ok_put tabT_nil))
theorem run_denW (N : Nat) (r : Bool) (s : Bool) (v : Nat) (w : Nat) : run ty tab_denW ann0 N Try.f164 [.ptr 0 0] [.at r (.as 1 [.bool s, .big v, .big w])]
    = (match ((ndig w : Nat) : Int) == 0 with | true => some (.ptr 1 0, [.at r (.as 1 [.bool s, .big v, .big w]), .at true (.as 1 [.bool false, .big 1])]) | false => some (.ptr 1 0, [.at r (.as 1 [.bool s, .big v, .big w]), .at true (.as 1 [.bool false, .big w])])) := by
  kernel_rfl
def dn (w : Nat) : Nat := if w = 0 then 1 else w
def gDenom : GT := fun vs h => match vs, h with
  | [.ptr 0 0], [.at r (.as 1 [.bool s, .big v, .big w])] => .ret (.ptr 1 0) [.at r (.as 1 [.bool s, .big v, .big w]), .at true (.as 1 [.bool false, .big (dn w)])]
  | _, _ => .no
theorem ndig_eq {v : Nat} : (((ndig v : Nat) : Int) == 0) = decide (v = 0) := by
  rcases Nat.eq_zero_or_pos v with h | h
  · subst h
    rfl
  · have h1 := ndig_zero (v := v)
    rw [decide_eq_true h] at h1
    have h2 := of_decide_eq_true h1
    rw [decide_eq_false (by omega)]
    simp
    omega
theorem ok_Denom : FnT Try.prog 164 gDenom := by
  refine fnT tabok_denW Try.func164 rfl rfl ann0 fun vs h v h' e => ⟨0, ?_⟩
  unfold gDenom at e
  split at e
  case h_2 => exact (T.no_inv e).elim
  rename_i r s v w
  obtain ⟨rfl, rfl⟩ := T.ret_inv e
  refine Eq.trans (run_denW 0 r s v w) ?_
  rw [ndig_eq]
  unfold dn
  by_cases h : w = 0
  · rw [decide_eq_true h, if_pos h]
  · rw [decide_eq_false h, if_neg h]
def an_A_exactIntSet_0 : Ann := ⟨fun r =>  none, fun r n => if r = 1 ∧ n = 9 then .plain else .quiet⟩
def tab_A_exactIntSet_0 : Fns := tabT [(160, gPut)]
theorem tabok_A_exactIntSet_0 : ∀ f, FnT Try.prog f (tab_A_exactIntSet_0 f) := (tabT_cons (k := 160) ok_put tabT_nil)
theorem run_A_exactIntSet_0 (N : Nat) (b0_0 : Bool) (b0_1 : Nat) (r1 : Bool) (b1_0 : Bool) (b1_1 : Nat) (b1_2 : Nat) : run ty tab_A_exactIntSet_0 an_A_exactIntSet_0 N Try.f181 [.ptr 0 0, .ptr 1 0] [.at true (.as 1 [.bool b0_0, .big b0_1]), .at r1 (.as 1 [.bool b1_0, .big b1_1, .big b1_2])]
    = some (.ptr 0 0, [.at true (.as 1 [.bool (b1_0 && (decide (0 < b1_1))), .big b1_1]), .at r1 (.as 1 [.bool b1_0, .big b1_1, .big b1_2])]) := by
  kernel_rfl
def gA_exactIntSet : GT := fun vs h => match vs, h with
  | [.ptr 0 0, .ptr 1 0], [.at true (.as 1 [.bool b0_0, .big b0_1]), .at r1 (.as 1 [.bool b1_0, .big b1_1, .big b1_2])] => .ret (.ptr 0 0) [.at true (.as 1 [.bool (b1_0 && (decide (0 < b1_1))), .big b1_1]), .at r1 (.as 1 [.bool b1_0, .big b1_1, .big b1_2])]
  | _, _ => .no
theorem okA_exactIntSet : FnT Try.prog 181 gA_exactIntSet := by
  intro vs hp v h' e
  unfold gA_exactIntSet at e
  split at e
  · exact FnT.runs tabok_A_exactIntSet_0 Try.func181 rfl rfl an_A_exactIntSet_0 0 _ _ v h' (by rw [T.run_of]; exact Eq.trans (run_A_exactIntSet_0 0 _ _ _ _ _ _) e)
  · exact (T.no_inv e).elim
def tab_A_exactRatNum_0 : Fns := tabT [(181, gA_exactIntSet)]
theorem tabok_A_exactRatNum_0 : ∀ f, FnT Try.prog f (tab_A_exactRatNum_0 f) := (tabT_cons (k := 181) okA_exactIntSet tabT_nil)
theorem run_A_exactRatNum_0 (N : Nat) (r0 : Bool) (b0_0 : Bool) (b0_1 : Nat) (b0_2 : Nat) : run ty tab_A_exactRatNum_0 ann0 N Try.f165 [.ptr 0 0] [.at r0 (.as 1 [.bool b0_0, .big b0_1, .big b0_2])]
    = some (.ptr 1 0, [.at r0 (.as 1 [.bool b0_0, .big b0_1, .big b0_2]), .at true (.as 1 [.bool (b0_0 && (decide (0 < b0_1))), .big b0_1])]) := by
  kernel_rfl
def gA_exactRatNum : GT := fun vs h => match vs, h with
  | [.ptr 0 0], [.at r0 (.as 1 [.bool b0_0, .big b0_1, .big b0_2])] => .ret (.ptr 1 0) [.at r0 (.as 1 [.bool b0_0, .big b0_1, .big b0_2]), .at true (.as 1 [.bool (b0_0 && (decide (0 < b0_1))), .big b0_1])]
  | _, _ => .no
theorem okA_exactRatNum : FnT Try.prog 165 gA_exactRatNum := by
  intro vs hp v h' e
  unfold gA_exactRatNum at e
  split at e
  · exact FnT.runs tabok_A_exactRatNum_0 Try.func165 rfl rfl ann0 0 _ _ v h' (by rw [T.run_of]; exact Eq.trans (run_A_exactRatNum_0 0 _ _ _ _) e)
  · exact (T.no_inv e).elim
def tab_froW : Fns := tabT [(165, gA_exactRatNum), (166, gIs64), (164, gDenom), (167, gI64)]
theorem tabok_froW : ∀ f, FnT Try.prog f (tab_froW f) := (tabT_cons (k := 165) okA_exactRatNum (tabT_cons (k := 166) ok_is64 (tabT_cons (k := 164) ok_Denom (tabT_cons (k := 167) ok_i64 tabT_nil))))
theorem run_froW (N : Nat) (r : Bool) (s : Bool) (v : Nat) (w : Nat) : run ty tab_froW ann0 N Try.f127 [.ptr 0 0] [.at r (.as 1 [.bool s, .big v, .big w])]
    = (match low63 v with | true => (match low63 (dn w) with | true => (match low63 v with | true => (match low63 (dn w) with | true => some (.tup [.a (.int .i64 (sgI (s && (decide (0 < v))) v)), .a (.int .i64 (dn w : Int)), .a (.bool true)], [.at r (.as 1 [.bool s, .big v, .big w])]) | false => none) | false => none) | false => none) | false => none) := by
  kernel_rfl
def gFrac : GT := fun vs h => match vs, h with
  | [.ptr 0 0], [.at r (.as 1 [.bool s, .big v, .big w])] => .ite (low63 v && low63 (dn w)) (.ret (.tup [.a (.int .i64 (sgI s v)), .a (.int .i64 (dn w : Int)), .a (.bool true)]) [.at r (.as 1 [.bool s, .big v, .big w])]) .no
  | _, _ => .no
theorem sgI_and (s : Bool) (v : Nat) : sgI (s && decide (0 < v)) v = sgI s v := by
  rcases Nat.eq_zero_or_pos v with h | h
  · subst h
    cases s <;> rfl
  · rw [decide_eq_true h]
    cases s <;> rfl
theorem ok_fractionOf : FnT Try.prog 127 gFrac := by
  refine fnT tabok_froW Try.func127 rfl rfl ann0 fun vs h v h' e => ⟨0, ?_⟩
  unfold gFrac at e
  split at e
  case h_2 => exact (T.no_inv e).elim
  rename_i r s v w
  obtain ⟨hd, e⟩ := T.pre_inv e
  obtain ⟨rfl, rfl⟩ := T.ret_inv e
  rw [Bool.and_eq_true] at hd
  refine Eq.trans (run_froW 0 r s v w) ?_
  rw [hd.1, hd.2, sgI_and]
end Go.Proofs.Ytbhfjdlhhjeknaa.Ab

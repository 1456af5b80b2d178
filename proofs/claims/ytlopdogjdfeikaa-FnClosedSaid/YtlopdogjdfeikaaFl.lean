/- Floats: what the walks ask of them. Only lemmas. -/
import Derived.Test.YtlopdogjdfeikaaAbEnd
namespace Go.Proofs.Ytlopdogjdfeikaa.Ab
set_option linter.unusedVariables false
set_option linter.unusedSimpArgs false
open Go

def finB (x : Nat) : Bool := FloatKind.f32.format.order (fop .sub .f32 x x) 0 == some .eq
def ltB (x y : Nat) : Bool := FloatKind.f32.format.order x y == some .lt
def gtB (x y : Nat) : Bool := FloatKind.f32.format.order x y == some .gt
def eqB (x y : Nat) : Bool := FloatKind.f32.format.order x y == some .eq

theorem fin_order {x : Nat} (h : finB x = true) (hn : isN .f32 x = true) : False := by
  unfold finB at h
  have h1 : fop .sub .f32 x x = qnan .f32 := by
    unfold fop
    cases e : floatBits .sub .f32 x x with
    | none => rfl
    | some r => have := floatBits_some e; rw [hn] at this; exact absurd this.1 (by decide)
  rw [h1, order_nan (Or.inl (isN_qnan _))] at h
  exact absurd h (by decide)

theorem order_some {x y : Nat} (hx : isN .f32 x = false) (hy : isN .f32 y = false) : ∃ o, FloatKind.f32.format.order x y = some o := by
  unfold isN at hx hy
  unfold Ieee.Format.order
  have hx' : (FloatKind.f32.format.read x).isNaN = false := hx
  have hy' : (FloatKind.f32.format.read y).isNaN = false := hy
  revert hx' hy'
  cases FloatKind.f32.format.read x <;> cases FloatKind.f32.format.read y <;> intro a b <;> first | exact ⟨_, rfl⟩ | exact Bool.noConfusion (show true = false from a) | exact Bool.noConfusion (show true = false from b)

theorem fin_cmp {x : Nat} (h : finB x = true) : ∃ o, FloatKind.f32.format.order x 0 = some o := by
  cases hn : isN .f32 x with
  | true => exact (fin_order h hn).elim
  | false => exact order_some hn (by decide)

/-- A float32 as a float64: always told. -/
theorem fconv_up (b : Nat) : ∃ y, fconv .f32 b .f64 = some y := by
  unfold fconv
  rw [if_neg (by decide)]
  split
  · exact ⟨_, rfl⟩
  · rename_i hn
    unfold floatToFloatBits
    rw [if_neg (by decide)]
    cases hd : FloatKind.f32.decode b with
    | nan s f => rw [hd] at hn; exact absurd rfl hn
    | infinity s => exact ⟨_, rfl⟩
    | number s m e =>
      have hb : m < 2 ^ 24 ∧ -149 ≤ e ∧ e ≤ 104 := by
        have hd' : Ieee.single.read b = .number s m e := hd
        unfold Ieee.Format.read at hd'
        have c1 : Ieee.single.signWeight = 2147483648 := by decide
        have c2 : Ieee.single.binade = 8388608 := by decide
        have c3 : Ieee.single.infRung = 2139095040 := by decide
        have c4 : Ieee.single.leastPlace = -149 := by decide
        simp only [c1, c2, c3, c4] at hd'
        split at hd'
        · simp only [Ieee.Datum.number.injEq] at hd'; omega
        · split at hd'
          · simp only [Ieee.Datum.number.injEq] at hd'; omega
          · split at hd' <;> cases hd'
      have hi : (FloatKind.f64.decode (FloatKind.f64.encode (.number s m e))).isInfinity = false := by
        show (Ieee.double.read (Ieee.double.nearest s m e)).isInfinity = false
        have c1 : Ieee.double.signWeight = 9223372036854775808 := by decide
        have c2 : Ieee.double.binade = 4503599627370496 := by decide
        have c3 : Ieee.double.infRung = 9218868437227405312 := by decide
        have c4 : Ieee.double.leastPlace = -1074 := by decide
        have c5 : Ieee.double.fractionBits = 52 := by decide
        have fin : ∀ r : Nat, r < 9218868437227405312 → (Ieee.double.read (Ieee.double.word s r)).isInfinity = false := by
          intro r hr
          unfold Ieee.Format.read Ieee.Format.word
          simp only [c1, c2, c3, c4]
          have hm : (if s = true then 9223372036854775808 + r else r) % 9223372036854775808 = r := by split <;> omega
          rw [hm]
          split
          · rfl
          · first | rfl | (rw [if_pos hr]; rfl)
        unfold Ieee.Format.nearest
        split
        · exact fin 0 (by decide)
        · rename_i hm
          simp only [c2, c3, c4, c5]
          have hl : m.log2 < 24 := (Nat.log2_lt hm).2 hb.1
          have hmax : max (e + (m.log2 : Int) - (52 : Nat)) (-1074) = e + (m.log2 : Int) - 52 := by omega
          rw [hmax]
          have hz : (e + (m.log2 : Int) - 52 - e).toNat = 0 := by omega
          have hs : (e - (e + (m.log2 : Int) - 52)).toNat = 52 - m.log2 := by omega
          rw [hz, hs]
          have hk : Ieee.Toward.even.cut s (m <<< (52 - m.log2)) 0 = m <<< (52 - m.log2) := by
            unfold Ieee.Toward.cut
            simp [Nat.mod_one]
          rw [hk]
          have hlt : m <<< (52 - m.log2) < 9007199254740992 := by
            rw [Nat.shiftLeft_eq]
            have h1 : m < 2 ^ (m.log2 + 1) := Nat.lt_log2_self
            have h2 : 2 ^ (m.log2 + 1) * 2 ^ (52 - m.log2) = 9007199254740992 := by
              rw [← Nat.pow_add]
              have : m.log2 + 1 + (52 - m.log2) = 53 := by omega
              rw [this]
            calc m * 2 ^ (52 - m.log2) < 2 ^ (m.log2 + 1) * 2 ^ (52 - m.log2) := Nat.mul_lt_mul_of_pos_right h1 (Nat.pow_pos (by decide))
              _ = _ := h2
          generalize m <<< (52 - m.log2) = q at hlt
          have hq : (e + (m.log2 : Int) - 52 - -1074).toNat ≤ 1149 := by omega
          generalize (e + (m.log2 : Int) - 52 - -1074).toNat = p at hq
          refine fin _ (Nat.lt_of_le_of_lt (Nat.min_le_left _ _) (Nat.lt_of_lt_of_le (Nat.add_lt_add_of_le_of_lt (Nat.mul_le_mul_right _ hq) hlt) (by decide)))
      dsimp only
      rw [hi]
      exact ⟨_, rfl⟩

def up (b : Nat) : Nat := (fconv .f32 b .f64).getD 0
theorem fconv_eq (b : Nat) : fconv .f32 b .f64 = some (up b) := by
  obtain ⟨y, h⟩ := fconv_up b
  unfold up
  rw [h]; rfl

/-! ### 'laws.sameFloat' -/
def eqD (x y : Nat) : Bool := FloatKind.f64.format.order x y == some .eq
def gtD (x y : Nat) : Bool := FloatKind.f64.format.order x y == some .gt
def one64 : Nat := 4607182418800017408
def sameB (a b : Nat) : Bool :=
  cond (!eqD a a || !eqD b b) (!eqD a a && !eqD b b) (cond (eqD a 0 && eqD b 0) (gtD (fop .quo .f64 one64 a) 0 == gtD (fop .quo .f64 one64 b) 0) (eqD a b))
theorem sameB_self (a : Nat) : sameB a a = true := by
  unfold sameB
  cases h : eqD a a <;> cases h2 : eqD a 0 <;> simp
def gSame : G := fun vs h => match vs, h with | [.fl .f64 a, .fl .f64 b], [] => some (.bool (sameB a b), []) | _, _ => none
end Go.Proofs.Ytlopdogjdfeikaa.Ab

/- What the proof names: lemmas and words, merged by a program from its parts. No condition. -/
import Derived.Test.YthjncajdognojaaZ12
namespace Go.Proofs.Ythjncajdognojaa.Ab
set_option linter.unusedVariables false
set_option linter.unusedSimpArgs false
open Go
def w32 (l : List Nat) : Bool := l.all fun x => decide (x < 4294967296)
def jBy (e0 e2 : List Nat) (g : Nat) : Nat := fop .sub .f32 (fop .add .f32 (e0.getD (e0.length - 1) 0) g) (e2.getD 0 0)
def jE (e0 e2 : List Nat) (g : Nat) : List Nat := e0 ++ e2.map (fun x => fop .add .f32 x (jBy e0 e2 g))
def jM (m1 m3 : List Nat) : List Nat := m1 ++ m3.drop 1
def jOk (e0 m1 e2 m3 : List Nat) (g : Nat) : Bool := posB g && (sN (m1.getD e0.length 0) (m3.getD 0 0) && vsB (jE e0 e2 g) (jM m1 m3))
def jPre (e0 m1 e2 m3 : List Nat) : Bool := vsB e0 m1 && (vsB e2 m3 && (decide (1 ≤ e0.length) && (decide (1 ≤ e2.length) && (w32 m1 && w32 m3))))
theorem w32_at {l : List Nat} (h : w32 l = true) {i : Nat} (hi : i < l.length) : l.getD i 0 < 4294967296 := by
  have := all_getD h hi
  exact of_decide_eq_true this
theorem vs_len {e m : List Nat} (h : vsB e m = true) : e.length < 12 ∧ m.length = e.length + 1 := by
  unfold vsB at h
  simp only [Bool.and_eq_true, decide_eq_true_eq] at h
  exact ⟨h.1, h.2.1⟩
theorem jPre_of {e0 m1 e2 m3 : List Nat} (h : jPre e0 m1 e2 m3 = true) : vsB e0 m1 = true ∧ vsB e2 m3 = true ∧ 1 ≤ e0.length ∧ 1 ≤ e2.length ∧ w32 m1 = true ∧ w32 m3 = true := by
  unfold jPre at h
  simp only [Bool.and_eq_true, decide_eq_true_eq] at h
  exact h
theorem map_range (l : List Nat) (f : Nat → Nat) : (List.range' 0 l.length).map (fun i => f (l.getD i 0)) = l.map f := by
  apply List.ext_getElem?
  intro i
  by_cases h : i < l.length
  · simp [h, List.getD_eq_getElem?_getD]
  · simp [h]
theorem pos_parts {g : Nat} : (posB g = true → finB g = true ∧ (ltB g 0 || eqB g 0) = false) ∧ (posB g = false → finB g = true → (ltB g 0 || eqB g 0) = true) := by
  have hn := not_pos g
  refine ⟨fun h => ?_, fun h hf => ?_⟩
  · rw [h] at hn
    cases hf : finB g with
    | false => rw [hf] at hn; cases hn
    | true => rw [hf] at hn; exact ⟨rfl, hn⟩
  · rw [h, hf] at hn
    exact hn
def gJnI : GT := fun vs h => match vs, h with
  | [.g [.sl 0 0 n, .sl 1 0 m], .g [.sl 2 0 q, .sl 3 0 k], .fl .f32 g], [.at r0 (.fl .f32 l0), .at r1 (.fl .f32 l1), .at r2 (.fl .f32 l2), .at r3 (.fl .f32 l3)] =>
    .ite (decide (l0.length = n ∧ l1.length = m ∧ l2.length = q ∧ l3.length = k)) (.ite (jPre l0 l1 l2 l3) (.ite (jOk l0 l1 l2 l3 g) (.ret (.tup [.g [.sl 4 0 (jE l0 l2 g).length, .sl 5 0 (jM l1 l3).length], .a (.bool true)]) [.at r0 (.fl .f32 l0), .at r1 (.fl .f32 l1), .at r2 (.fl .f32 l2), .at r3 (.fl .f32 l3), .at true (.fl .f32 (jE l0 l2 g)), .at true (.fl .f32 (jM l1 l3))]) (.ret (.tup [.g [.nil, .nil], .a (.bool false)]) [.at r0 (.fl .f32 l0), .at r1 (.fl .f32 l1), .at r2 (.fl .f32 l2), .at r3 (.fl .f32 l3)])) .no) .no
  | _, _ => .no
theorem ok_jnI : FnT Try.prog 22 gJnI := by
  refine fnA_ok tyOk tabok_jnI mixed Try.func22 rfl rfl an_jnI gs_jnI regOk_jnI fun vs h v h' e => ?_
  unfold gJnI at e
  split at e
  case h_2 => exact (T.no_inv e).elim
  rename_i n m q k g r0 l0 r1 l1 r2 l2 r3 l3
  obtain ⟨hd, e1⟩ := T.pre_inv e
  obtain ⟨hp, e2⟩ := T.pre_inv e1
  clear e e1
  obtain ⟨rfl, rfl, rfl, rfl⟩ := of_decide_eq_true hd
  clear hd
  obtain ⟨v1, v2, b1, b2, w1, w3⟩ := jPre_of hp
  have a1 := vs_len v1
  have a2 := vs_len v2
  refine ⟨l2.length + 1, Eq.trans (run_jnI _ l0.length l1.length l2.length l3.length g r0 l0 r1 l1 r2 l2 r3 l3) (Eq.trans ?_ e2)⟩
  clear e2 hp
  show _ = (match jOk l0 l1 l2 l3 g with | true => some (V.tup [.g [.sl 4 0 (jE l0 l2 g).length, .sl 5 0 (jM l1 l3).length], .a (.bool true)], ([.at r0 (.fl .f32 l0), .at r1 (.fl .f32 l1), .at r2 (.fl .f32 l2), .at r3 (.fl .f32 l3), .at true (.fl .f32 (jE l0 l2 g)), .at true (.fl .f32 (jM l1 l3))] : H)) | false => some (V.tup [.g [.nil, .nil], .a (.bool false)], ([.at r0 (.fl .f32 l0), .at r1 (.fl .f32 l1), .at r2 (.fl .f32 l2), .at r3 (.fl .f32 l3)] : H)))
  unfold jOk
  have hwl : IntKind.i64.wrap (((l0.length : Nat) : Int) - 1) = ((l0.length - 1 : Nat) : Int) := by rw [wrap_z (by omega) (by omega)]; omega
  have ix1 : 0 + ((l0.length - 1 : Nat) : Int).toNat * 1 = l0.length - 1 := ix
  rw [show (decide (l0.length = l0.length ∧ l0.length < 2147483648 ∧ l1.length = l1.length ∧ l1.length < 2147483648)) = true from decide_eq_true (by omega)]
  rw [show (!(vsB l0 l1)) = false from by rw [v1]; rfl]
  rw [show (decide (l2.length = l2.length ∧ l2.length < 2147483648 ∧ l3.length = l3.length ∧ l3.length < 2147483648)) = true from decide_eq_true (by omega)]
  rw [show (!(vsB l2 l3)) = false from by rw [v2]; rfl]
  cases hg : posB g with
  | false =>
    cases hf : finB g with
    | false => rfl
    | true => rw [pos_parts.2 hg hf]; rfl
  | true =>
  obtain ⟨hf, hlt⟩ := pos_parts.1 hg
  rw [hf, hlt, Bool.not_true, Bool.true_and]
  rw [show (((l0.length : Nat) : Int) == 0) = false from beq_eq_false_iff_ne.mpr (by omega)]
  rw [show (((l2.length : Nat) : Int) == 0) = false from beq_eq_false_iff_ne.mpr (by omega)]
  rw [show (decide (0 ≤ (((l0.length : Nat) : Int) : Int) ∧ (((l0.length : Nat) : Int) : Int) < ((l1.length : Nat) : Int))) = true from decide_eq_true (by omega)]
  rw [show l1[0 + (((l0.length : Nat) : Int)).toNat * 1]? = some (l1.getD l0.length 0) from by rw [ix]; exact getD_some' (by omega)]
  dsimp only
  rw [show (decide (0 ≤ (0 : Int) ∧ (0 : Int) < ((l3.length : Nat) : Int))) = true from decide_eq_true (by omega)]
  rw [show l3[0]? = some (l3.getD 0 0) from by exact getD_some' (by omega)]
  dsimp only
  rw [show (decide ((l1.getD l0.length 0) < 4294967296 ∧ (l3.getD 0 0) < 4294967296)) = true from decide_eq_true ⟨w32_at w1 (by omega), w32_at w3 (by omega)⟩]
  cases hs : sN (l1.getD l0.length 0) (l3.getD 0 0) with
  | false => rfl
  | true =>
  rw [Bool.not_true, Bool.true_and]
  rw [show (decide (0 ≤ (IntKind.i64.wrap (((l0.length : Nat) : Int) - 1) : Int) ∧ (IntKind.i64.wrap (((l0.length : Nat) : Int) - 1) : Int) < ((l0.length : Nat) : Int))) = true from by rw [hwl]; exact decide_eq_true (by omega)]
  rw [show l0[0 + (IntKind.i64.wrap (((l0.length : Nat) : Int) - 1)).toNat * 1]? = some (l0.getD (l0.length - 1) 0) from by rw [hwl, ix1]; exact getD_some' (by omega)]
  dsimp only
  rw [show (decide (0 ≤ (0 : Int) ∧ (0 : Int) < ((l2.length : Nat) : Int))) = true from decide_eq_true (by omega)]
  rw [show l2[0]? = some (l2.getD 0 0) from by exact getD_some' (by omega)]
  dsimp only
  rw [show ((decide (l0.length = l0.length ∧ 1 ≤ l0.length ∧ l0.length < 2147483648)) && (decide (0 ≤ (1 : Int) ∧ (1 : Int) ≤ ((l3.length : Nat) : Int) ∧ (((l3.length : Nat) : Int) : Int) ≤ ((l3.length : Nat) : Int))) && (decide (l1.length = l1.length ∧ 1 + ((((l3.length : Nat) : Int) - 1).toNat) ≤ l3.length ∧ 0 < l1.length ∧ l1.length < 1000 ∧ (((l3.length : Nat) : Int) - 1).toNat < 1000))) = true from by
    rw [decide_eq_true (show l0.length = l0.length ∧ 1 ≤ l0.length ∧ l0.length < 2147483648 from ⟨rfl, by omega, by omega⟩), decide_eq_true (show 0 ≤ (1 : Int) ∧ (1 : Int) ≤ ((l3.length : Nat) : Int) ∧ (((l3.length : Nat) : Int) : Int) ≤ ((l3.length : Nat) : Int) by omega), decide_eq_true (show l1.length = l1.length ∧ 1 + ((((l3.length : Nat) : Int) - 1).toNat) ≤ l3.length ∧ 0 < l1.length ∧ l1.length < 1000 ∧ (((l3.length : Nat) : Int) - 1).toNat < 1000 by omega)]
    rfl]
  have hy : (l3.drop 1).take ((((l3.length : Nat) : Int) - 1).toNat) = l3.drop 1 := List.take_of_length_le (by rw [List.length_drop]; omega)
  rw [hy]
  have hX : l1.length + ((((l3.length : Nat) : Int) - 1).toNat) = (l1 ++ l3.drop 1).length := by rw [List.length_append, List.length_drop]; omega
  rw [hX]
  have hc := count_up l2.length (fun i (o : List Nat) => o ++ [fop .add .f32 (l2.getD i 0) (jBy l0 l2 g)]) (fun M i o => lp_jnI6 (l2.length + 1) M (st_jnI6 (jBy l0 l2 g) l2.length ((l2.length : Nat) : Int) (i : Int) r0 l0 r1 l1 r2 l2 r3 l3 o.length (l1 ++ l3.drop 1).length o (l1 ++ l3.drop 1)) (kt_jnI6 (l2.length + 1) (kEndA Try.f22 4)))
    (fun o => match vsB o (l1 ++ l3.drop 1) with | true => some (.tup [.g [.sl 4 0 o.length, .sl 5 0 (l1 ++ l3.drop 1).length], .a (.bool true)], [.at r0 (.fl .f32 l0), .at r1 (.fl .f32 l1), .at r2 (.fl .f32 l2), .at r3 (.fl .f32 l3), .at true (.fl .f32 o), .at true (.fl .f32 (l1 ++ l3.drop 1))]) | false => some ((.tup [.g [.nil, .nil], .a (.bool false)]), [.at r0 (.fl .f32 l0), .at r1 (.fl .f32 l1), .at r2 (.fl .f32 l2), .at r3 (.fl .f32 l3)])) (fun i o => o.length = l0.length + i)
    (fun M i o hi hv => ?_) (fun M o hv => ?_) l2.length 0 l0 (by omega) (by simp) 0
  · rw [rounds_append, map_range l2 (fun x => fop .add .f32 x (jBy l0 l2 g)), show l2.length + 1 + 0 = l2.length + 1 by omega] at hc
    exact hc
  · refine ⟨?_, by simp; omega⟩
    simp only [step_jnI6, dlt hi, din hi, ix, getD_some' hi, apc (rfl : o.length = o.length) (show o.length < 2147483648 by omega) (show 4 ≤ 16 by omega), wr (show i < 2147483648 by omega)]
    rw [show o.length + 1 = (o ++ [fop .add .f32 (l2.getD i 0) (jBy l0 l2 g)]).length by simp]
  · have hd : decide (o.length = o.length ∧ o.length < 2147483648 ∧ (l1 ++ l3.drop 1).length = (l1 ++ l3.drop 1).length ∧ (l1 ++ l3.drop 1).length < 2147483648) = true := decide_eq_true ⟨rfl, by omega, rfl, by rw [← hX]; omega⟩
    rw [step_jnI6, dge (Nat.le_refl _)]
    show kt_jnI6 _ _ (.exit 0) (en_jnI6_0 r0 l0 r1 l1 r2 l2 r3 l3 o.length (l1 ++ l3.drop 1).length o (l1 ++ l3.drop 1)) = _
    rw [end_jnI6_0, hd]
    all_goals (cases vsB o (l1 ++ l3.drop 1) <;> rfl)
end Go.Proofs.Ythjncajdognojaa.Ab

namespace Go.Proofs.Ythjncajdognojaa.Ab
set_option linter.unusedVariables false
set_option linter.unusedSimpArgs false
open Go
def an_jnS : Ann := ⟨fun r => if r = 7 then some ([1, 6, 9, 10, 11], [6, 9]) else none, fun _ _ => .quiet⟩
noncomputable def tab_jnS : Fns := tabT [(28, gT (gF1 posB)), (14, gSa1), (15, gOwn), (29, gGive)]
theorem tabok_jnS : ∀ f, FnT Try.prog f (tab_jnS f) := (tabT_cons (k := 28) ok_l02Above (tabT_cons (k := 14) ok_sa1 (tabT_cons (k := 15) ok_ownS (tabT_cons (k := 29) ok_gvS tabT_nil))))
noncomputable def opsjnS_2 : Array Oper := (regAt (codeOf Try.f16) 2).getD #[]
def gjnS_2 (st : St) : Option (Bool × St) := (match decide (st.t.length = 111) with | true => (match nth st.t 0 with | .ptr 0 0 => (match nth st.t 1 with | .ptr 1 0 => (match nth st.t 2 with | .fl .f32 z2 => (match nth st.t 6 with | .ptr 6 0 => (match nth st.t 8 with | .int .i64 z4 => (match st.h with | [.at z5 (.as 1 [.sl 2 0 z7, .sl 3 0 z9]), .at z10 (.as 1 [.sl 4 0 z12, .sl 5 0 z14]), .at z15 (.fl .f32 z16), .at z17 (.fl .f32 z18), .at z19 (.fl .f32 z20), .at z21 (.fl .f32 z22), .at true (.as 1 [.nil, .nil])] => some (cond (posB z2) ((!(z4 == 0)) && (!(((z12 : Nat) : Int) == 0)) && (decide (0 ≤ (z4 : Int) ∧ (z4 : Int) < ((z9 : Nat) : Int))) && ((z18[0 + (z4).toNat * 1]?).isSome) && (decide (0 ≤ (0 : Int) ∧ (0 : Int) < ((z14 : Nat) : Int))) && ((z22[0]?).isSome) && (decide ((z18[0 + (z4).toNat * 1]?).getD 0 < 4294967296 ∧ (z22[0]?).getD 0 < 4294967296))) ((!(z4 == 0)) && (!(((z12 : Nat) : Int) == 0))), ⟨(.ptr 0 0 :: .ptr 1 0 :: .fl .f32 z2 :: .any :: .any :: .any :: .ptr 6 0 :: .any :: .int .i64 z4 :: (anys 41 (.bool (cond (posB z2) ((!(sN ((z18[0 + (z4).toNat * 1]?).getD 0) ((z22[0]?).getD 0)))) (true)) :: (anys 60 [])))), [.at z5 (.as 1 [.sl 2 0 z7, .sl 3 0 z9]), .at z10 (.as 1 [.sl 4 0 z12, .sl 5 0 z14]), .at z15 (.fl .f32 z16), .at z17 (.fl .f32 z18), .at z19 (.fl .f32 z20), .at z21 (.fl .f32 z22), .at true (.as 1 [.nil, .nil])]⟩) | _ => none) | _ => none) | _ => none) | _ => none) | _ => none) | _ => none) | false => none)
abbrev zjnS_2 := Nat × Int × Bool × Nat × Nat × Bool × Nat × Nat × Bool × List Nat × Bool × List Nat × Bool × List Nat × Bool × List Nat
abbrev yjnS_20 (z : zjnS_2) : Nat := z.1
abbrev yjnS_21 (z : zjnS_2) : Int := z.2.1
abbrev yjnS_22 (z : zjnS_2) : Bool := z.2.2.1
abbrev yjnS_23 (z : zjnS_2) : Nat := z.2.2.2.1
abbrev yjnS_24 (z : zjnS_2) : Nat := z.2.2.2.2.1
abbrev yjnS_25 (z : zjnS_2) : Bool := z.2.2.2.2.2.1
abbrev yjnS_26 (z : zjnS_2) : Nat := z.2.2.2.2.2.2.1
abbrev yjnS_27 (z : zjnS_2) : Nat := z.2.2.2.2.2.2.2.1
abbrev yjnS_28 (z : zjnS_2) : Bool := z.2.2.2.2.2.2.2.2.1
abbrev yjnS_29 (z : zjnS_2) : List Nat := z.2.2.2.2.2.2.2.2.2.1
abbrev yjnS_210 (z : zjnS_2) : Bool := z.2.2.2.2.2.2.2.2.2.2.1
abbrev yjnS_211 (z : zjnS_2) : List Nat := z.2.2.2.2.2.2.2.2.2.2.2.1
abbrev yjnS_212 (z : zjnS_2) : Bool := z.2.2.2.2.2.2.2.2.2.2.2.2.1
abbrev yjnS_213 (z : zjnS_2) : List Nat := z.2.2.2.2.2.2.2.2.2.2.2.2.2.1
abbrev yjnS_214 (z : zjnS_2) : Bool := z.2.2.2.2.2.2.2.2.2.2.2.2.2.2.1
abbrev yjnS_215 (z : zjnS_2) : List Nat := z.2.2.2.2.2.2.2.2.2.2.2.2.2.2.2
def sjnS_2 (z : zjnS_2) : List V := (.ptr 0 0 :: .ptr 1 0 :: .fl .f32 (yjnS_20 z) :: .any :: .any :: .any :: .ptr 6 0 :: .any :: .int .i64 (yjnS_21 z) :: (anys 102 []))
def hjnS_2 (z : zjnS_2) : H := [.at (yjnS_22 z) (.as 1 [.sl 2 0 (yjnS_23 z), .sl 3 0 (yjnS_24 z)]), .at (yjnS_25 z) (.as 1 [.sl 4 0 (yjnS_26 z), .sl 5 0 (yjnS_27 z)]), .at (yjnS_28 z) (.fl .f32 (yjnS_29 z)), .at (yjnS_210 z) (.fl .f32 (yjnS_211 z)), .at (yjnS_212 z) (.fl .f32 (yjnS_213 z)), .at (yjnS_214 z) (.fl .f32 (yjnS_215 z)), .at true (.as 1 [.nil, .nil])]
theorem hojnS_2_0 : (opsjnS_2[0]?).map opD3 = some (.move (.tmp 8), some 17, none) := by kernel_rfl
theorem hojnS_2_1 : (opsjnS_2[1]?).map opD3 = some (.binOp .eql 3 (.tmp 17) (.const (.int .i64 0)) 3, some 18, none) := by kernel_rfl
theorem hojnS_2_2 : (opsjnS_2[2]?).map opD3 = some (.move (.tmp 18), some 19, none) := by kernel_rfl
theorem hojnS_2_3 : (opsjnS_2[3]?).map opD3 = some (.move (.tmp 1), some 20, some (2, false)) := by kernel_rfl
theorem hojnS_2_4 : (opsjnS_2[4]?).map opD3 = some (.nilCheck (.tmp 20), some 21, some (2, false)) := by kernel_rfl
theorem hojnS_2_5 : (opsjnS_2[5]?).map opD3 = some (.fieldAddr 26 (.tmp 21) 0, some 22, some (2, false)) := by kernel_rfl
theorem hojnS_2_6 : (opsjnS_2[6]?).map opD3 = some (.load 22 (.tmp 22), some 23, some (2, false)) := by kernel_rfl
theorem hojnS_2_7 : (opsjnS_2[7]?).map opD3 = some (.call ⟨.builtin .len, #[.tmp 23], #[22]⟩, some 24, some (2, false)) := by kernel_rfl
theorem hojnS_2_8 : (opsjnS_2[8]?).map opD3 = some (.binOp .eql 3 (.tmp 24) (.const (.int .i64 0)) 3, some 25, some (2, false)) := by kernel_rfl
theorem hojnS_2_9 : (opsjnS_2[9]?).map opD3 = some (.pick (.tmp 19) (.const (.bool true)) (.tmp 25), some 26, none) := by kernel_rfl
theorem hojnS_2_10 : (opsjnS_2[10]?).map opD3 = some (.move (.tmp 26), some 27, none) := by kernel_rfl
theorem hojnS_2_11 : (opsjnS_2[11]?).map opD3 = some (.move (.tmp 2), some 28, some (10, false)) := by kernel_rfl
theorem hojnS_2_12 : (opsjnS_2[12]?).map opD3 = some (.call ⟨.value (.func 28), #[.tmp 28], #[40]⟩, some 29, some (10, false)) := by kernel_rfl
theorem hojnS_2_13 : (opsjnS_2[13]?).map opD3 = some (.unOp .not 4 (.tmp 29), some 30, some (10, false)) := by kernel_rfl
theorem hojnS_2_14 : (opsjnS_2[14]?).map opD3 = some (.pick (.tmp 27) (.const (.bool true)) (.tmp 30), some 31, none) := by kernel_rfl
theorem hojnS_2_15 : (opsjnS_2[15]?).map opD3 = some (.move (.tmp 31), some 32, none) := by kernel_rfl
theorem hojnS_2_16 : (opsjnS_2[16]?).map opD3 = some (.move (.tmp 0), some 33, some (15, false)) := by kernel_rfl
theorem hojnS_2_17 : (opsjnS_2[17]?).map opD3 = some (.nilCheck (.tmp 33), some 34, some (15, false)) := by kernel_rfl
theorem hojnS_2_18 : (opsjnS_2[18]?).map opD3 = some (.fieldAddr 26 (.tmp 34) 1, some 35, some (15, false)) := by kernel_rfl
theorem hojnS_2_19 : (opsjnS_2[19]?).map opD3 = some (.load 22 (.tmp 35), some 36, some (15, false)) := by kernel_rfl
theorem hojnS_2_20 : (opsjnS_2[20]?).map opD3 = some (.move (.tmp 8), some 37, some (15, false)) := by kernel_rfl
theorem hojnS_2_21 : (opsjnS_2[21]?).map opD3 = some (.indexAddr 22 (.tmp 36) (.tmp 37), some 38, some (15, false)) := by kernel_rfl
theorem hojnS_2_22 : (opsjnS_2[22]?).map opD3 = some (.load 40 (.tmp 38), some 39, some (15, false)) := by kernel_rfl
theorem hojnS_2_23 : (opsjnS_2[23]?).map opD3 = some (.buildSlice 22 1 #[(0, .tmp 39)], some 40, some (15, false)) := by kernel_rfl
theorem hojnS_2_24 : (opsjnS_2[24]?).map opD3 = some (.move (.tmp 1), some 41, some (15, false)) := by kernel_rfl
theorem hojnS_2_25 : (opsjnS_2[25]?).map opD3 = some (.nilCheck (.tmp 41), some 42, some (15, false)) := by kernel_rfl
theorem hojnS_2_26 : (opsjnS_2[26]?).map opD3 = some (.fieldAddr 26 (.tmp 42) 1, some 43, some (15, false)) := by kernel_rfl
theorem hojnS_2_27 : (opsjnS_2[27]?).map opD3 = some (.load 22 (.tmp 43), some 44, some (15, false)) := by kernel_rfl
theorem hojnS_2_28 : (opsjnS_2[28]?).map opD3 = some (.indexAddr 22 (.tmp 44) (.const (.int .i64 0)), some 45, some (15, false)) := by kernel_rfl
theorem hojnS_2_29 : (opsjnS_2[29]?).map opD3 = some (.load 40 (.tmp 45), some 46, some (15, false)) := by kernel_rfl
theorem hojnS_2_30 : (opsjnS_2[30]?).map opD3 = some (.buildSlice 22 1 #[(0, .tmp 46)], some 47, some (15, false)) := by kernel_rfl
theorem hojnS_2_31 : (opsjnS_2[31]?).map opD3 = some (.call ⟨.value (.func 14), #[.tmp 40, .tmp 47], #[22, 22]⟩, some 48, some (15, false)) := by kernel_rfl
theorem hojnS_2_32 : (opsjnS_2[32]?).map opD3 = some (.unOp .not 4 (.tmp 48), some 49, some (15, false)) := by kernel_rfl
theorem hojnS_2_33 : (opsjnS_2[33]?).map opD3 = some (.pick (.tmp 32) (.const (.bool true)) (.tmp 49), some 50, none) := by kernel_rfl
def vjnS_2_0 (z : zjnS_2) : Nat → V
  | 0 => .int .i64 (yjnS_21 z)
  | 1 => .bool false
  | 2 => .bool false
  | 3 => .ptr 1 0
  | 4 => .ptr 1 0
  | 5 => .ptr 1 0
  | 6 => .sl 4 0 (yjnS_26 z)
  | 7 => .int .i64 (((yjnS_26 z) : Nat) : Int)
  | 8 => .bool false
  | 9 => .bool false
  | 10 => .bool false
  | 11 => .fl .f32 (yjnS_20 z)
  | 12 => .bool true
  | 13 => .bool false
  | 14 => .bool false
  | 15 => .bool false
  | 16 => .ptr 0 0
  | 17 => .ptr 0 0
  | 18 => .ptr 0 1
  | 19 => .sl 3 0 (yjnS_24 z)
  | 20 => .int .i64 (yjnS_21 z)
  | 21 => .ptr 3 (0 + ((yjnS_21 z)).toNat * 1)
  | 22 => .fl .f32 (((yjnS_211 z)[0 + ((yjnS_21 z)).toNat * 1]?).getD 0)
  | 23 => .sl 7 0 1
  | 24 => .ptr 1 0
  | 25 => .ptr 1 0
  | 26 => .ptr 1 1
  | 27 => .sl 5 0 (yjnS_27 z)
  | 28 => .ptr 5 0
  | 29 => .fl .f32 (((yjnS_215 z)[0]?).getD 0)
  | 30 => .sl 8 0 1
  | 31 => .bool (sN (((yjnS_211 z)[0 + ((yjnS_21 z)).toNat * 1]?).getD 0) (((yjnS_215 z)[0]?).getD 0))
  | 32 => .bool (!(sN (((yjnS_211 z)[0 + ((yjnS_21 z)).toNat * 1]?).getD 0) (((yjnS_215 z)[0]?).getD 0)))
  | 33 => .bool (!(sN (((yjnS_211 z)[0 + ((yjnS_21 z)).toNat * 1]?).getD 0) (((yjnS_215 z)[0]?).getD 0)))
  | _ => .any
def qjnS_2_0 (z : zjnS_2) (k : Nat) (l : List (Nat × V)) : List V := setsA l (setsA (selA k [(0, 17), (1, 18), (2, 19), (3, 20), (4, 21), (5, 22), (6, 23), (7, 24), (8, 25), (9, 26), (10, 27), (11, 28), (12, 29), (13, 30), (14, 31), (15, 32), (16, 33), (17, 34), (18, 35), (19, 36), (20, 37), (21, 38), (22, 39), (23, 40), (24, 41), (25, 42), (26, 43), (27, 44), (28, 45), (29, 46), (30, 47), (31, 48), (32, 49), (33, 50)] (vjnS_2_0 z)) (sjnS_2 z))
def cjnS_2_0 (z : zjnS_2) : Prop := ((yjnS_21 z) == 0) = false ∧ ((((yjnS_26 z) : Nat) : Int) == 0) = false ∧ (posB (yjnS_20 z)) = true ∧ (decide (0 ≤ ((yjnS_21 z) : Int) ∧ ((yjnS_21 z) : Int) < (((yjnS_24 z) : Nat) : Int))) = true ∧ (((yjnS_211 z)[0 + ((yjnS_21 z)).toNat * 1]?).isSome) = true ∧ (decide (0 ≤ (0 : Int) ∧ (0 : Int) < (((yjnS_27 z) : Nat) : Int))) = true ∧ (((yjnS_215 z)[0]?).isSome) = true ∧ (decide (((yjnS_211 z)[0 + ((yjnS_21 z)).toNat * 1]?).getD 0 < 4294967296 ∧ ((yjnS_215 z)[0]?).getD 0 < 4294967296)) = true
abbrev ajnS_2_0 (z : zjnS_2) (m k : Nat) (t : List V) (h : H) : Prop := AnyRun Try.prog opsjnS_2 (FinTo [0, 1, 2, 6, 8, 50] 7 (⟨(.ptr 0 0 :: .ptr 1 0 :: .fl .f32 (yjnS_20 z) :: .any :: .any :: .any :: .ptr 6 0 :: .any :: .int .i64 (yjnS_21 z) :: (anys 41 (.bool (!(sN (((yjnS_211 z)[0 + ((yjnS_21 z)).toNat * 1]?).getD 0) (((yjnS_215 z)[0]?).getD 0))) :: (anys 60 [])))), [.at (yjnS_22 z) (.as 1 [.sl 2 0 (yjnS_23 z), .sl 3 0 (yjnS_24 z)]), .at (yjnS_25 z) (.as 1 [.sl 4 0 (yjnS_26 z), .sl 5 0 (yjnS_27 z)]), .at (yjnS_28 z) (.fl .f32 (yjnS_29 z)), .at (yjnS_210 z) (.fl .f32 (yjnS_211 z)), .at (yjnS_212 z) (.fl .f32 (yjnS_213 z)), .at (yjnS_214 z) (.fl .f32 (yjnS_215 z)), .at true (.as 1 [.nil, .nil])]⟩ : St)) m (bitsA 34 k) t h
def bjnS_2_0 (z : zjnS_2) : Nat → B
  | 0 => .at true (.fl .f32 [((yjnS_211 z)[0 + ((yjnS_21 z)).toNat * 1]?).getD 0])
  | 1 => .at true (.fl .f32 [((yjnS_215 z)[0]?).getD 0])
  | _ => .gone
def HjnS_2_0 (z : zjnS_2) (l : List Nat) : H := hjnS_2 z ++ l.map (bjnS_2_0 z)
theorem anjnS_2_1 {z : zjnS_2} (hc : cjnS_2_0 z) : ajnS_2_0 z 0 17179869183 (qjnS_2_0 z 17179869183 []) (HjnS_2_0 z [0, 1]) := ⟨by kernel_rfl, [0, 1, 2, 3, 4, 5, 6], by decide, by decide, by kernel_rfl, by kernel_rfl⟩
theorem anjnS_2_2 {z : zjnS_2} (hc : cjnS_2_0 z) : ajnS_2_0 z 1 8589934591 (qjnS_2_0 z 8589934591 []) (HjnS_2_0 z [0, 1]) := by
  refine any_next [33] (by kernel_rfl) (by decide) fun i hi => ?_
  obtain rfl := two1 hi
  · exact any_one _ (v := vjnS_2_0 z 33) tabok_jnS hojnS_2_33 (trivial) (by kernel_rfl) (by kernel_rfl) (by kernel_rfl) (anjnS_2_1 hc)
theorem anjnS_2_3 {z : zjnS_2} (hc : cjnS_2_0 z) : ajnS_2_0 z 2 4294967295 (qjnS_2_0 z 4294967295 []) (HjnS_2_0 z [0, 1]) := by
  refine any_next [32] (by kernel_rfl) (by decide) fun i hi => ?_
  obtain rfl := two1 hi
  · exact any_one _ (v := vjnS_2_0 z 32) tabok_jnS hojnS_2_32 (⟨32, by kernel_rfl, by kernel_rfl⟩) (by kernel_rfl) (by kernel_rfl) (by kernel_rfl) (anjnS_2_2 hc)
theorem anjnS_2_4 {z : zjnS_2} (hc : cjnS_2_0 z) : ajnS_2_0 z 3 2147483647 (qjnS_2_0 z 2147483647 []) (HjnS_2_0 z [0, 1]) := by
  refine any_next [31] (by kernel_rfl) (by decide) fun i hi => ?_
  obtain rfl := two1 hi
  · exact any_one _ (v := vjnS_2_0 z 31) tabok_jnS hojnS_2_31 (⟨32, by kernel_rfl, by kernel_rfl⟩) (by
      refine Eq.trans (b := (match decide (((yjnS_211 z)[0 + ((yjnS_21 z)).toNat * 1]?).getD 0 < 4294967296 ∧ ((yjnS_215 z)[0]?).getD 0 < 4294967296) with | true => some ((.bool (sN (((yjnS_211 z)[0 + ((yjnS_21 z)).toNat * 1]?).getD 0) (((yjnS_215 z)[0]?).getD 0))), [.at (yjnS_22 z) (.as 1 [.sl 2 0 (yjnS_23 z), .sl 3 0 (yjnS_24 z)]), .at (yjnS_25 z) (.as 1 [.sl 4 0 (yjnS_26 z), .sl 5 0 (yjnS_27 z)]), .at (yjnS_28 z) (.fl .f32 (yjnS_29 z)), .at (yjnS_210 z) (.fl .f32 (yjnS_211 z)), .at (yjnS_212 z) (.fl .f32 (yjnS_213 z)), .at (yjnS_214 z) (.fl .f32 (yjnS_215 z)), .at true (.as 1 [.nil, .nil]), .at true (.fl .f32 [((yjnS_211 z)[0 + ((yjnS_21 z)).toNat * 1]?).getD 0]), .at true (.fl .f32 [((yjnS_215 z)[0]?).getD 0])]) | false => none)) (by kernel_rfl) ?_
      rw [hc.2.2.2.2.2.2.2]
      try rfl) (by kernel_rfl) (by kernel_rfl) (anjnS_2_3 hc)
theorem anjnS_2_5 {z : zjnS_2} (hc : cjnS_2_0 z) : ajnS_2_0 z 4 1073741823 (qjnS_2_0 z 1073741823 []) (HjnS_2_0 z [0]) := by
  refine any_next [30] (by kernel_rfl) (by decide) fun i hi => ?_
  obtain rfl := two1 hi
  · exact any_one _ (v := vjnS_2_0 z 30) tabok_jnS hojnS_2_30 (⟨32, by kernel_rfl, by kernel_rfl⟩) (by kernel_rfl) (by kernel_rfl) (by kernel_rfl) (anjnS_2_4 hc)
theorem anjnS_2_6 {z : zjnS_2} (hc : cjnS_2_0 z) : ajnS_2_0 z 5 536870911 (qjnS_2_0 z 536870911 []) (HjnS_2_0 z [0]) := by
  refine any_next [29] (by kernel_rfl) (by decide) fun i hi => ?_
  obtain rfl := two1 hi
  · exact any_one _ (v := vjnS_2_0 z 29) tabok_jnS hojnS_2_29 (⟨32, by kernel_rfl, by kernel_rfl⟩) (by
      refine Eq.trans (b := (match (yjnS_215 z)[0]? with | some e7 => some ((.fl .f32 e7), [.at (yjnS_22 z) (.as 1 [.sl 2 0 (yjnS_23 z), .sl 3 0 (yjnS_24 z)]), .at (yjnS_25 z) (.as 1 [.sl 4 0 (yjnS_26 z), .sl 5 0 (yjnS_27 z)]), .at (yjnS_28 z) (.fl .f32 (yjnS_29 z)), .at (yjnS_210 z) (.fl .f32 (yjnS_211 z)), .at (yjnS_212 z) (.fl .f32 (yjnS_213 z)), .at (yjnS_214 z) (.fl .f32 (yjnS_215 z)), .at true (.as 1 [.nil, .nil]), .at true (.fl .f32 [((yjnS_211 z)[0 + ((yjnS_21 z)).toNat * 1]?).getD 0])]) | none => none)) (by kernel_rfl) ?_
      rw [someD (hc.2.2.2.2.2.2.1)]
      try rfl) (by kernel_rfl) (by kernel_rfl) (anjnS_2_5 hc)
theorem anjnS_2_7 {z : zjnS_2} (hc : cjnS_2_0 z) : ajnS_2_0 z 6 268435455 (qjnS_2_0 z 268435455 []) (HjnS_2_0 z [0]) := by
  refine any_next [28] (by kernel_rfl) (by decide) fun i hi => ?_
  obtain rfl := two1 hi
  · exact any_one _ (v := vjnS_2_0 z 28) tabok_jnS hojnS_2_28 (⟨32, by kernel_rfl, by kernel_rfl⟩) (by
      refine Eq.trans (b := (match decide (0 ≤ (0 : Int) ∧ (0 : Int) < (((yjnS_27 z) : Nat) : Int)) with | true => some ((.ptr 5 0), [.at (yjnS_22 z) (.as 1 [.sl 2 0 (yjnS_23 z), .sl 3 0 (yjnS_24 z)]), .at (yjnS_25 z) (.as 1 [.sl 4 0 (yjnS_26 z), .sl 5 0 (yjnS_27 z)]), .at (yjnS_28 z) (.fl .f32 (yjnS_29 z)), .at (yjnS_210 z) (.fl .f32 (yjnS_211 z)), .at (yjnS_212 z) (.fl .f32 (yjnS_213 z)), .at (yjnS_214 z) (.fl .f32 (yjnS_215 z)), .at true (.as 1 [.nil, .nil]), .at true (.fl .f32 [((yjnS_211 z)[0 + ((yjnS_21 z)).toNat * 1]?).getD 0])]) | false => none)) (by kernel_rfl) ?_
      rw [hc.2.2.2.2.2.1]
      try rfl) (by kernel_rfl) (by kernel_rfl) (anjnS_2_6 hc)
theorem anjnS_2_8 {z : zjnS_2} (hc : cjnS_2_0 z) : ajnS_2_0 z 7 134217727 (qjnS_2_0 z 134217727 []) (HjnS_2_0 z [0]) := by
  refine any_next [27] (by kernel_rfl) (by decide) fun i hi => ?_
  obtain rfl := two1 hi
  · exact any_one _ (v := vjnS_2_0 z 27) tabok_jnS hojnS_2_27 (⟨32, by kernel_rfl, by kernel_rfl⟩) (by kernel_rfl) (by kernel_rfl) (by kernel_rfl) (anjnS_2_7 hc)
theorem anjnS_2_9 {z : zjnS_2} (hc : cjnS_2_0 z) : ajnS_2_0 z 8 67108863 (qjnS_2_0 z 67108863 []) (HjnS_2_0 z [0]) := by
  refine any_next [26] (by kernel_rfl) (by decide) fun i hi => ?_
  obtain rfl := two1 hi
  · exact any_one _ (v := vjnS_2_0 z 26) tabok_jnS hojnS_2_26 (⟨32, by kernel_rfl, by kernel_rfl⟩) (by kernel_rfl) (by kernel_rfl) (by kernel_rfl) (anjnS_2_8 hc)
theorem anjnS_2_10 {z : zjnS_2} (hc : cjnS_2_0 z) : ajnS_2_0 z 9 33554431 (qjnS_2_0 z 33554431 []) (HjnS_2_0 z [0]) := by
  refine any_next [25] (by kernel_rfl) (by decide) fun i hi => ?_
  obtain rfl := two1 hi
  · exact any_one _ (v := vjnS_2_0 z 25) tabok_jnS hojnS_2_25 (⟨32, by kernel_rfl, by kernel_rfl⟩) (by kernel_rfl) (by kernel_rfl) (by kernel_rfl) (anjnS_2_9 hc)
theorem anjnS_2_11 {z : zjnS_2} (hc : cjnS_2_0 z) : ajnS_2_0 z 10 16777215 (qjnS_2_0 z 16777215 []) (HjnS_2_0 z [0]) := by
  refine any_next [24] (by kernel_rfl) (by decide) fun i hi => ?_
  obtain rfl := two1 hi
  · exact any_one _ (v := vjnS_2_0 z 24) tabok_jnS hojnS_2_24 (⟨32, by kernel_rfl, by kernel_rfl⟩) (by kernel_rfl) (by kernel_rfl) (by kernel_rfl) (anjnS_2_10 hc)
theorem anjnS_2_12 {z : zjnS_2} (hc : cjnS_2_0 z) : ajnS_2_0 z 0 17179869183 (qjnS_2_0 z 17179869183 [(40, .sl 8 0 1), (47, .sl 7 0 1)]) (HjnS_2_0 z [1, 0]) := ⟨by kernel_rfl, [0, 1, 2, 3, 4, 5, 6], by decide, by decide, by kernel_rfl, by kernel_rfl⟩
theorem anjnS_2_13 {z : zjnS_2} (hc : cjnS_2_0 z) : ajnS_2_0 z 1 8589934591 (qjnS_2_0 z 8589934591 [(40, .sl 8 0 1), (47, .sl 7 0 1)]) (HjnS_2_0 z [1, 0]) := by
  refine any_next [33] (by kernel_rfl) (by decide) fun i hi => ?_
  obtain rfl := two1 hi
  · exact any_one _ (v := vjnS_2_0 z 33) tabok_jnS hojnS_2_33 (trivial) (by kernel_rfl) (by kernel_rfl) (by kernel_rfl) (anjnS_2_12 hc)
theorem anjnS_2_14 {z : zjnS_2} (hc : cjnS_2_0 z) : ajnS_2_0 z 2 4294967295 (qjnS_2_0 z 4294967295 [(40, .sl 8 0 1), (47, .sl 7 0 1)]) (HjnS_2_0 z [1, 0]) := by
  refine any_next [32] (by kernel_rfl) (by decide) fun i hi => ?_
  obtain rfl := two1 hi
  · exact any_one _ (v := vjnS_2_0 z 32) tabok_jnS hojnS_2_32 (⟨32, by kernel_rfl, by kernel_rfl⟩) (by kernel_rfl) (by kernel_rfl) (by kernel_rfl) (anjnS_2_13 hc)
theorem anjnS_2_15 {z : zjnS_2} (hc : cjnS_2_0 z) : ajnS_2_0 z 3 2147483647 (qjnS_2_0 z 2147483647 [(40, .sl 8 0 1), (47, .sl 7 0 1)]) (HjnS_2_0 z [1, 0]) := by
  refine any_next [31] (by kernel_rfl) (by decide) fun i hi => ?_
  obtain rfl := two1 hi
  · exact any_one _ (v := vjnS_2_0 z 31) tabok_jnS hojnS_2_31 (⟨32, by kernel_rfl, by kernel_rfl⟩) (by
      refine Eq.trans (b := (match decide (((yjnS_211 z)[0 + ((yjnS_21 z)).toNat * 1]?).getD 0 < 4294967296 ∧ ((yjnS_215 z)[0]?).getD 0 < 4294967296) with | true => some ((.bool (sN (((yjnS_211 z)[0 + ((yjnS_21 z)).toNat * 1]?).getD 0) (((yjnS_215 z)[0]?).getD 0))), [.at (yjnS_22 z) (.as 1 [.sl 2 0 (yjnS_23 z), .sl 3 0 (yjnS_24 z)]), .at (yjnS_25 z) (.as 1 [.sl 4 0 (yjnS_26 z), .sl 5 0 (yjnS_27 z)]), .at (yjnS_28 z) (.fl .f32 (yjnS_29 z)), .at (yjnS_210 z) (.fl .f32 (yjnS_211 z)), .at (yjnS_212 z) (.fl .f32 (yjnS_213 z)), .at (yjnS_214 z) (.fl .f32 (yjnS_215 z)), .at true (.as 1 [.nil, .nil]), .at true (.fl .f32 [((yjnS_215 z)[0]?).getD 0]), .at true (.fl .f32 [((yjnS_211 z)[0 + ((yjnS_21 z)).toNat * 1]?).getD 0])]) | false => none)) (by kernel_rfl) ?_
      rw [hc.2.2.2.2.2.2.2]
      try rfl) (by kernel_rfl) (by kernel_rfl) (anjnS_2_14 hc)
theorem anjnS_2_16 {z : zjnS_2} (hc : cjnS_2_0 z) : ajnS_2_0 z 4 2139095039 (qjnS_2_0 z 2139095039 [(47, .sl 7 0 1)]) (HjnS_2_0 z [1]) := by
  refine any_next [23] (by kernel_rfl) (by decide) fun i hi => ?_
  obtain rfl := two1 hi
  · exact any_one _ (v := .sl 8 0 1) tabok_jnS hojnS_2_23 (⟨32, by kernel_rfl, by kernel_rfl⟩) (by kernel_rfl) (by kernel_rfl) (by kernel_rfl) (anjnS_2_15 hc)
theorem anjnS_2_17 {z : zjnS_2} (hc : cjnS_2_0 z) : ajnS_2_0 z 5 1065353215 (qjnS_2_0 z 1065353215 []) (HjnS_2_0 z []) := by
  refine any_next [23, 30] (by kernel_rfl) (by decide) fun i hi => ?_
  rcases two2 hi with rfl | rfl
  · exact any_one _ (v := vjnS_2_0 z 23) tabok_jnS hojnS_2_23 (⟨32, by kernel_rfl, by kernel_rfl⟩) (by kernel_rfl) (by kernel_rfl) (by kernel_rfl) (anjnS_2_5 hc)
  · exact any_one _ (v := .sl 7 0 1) tabok_jnS hojnS_2_30 (⟨32, by kernel_rfl, by kernel_rfl⟩) (by kernel_rfl) (by kernel_rfl) (by kernel_rfl) (anjnS_2_16 hc)
theorem anjnS_2_18 {z : zjnS_2} (hc : cjnS_2_0 z) : ajnS_2_0 z 6 528482303 (qjnS_2_0 z 528482303 []) (HjnS_2_0 z []) := by
  refine any_next [23, 29] (by kernel_rfl) (by decide) fun i hi => ?_
  rcases two2 hi with rfl | rfl
  · exact any_one _ (v := vjnS_2_0 z 23) tabok_jnS hojnS_2_23 (⟨32, by kernel_rfl, by kernel_rfl⟩) (by kernel_rfl) (by kernel_rfl) (by kernel_rfl) (anjnS_2_6 hc)
  · exact any_one _ (v := vjnS_2_0 z 29) tabok_jnS hojnS_2_29 (⟨32, by kernel_rfl, by kernel_rfl⟩) (by
      refine Eq.trans (b := (match (yjnS_215 z)[0]? with | some e9 => some ((.fl .f32 e9), [.at (yjnS_22 z) (.as 1 [.sl 2 0 (yjnS_23 z), .sl 3 0 (yjnS_24 z)]), .at (yjnS_25 z) (.as 1 [.sl 4 0 (yjnS_26 z), .sl 5 0 (yjnS_27 z)]), .at (yjnS_28 z) (.fl .f32 (yjnS_29 z)), .at (yjnS_210 z) (.fl .f32 (yjnS_211 z)), .at (yjnS_212 z) (.fl .f32 (yjnS_213 z)), .at (yjnS_214 z) (.fl .f32 (yjnS_215 z)), .at true (.as 1 [.nil, .nil])]) | none => none)) (by kernel_rfl) ?_
      rw [someD (hc.2.2.2.2.2.2.1)]
      try rfl) (by kernel_rfl) (by kernel_rfl) (anjnS_2_17 hc)
theorem anjnS_2_19 {z : zjnS_2} (hc : cjnS_2_0 z) : ajnS_2_0 z 7 260046847 (qjnS_2_0 z 260046847 []) (HjnS_2_0 z []) := by
  refine any_next [23, 28] (by kernel_rfl) (by decide) fun i hi => ?_
  rcases two2 hi with rfl | rfl
  · exact any_one _ (v := vjnS_2_0 z 23) tabok_jnS hojnS_2_23 (⟨32, by kernel_rfl, by kernel_rfl⟩) (by kernel_rfl) (by kernel_rfl) (by kernel_rfl) (anjnS_2_7 hc)
  · exact any_one _ (v := vjnS_2_0 z 28) tabok_jnS hojnS_2_28 (⟨32, by kernel_rfl, by kernel_rfl⟩) (by
      refine Eq.trans (b := (match decide (0 ≤ (0 : Int) ∧ (0 : Int) < (((yjnS_27 z) : Nat) : Int)) with | true => some ((.ptr 5 0), [.at (yjnS_22 z) (.as 1 [.sl 2 0 (yjnS_23 z), .sl 3 0 (yjnS_24 z)]), .at (yjnS_25 z) (.as 1 [.sl 4 0 (yjnS_26 z), .sl 5 0 (yjnS_27 z)]), .at (yjnS_28 z) (.fl .f32 (yjnS_29 z)), .at (yjnS_210 z) (.fl .f32 (yjnS_211 z)), .at (yjnS_212 z) (.fl .f32 (yjnS_213 z)), .at (yjnS_214 z) (.fl .f32 (yjnS_215 z)), .at true (.as 1 [.nil, .nil])]) | false => none)) (by kernel_rfl) ?_
      rw [hc.2.2.2.2.2.1]
      try rfl) (by kernel_rfl) (by kernel_rfl) (anjnS_2_18 hc)
theorem anjnS_2_20 {z : zjnS_2} (hc : cjnS_2_0 z) : ajnS_2_0 z 8 125829119 (qjnS_2_0 z 125829119 []) (HjnS_2_0 z []) := by
  refine any_next [23, 27] (by kernel_rfl) (by decide) fun i hi => ?_
  rcases two2 hi with rfl | rfl
  · exact any_one _ (v := vjnS_2_0 z 23) tabok_jnS hojnS_2_23 (⟨32, by kernel_rfl, by kernel_rfl⟩) (by kernel_rfl) (by kernel_rfl) (by kernel_rfl) (anjnS_2_8 hc)
  · exact any_one _ (v := vjnS_2_0 z 27) tabok_jnS hojnS_2_27 (⟨32, by kernel_rfl, by kernel_rfl⟩) (by kernel_rfl) (by kernel_rfl) (by kernel_rfl) (anjnS_2_19 hc)
theorem anjnS_2_21 {z : zjnS_2} (hc : cjnS_2_0 z) : ajnS_2_0 z 9 58720255 (qjnS_2_0 z 58720255 []) (HjnS_2_0 z []) := by
  refine any_next [23, 26] (by kernel_rfl) (by decide) fun i hi => ?_
  rcases two2 hi with rfl | rfl
  · exact any_one _ (v := vjnS_2_0 z 23) tabok_jnS hojnS_2_23 (⟨32, by kernel_rfl, by kernel_rfl⟩) (by kernel_rfl) (by kernel_rfl) (by kernel_rfl) (anjnS_2_9 hc)
  · exact any_one _ (v := vjnS_2_0 z 26) tabok_jnS hojnS_2_26 (⟨32, by kernel_rfl, by kernel_rfl⟩) (by kernel_rfl) (by kernel_rfl) (by kernel_rfl) (anjnS_2_20 hc)
theorem anjnS_2_22 {z : zjnS_2} (hc : cjnS_2_0 z) : ajnS_2_0 z 10 25165823 (qjnS_2_0 z 25165823 []) (HjnS_2_0 z []) := by
  refine any_next [23, 25] (by kernel_rfl) (by decide) fun i hi => ?_
  rcases two2 hi with rfl | rfl
  · exact any_one _ (v := vjnS_2_0 z 23) tabok_jnS hojnS_2_23 (⟨32, by kernel_rfl, by kernel_rfl⟩) (by kernel_rfl) (by kernel_rfl) (by kernel_rfl) (anjnS_2_10 hc)
  · exact any_one _ (v := vjnS_2_0 z 25) tabok_jnS hojnS_2_25 (⟨32, by kernel_rfl, by kernel_rfl⟩) (by kernel_rfl) (by kernel_rfl) (by kernel_rfl) (anjnS_2_21 hc)
theorem anjnS_2_23 {z : zjnS_2} (hc : cjnS_2_0 z) : ajnS_2_0 z 11 8388607 (qjnS_2_0 z 8388607 []) (HjnS_2_0 z []) := by
  refine any_next [23, 24] (by kernel_rfl) (by decide) fun i hi => ?_
  rcases two2 hi with rfl | rfl
  · exact any_one _ (v := vjnS_2_0 z 23) tabok_jnS hojnS_2_23 (⟨32, by kernel_rfl, by kernel_rfl⟩) (by kernel_rfl) (by kernel_rfl) (by kernel_rfl) (anjnS_2_11 hc)
  · exact any_one _ (v := vjnS_2_0 z 24) tabok_jnS hojnS_2_24 (⟨32, by kernel_rfl, by kernel_rfl⟩) (by kernel_rfl) (by kernel_rfl) (by kernel_rfl) (anjnS_2_22 hc)
theorem anjnS_2_24 {z : zjnS_2} (hc : cjnS_2_0 z) : ajnS_2_0 z 5 2134900735 (qjnS_2_0 z 2134900735 [(47, .sl 7 0 1)]) (HjnS_2_0 z [1]) := by
  refine any_next [22] (by kernel_rfl) (by decide) fun i hi => ?_
  obtain rfl := two1 hi
  · exact any_one _ (v := vjnS_2_0 z 22) tabok_jnS hojnS_2_22 (⟨32, by kernel_rfl, by kernel_rfl⟩) (by
      refine Eq.trans (b := (match (yjnS_211 z)[0 + ((yjnS_21 z)).toNat * 1]? with | some e25 => some ((.fl .f32 e25), [.at (yjnS_22 z) (.as 1 [.sl 2 0 (yjnS_23 z), .sl 3 0 (yjnS_24 z)]), .at (yjnS_25 z) (.as 1 [.sl 4 0 (yjnS_26 z), .sl 5 0 (yjnS_27 z)]), .at (yjnS_28 z) (.fl .f32 (yjnS_29 z)), .at (yjnS_210 z) (.fl .f32 (yjnS_211 z)), .at (yjnS_212 z) (.fl .f32 (yjnS_213 z)), .at (yjnS_214 z) (.fl .f32 (yjnS_215 z)), .at true (.as 1 [.nil, .nil]), .at true (.fl .f32 [((yjnS_215 z)[0]?).getD 0])]) | none => none)) (by kernel_rfl) ?_
      rw [someD (hc.2.2.2.2.1)]
      try rfl) (by kernel_rfl) (by kernel_rfl) (anjnS_2_16 hc)
theorem anjnS_2_25 {z : zjnS_2} (hc : cjnS_2_0 z) : ajnS_2_0 z 6 1061158911 (qjnS_2_0 z 1061158911 []) (HjnS_2_0 z []) := by
  refine any_next [22, 30] (by kernel_rfl) (by decide) fun i hi => ?_
  rcases two2 hi with rfl | rfl
  · exact any_one _ (v := vjnS_2_0 z 22) tabok_jnS hojnS_2_22 (⟨32, by kernel_rfl, by kernel_rfl⟩) (by
      refine Eq.trans (b := (match (yjnS_211 z)[0 + ((yjnS_21 z)).toNat * 1]? with | some e23 => some ((.fl .f32 e23), [.at (yjnS_22 z) (.as 1 [.sl 2 0 (yjnS_23 z), .sl 3 0 (yjnS_24 z)]), .at (yjnS_25 z) (.as 1 [.sl 4 0 (yjnS_26 z), .sl 5 0 (yjnS_27 z)]), .at (yjnS_28 z) (.fl .f32 (yjnS_29 z)), .at (yjnS_210 z) (.fl .f32 (yjnS_211 z)), .at (yjnS_212 z) (.fl .f32 (yjnS_213 z)), .at (yjnS_214 z) (.fl .f32 (yjnS_215 z)), .at true (.as 1 [.nil, .nil])]) | none => none)) (by kernel_rfl) ?_
      rw [someD (hc.2.2.2.2.1)]
      try rfl) (by kernel_rfl) (by kernel_rfl) (anjnS_2_17 hc)
  · exact any_one _ (v := .sl 7 0 1) tabok_jnS hojnS_2_30 (⟨32, by kernel_rfl, by kernel_rfl⟩) (by kernel_rfl) (by kernel_rfl) (by kernel_rfl) (anjnS_2_24 hc)
theorem anjnS_2_26 {z : zjnS_2} (hc : cjnS_2_0 z) : ajnS_2_0 z 7 524287999 (qjnS_2_0 z 524287999 []) (HjnS_2_0 z []) := by
  refine any_next [22, 29] (by kernel_rfl) (by decide) fun i hi => ?_
  rcases two2 hi with rfl | rfl
  · exact any_one _ (v := vjnS_2_0 z 22) tabok_jnS hojnS_2_22 (⟨32, by kernel_rfl, by kernel_rfl⟩) (by
      refine Eq.trans (b := (match (yjnS_211 z)[0 + ((yjnS_21 z)).toNat * 1]? with | some e20 => some ((.fl .f32 e20), [.at (yjnS_22 z) (.as 1 [.sl 2 0 (yjnS_23 z), .sl 3 0 (yjnS_24 z)]), .at (yjnS_25 z) (.as 1 [.sl 4 0 (yjnS_26 z), .sl 5 0 (yjnS_27 z)]), .at (yjnS_28 z) (.fl .f32 (yjnS_29 z)), .at (yjnS_210 z) (.fl .f32 (yjnS_211 z)), .at (yjnS_212 z) (.fl .f32 (yjnS_213 z)), .at (yjnS_214 z) (.fl .f32 (yjnS_215 z)), .at true (.as 1 [.nil, .nil])]) | none => none)) (by kernel_rfl) ?_
      rw [someD (hc.2.2.2.2.1)]
      try rfl) (by kernel_rfl) (by kernel_rfl) (anjnS_2_18 hc)
  · exact any_one _ (v := vjnS_2_0 z 29) tabok_jnS hojnS_2_29 (⟨32, by kernel_rfl, by kernel_rfl⟩) (by
      refine Eq.trans (b := (match (yjnS_215 z)[0]? with | some e26 => some ((.fl .f32 e26), [.at (yjnS_22 z) (.as 1 [.sl 2 0 (yjnS_23 z), .sl 3 0 (yjnS_24 z)]), .at (yjnS_25 z) (.as 1 [.sl 4 0 (yjnS_26 z), .sl 5 0 (yjnS_27 z)]), .at (yjnS_28 z) (.fl .f32 (yjnS_29 z)), .at (yjnS_210 z) (.fl .f32 (yjnS_211 z)), .at (yjnS_212 z) (.fl .f32 (yjnS_213 z)), .at (yjnS_214 z) (.fl .f32 (yjnS_215 z)), .at true (.as 1 [.nil, .nil])]) | none => none)) (by kernel_rfl) ?_
      rw [someD (hc.2.2.2.2.2.2.1)]
      try rfl) (by kernel_rfl) (by kernel_rfl) (anjnS_2_25 hc)
theorem anjnS_2_27 {z : zjnS_2} (hc : cjnS_2_0 z) : ajnS_2_0 z 8 255852543 (qjnS_2_0 z 255852543 []) (HjnS_2_0 z []) := by
  refine any_next [22, 28] (by kernel_rfl) (by decide) fun i hi => ?_
  rcases two2 hi with rfl | rfl
  · exact any_one _ (v := vjnS_2_0 z 22) tabok_jnS hojnS_2_22 (⟨32, by kernel_rfl, by kernel_rfl⟩) (by
      refine Eq.trans (b := (match (yjnS_211 z)[0 + ((yjnS_21 z)).toNat * 1]? with | some e18 => some ((.fl .f32 e18), [.at (yjnS_22 z) (.as 1 [.sl 2 0 (yjnS_23 z), .sl 3 0 (yjnS_24 z)]), .at (yjnS_25 z) (.as 1 [.sl 4 0 (yjnS_26 z), .sl 5 0 (yjnS_27 z)]), .at (yjnS_28 z) (.fl .f32 (yjnS_29 z)), .at (yjnS_210 z) (.fl .f32 (yjnS_211 z)), .at (yjnS_212 z) (.fl .f32 (yjnS_213 z)), .at (yjnS_214 z) (.fl .f32 (yjnS_215 z)), .at true (.as 1 [.nil, .nil])]) | none => none)) (by kernel_rfl) ?_
      rw [someD (hc.2.2.2.2.1)]
      try rfl) (by kernel_rfl) (by kernel_rfl) (anjnS_2_19 hc)
  · exact any_one _ (v := vjnS_2_0 z 28) tabok_jnS hojnS_2_28 (⟨32, by kernel_rfl, by kernel_rfl⟩) (by
      refine Eq.trans (b := (match decide (0 ≤ (0 : Int) ∧ (0 : Int) < (((yjnS_27 z) : Nat) : Int)) with | true => some ((.ptr 5 0), [.at (yjnS_22 z) (.as 1 [.sl 2 0 (yjnS_23 z), .sl 3 0 (yjnS_24 z)]), .at (yjnS_25 z) (.as 1 [.sl 4 0 (yjnS_26 z), .sl 5 0 (yjnS_27 z)]), .at (yjnS_28 z) (.fl .f32 (yjnS_29 z)), .at (yjnS_210 z) (.fl .f32 (yjnS_211 z)), .at (yjnS_212 z) (.fl .f32 (yjnS_213 z)), .at (yjnS_214 z) (.fl .f32 (yjnS_215 z)), .at true (.as 1 [.nil, .nil])]) | false => none)) (by kernel_rfl) ?_
      rw [hc.2.2.2.2.2.1]
      try rfl) (by kernel_rfl) (by kernel_rfl) (anjnS_2_26 hc)
theorem anjnS_2_28 {z : zjnS_2} (hc : cjnS_2_0 z) : ajnS_2_0 z 9 121634815 (qjnS_2_0 z 121634815 []) (HjnS_2_0 z []) := by
  refine any_next [22, 27] (by kernel_rfl) (by decide) fun i hi => ?_
  rcases two2 hi with rfl | rfl
  · exact any_one _ (v := vjnS_2_0 z 22) tabok_jnS hojnS_2_22 (⟨32, by kernel_rfl, by kernel_rfl⟩) (by
      refine Eq.trans (b := (match (yjnS_211 z)[0 + ((yjnS_21 z)).toNat * 1]? with | some e16 => some ((.fl .f32 e16), [.at (yjnS_22 z) (.as 1 [.sl 2 0 (yjnS_23 z), .sl 3 0 (yjnS_24 z)]), .at (yjnS_25 z) (.as 1 [.sl 4 0 (yjnS_26 z), .sl 5 0 (yjnS_27 z)]), .at (yjnS_28 z) (.fl .f32 (yjnS_29 z)), .at (yjnS_210 z) (.fl .f32 (yjnS_211 z)), .at (yjnS_212 z) (.fl .f32 (yjnS_213 z)), .at (yjnS_214 z) (.fl .f32 (yjnS_215 z)), .at true (.as 1 [.nil, .nil])]) | none => none)) (by kernel_rfl) ?_
      rw [someD (hc.2.2.2.2.1)]
      try rfl) (by kernel_rfl) (by kernel_rfl) (anjnS_2_20 hc)
  · exact any_one _ (v := vjnS_2_0 z 27) tabok_jnS hojnS_2_27 (⟨32, by kernel_rfl, by kernel_rfl⟩) (by kernel_rfl) (by kernel_rfl) (by kernel_rfl) (anjnS_2_27 hc)
theorem anjnS_2_29 {z : zjnS_2} (hc : cjnS_2_0 z) : ajnS_2_0 z 10 54525951 (qjnS_2_0 z 54525951 []) (HjnS_2_0 z []) := by
  refine any_next [22, 26] (by kernel_rfl) (by decide) fun i hi => ?_
  rcases two2 hi with rfl | rfl
  · exact any_one _ (v := vjnS_2_0 z 22) tabok_jnS hojnS_2_22 (⟨32, by kernel_rfl, by kernel_rfl⟩) (by
      refine Eq.trans (b := (match (yjnS_211 z)[0 + ((yjnS_21 z)).toNat * 1]? with | some e14 => some ((.fl .f32 e14), [.at (yjnS_22 z) (.as 1 [.sl 2 0 (yjnS_23 z), .sl 3 0 (yjnS_24 z)]), .at (yjnS_25 z) (.as 1 [.sl 4 0 (yjnS_26 z), .sl 5 0 (yjnS_27 z)]), .at (yjnS_28 z) (.fl .f32 (yjnS_29 z)), .at (yjnS_210 z) (.fl .f32 (yjnS_211 z)), .at (yjnS_212 z) (.fl .f32 (yjnS_213 z)), .at (yjnS_214 z) (.fl .f32 (yjnS_215 z)), .at true (.as 1 [.nil, .nil])]) | none => none)) (by kernel_rfl) ?_
      rw [someD (hc.2.2.2.2.1)]
      try rfl) (by kernel_rfl) (by kernel_rfl) (anjnS_2_21 hc)
  · exact any_one _ (v := vjnS_2_0 z 26) tabok_jnS hojnS_2_26 (⟨32, by kernel_rfl, by kernel_rfl⟩) (by kernel_rfl) (by kernel_rfl) (by kernel_rfl) (anjnS_2_28 hc)
theorem anjnS_2_30 {z : zjnS_2} (hc : cjnS_2_0 z) : ajnS_2_0 z 11 20971519 (qjnS_2_0 z 20971519 []) (HjnS_2_0 z []) := by
  refine any_next [22, 25] (by kernel_rfl) (by decide) fun i hi => ?_
  rcases two2 hi with rfl | rfl
  · exact any_one _ (v := vjnS_2_0 z 22) tabok_jnS hojnS_2_22 (⟨32, by kernel_rfl, by kernel_rfl⟩) (by
      refine Eq.trans (b := (match (yjnS_211 z)[0 + ((yjnS_21 z)).toNat * 1]? with | some e12 => some ((.fl .f32 e12), [.at (yjnS_22 z) (.as 1 [.sl 2 0 (yjnS_23 z), .sl 3 0 (yjnS_24 z)]), .at (yjnS_25 z) (.as 1 [.sl 4 0 (yjnS_26 z), .sl 5 0 (yjnS_27 z)]), .at (yjnS_28 z) (.fl .f32 (yjnS_29 z)), .at (yjnS_210 z) (.fl .f32 (yjnS_211 z)), .at (yjnS_212 z) (.fl .f32 (yjnS_213 z)), .at (yjnS_214 z) (.fl .f32 (yjnS_215 z)), .at true (.as 1 [.nil, .nil])]) | none => none)) (by kernel_rfl) ?_
      rw [someD (hc.2.2.2.2.1)]
      try rfl) (by kernel_rfl) (by kernel_rfl) (anjnS_2_22 hc)
  · exact any_one _ (v := vjnS_2_0 z 25) tabok_jnS hojnS_2_25 (⟨32, by kernel_rfl, by kernel_rfl⟩) (by kernel_rfl) (by kernel_rfl) (by kernel_rfl) (anjnS_2_29 hc)
theorem anjnS_2_31 {z : zjnS_2} (hc : cjnS_2_0 z) : ajnS_2_0 z 12 4194303 (qjnS_2_0 z 4194303 []) (HjnS_2_0 z []) := by
  refine any_next [22, 24] (by kernel_rfl) (by decide) fun i hi => ?_
  rcases two2 hi with rfl | rfl
  · exact any_one _ (v := vjnS_2_0 z 22) tabok_jnS hojnS_2_22 (⟨32, by kernel_rfl, by kernel_rfl⟩) (by
      refine Eq.trans (b := (match (yjnS_211 z)[0 + ((yjnS_21 z)).toNat * 1]? with | some e10 => some ((.fl .f32 e10), [.at (yjnS_22 z) (.as 1 [.sl 2 0 (yjnS_23 z), .sl 3 0 (yjnS_24 z)]), .at (yjnS_25 z) (.as 1 [.sl 4 0 (yjnS_26 z), .sl 5 0 (yjnS_27 z)]), .at (yjnS_28 z) (.fl .f32 (yjnS_29 z)), .at (yjnS_210 z) (.fl .f32 (yjnS_211 z)), .at (yjnS_212 z) (.fl .f32 (yjnS_213 z)), .at (yjnS_214 z) (.fl .f32 (yjnS_215 z)), .at true (.as 1 [.nil, .nil])]) | none => none)) (by kernel_rfl) ?_
      rw [someD (hc.2.2.2.2.1)]
      try rfl) (by kernel_rfl) (by kernel_rfl) (anjnS_2_23 hc)
  · exact any_one _ (v := vjnS_2_0 z 24) tabok_jnS hojnS_2_24 (⟨32, by kernel_rfl, by kernel_rfl⟩) (by kernel_rfl) (by kernel_rfl) (by kernel_rfl) (anjnS_2_30 hc)
theorem anjnS_2_32 {z : zjnS_2} (hc : cjnS_2_0 z) : ajnS_2_0 z 6 2132803583 (qjnS_2_0 z 2132803583 [(47, .sl 7 0 1)]) (HjnS_2_0 z [1]) := by
  refine any_next [21] (by kernel_rfl) (by decide) fun i hi => ?_
  obtain rfl := two1 hi
  · exact any_one _ (v := vjnS_2_0 z 21) tabok_jnS hojnS_2_21 (⟨32, by kernel_rfl, by kernel_rfl⟩) (by
      refine Eq.trans (b := (match decide (0 ≤ ((yjnS_21 z) : Int) ∧ ((yjnS_21 z) : Int) < (((yjnS_24 z) : Nat) : Int)) with | true => some ((.ptr 3 (0 + ((yjnS_21 z)).toNat * 1)), [.at (yjnS_22 z) (.as 1 [.sl 2 0 (yjnS_23 z), .sl 3 0 (yjnS_24 z)]), .at (yjnS_25 z) (.as 1 [.sl 4 0 (yjnS_26 z), .sl 5 0 (yjnS_27 z)]), .at (yjnS_28 z) (.fl .f32 (yjnS_29 z)), .at (yjnS_210 z) (.fl .f32 (yjnS_211 z)), .at (yjnS_212 z) (.fl .f32 (yjnS_213 z)), .at (yjnS_214 z) (.fl .f32 (yjnS_215 z)), .at true (.as 1 [.nil, .nil]), .at true (.fl .f32 [((yjnS_215 z)[0]?).getD 0])]) | false => none)) (by kernel_rfl) ?_
      rw [hc.2.2.2.1]
      try rfl) (by kernel_rfl) (by kernel_rfl) (anjnS_2_24 hc)
theorem anjnS_2_33 {z : zjnS_2} (hc : cjnS_2_0 z) : ajnS_2_0 z 7 1059061759 (qjnS_2_0 z 1059061759 []) (HjnS_2_0 z []) := by
  refine any_next [21, 30] (by kernel_rfl) (by decide) fun i hi => ?_
  rcases two2 hi with rfl | rfl
  · exact any_one _ (v := vjnS_2_0 z 21) tabok_jnS hojnS_2_21 (⟨32, by kernel_rfl, by kernel_rfl⟩) (by
      refine Eq.trans (b := (match decide (0 ≤ ((yjnS_21 z) : Int) ∧ ((yjnS_21 z) : Int) < (((yjnS_24 z) : Nat) : Int)) with | true => some ((.ptr 3 (0 + ((yjnS_21 z)).toNat * 1)), [.at (yjnS_22 z) (.as 1 [.sl 2 0 (yjnS_23 z), .sl 3 0 (yjnS_24 z)]), .at (yjnS_25 z) (.as 1 [.sl 4 0 (yjnS_26 z), .sl 5 0 (yjnS_27 z)]), .at (yjnS_28 z) (.fl .f32 (yjnS_29 z)), .at (yjnS_210 z) (.fl .f32 (yjnS_211 z)), .at (yjnS_212 z) (.fl .f32 (yjnS_213 z)), .at (yjnS_214 z) (.fl .f32 (yjnS_215 z)), .at true (.as 1 [.nil, .nil])]) | false => none)) (by kernel_rfl) ?_
      rw [hc.2.2.2.1]
      try rfl) (by kernel_rfl) (by kernel_rfl) (anjnS_2_25 hc)
  · exact any_one _ (v := .sl 7 0 1) tabok_jnS hojnS_2_30 (⟨32, by kernel_rfl, by kernel_rfl⟩) (by kernel_rfl) (by kernel_rfl) (by kernel_rfl) (anjnS_2_32 hc)
theorem anjnS_2_34 {z : zjnS_2} (hc : cjnS_2_0 z) : ajnS_2_0 z 8 522190847 (qjnS_2_0 z 522190847 []) (HjnS_2_0 z []) := by
  refine any_next [21, 29] (by kernel_rfl) (by decide) fun i hi => ?_
  rcases two2 hi with rfl | rfl
  · exact any_one _ (v := vjnS_2_0 z 21) tabok_jnS hojnS_2_21 (⟨32, by kernel_rfl, by kernel_rfl⟩) (by
      refine Eq.trans (b := (match decide (0 ≤ ((yjnS_21 z) : Int) ∧ ((yjnS_21 z) : Int) < (((yjnS_24 z) : Nat) : Int)) with | true => some ((.ptr 3 (0 + ((yjnS_21 z)).toNat * 1)), [.at (yjnS_22 z) (.as 1 [.sl 2 0 (yjnS_23 z), .sl 3 0 (yjnS_24 z)]), .at (yjnS_25 z) (.as 1 [.sl 4 0 (yjnS_26 z), .sl 5 0 (yjnS_27 z)]), .at (yjnS_28 z) (.fl .f32 (yjnS_29 z)), .at (yjnS_210 z) (.fl .f32 (yjnS_211 z)), .at (yjnS_212 z) (.fl .f32 (yjnS_213 z)), .at (yjnS_214 z) (.fl .f32 (yjnS_215 z)), .at true (.as 1 [.nil, .nil])]) | false => none)) (by kernel_rfl) ?_
      rw [hc.2.2.2.1]
      try rfl) (by kernel_rfl) (by kernel_rfl) (anjnS_2_26 hc)
  · exact any_one _ (v := vjnS_2_0 z 29) tabok_jnS hojnS_2_29 (⟨32, by kernel_rfl, by kernel_rfl⟩) (by
      refine Eq.trans (b := (match (yjnS_215 z)[0]? with | some e28 => some ((.fl .f32 e28), [.at (yjnS_22 z) (.as 1 [.sl 2 0 (yjnS_23 z), .sl 3 0 (yjnS_24 z)]), .at (yjnS_25 z) (.as 1 [.sl 4 0 (yjnS_26 z), .sl 5 0 (yjnS_27 z)]), .at (yjnS_28 z) (.fl .f32 (yjnS_29 z)), .at (yjnS_210 z) (.fl .f32 (yjnS_211 z)), .at (yjnS_212 z) (.fl .f32 (yjnS_213 z)), .at (yjnS_214 z) (.fl .f32 (yjnS_215 z)), .at true (.as 1 [.nil, .nil])]) | none => none)) (by kernel_rfl) ?_
      rw [someD (hc.2.2.2.2.2.2.1)]
      try rfl) (by kernel_rfl) (by kernel_rfl) (anjnS_2_33 hc)
theorem anjnS_2_35 {z : zjnS_2} (hc : cjnS_2_0 z) : ajnS_2_0 z 9 253755391 (qjnS_2_0 z 253755391 []) (HjnS_2_0 z []) := by
  refine any_next [21, 28] (by kernel_rfl) (by decide) fun i hi => ?_
  rcases two2 hi with rfl | rfl
  · exact any_one _ (v := vjnS_2_0 z 21) tabok_jnS hojnS_2_21 (⟨32, by kernel_rfl, by kernel_rfl⟩) (by
      refine Eq.trans (b := (match decide (0 ≤ ((yjnS_21 z) : Int) ∧ ((yjnS_21 z) : Int) < (((yjnS_24 z) : Nat) : Int)) with | true => some ((.ptr 3 (0 + ((yjnS_21 z)).toNat * 1)), [.at (yjnS_22 z) (.as 1 [.sl 2 0 (yjnS_23 z), .sl 3 0 (yjnS_24 z)]), .at (yjnS_25 z) (.as 1 [.sl 4 0 (yjnS_26 z), .sl 5 0 (yjnS_27 z)]), .at (yjnS_28 z) (.fl .f32 (yjnS_29 z)), .at (yjnS_210 z) (.fl .f32 (yjnS_211 z)), .at (yjnS_212 z) (.fl .f32 (yjnS_213 z)), .at (yjnS_214 z) (.fl .f32 (yjnS_215 z)), .at true (.as 1 [.nil, .nil])]) | false => none)) (by kernel_rfl) ?_
      rw [hc.2.2.2.1]
      try rfl) (by kernel_rfl) (by kernel_rfl) (anjnS_2_27 hc)
  · exact any_one _ (v := vjnS_2_0 z 28) tabok_jnS hojnS_2_28 (⟨32, by kernel_rfl, by kernel_rfl⟩) (by
      refine Eq.trans (b := (match decide (0 ≤ (0 : Int) ∧ (0 : Int) < (((yjnS_27 z) : Nat) : Int)) with | true => some ((.ptr 5 0), [.at (yjnS_22 z) (.as 1 [.sl 2 0 (yjnS_23 z), .sl 3 0 (yjnS_24 z)]), .at (yjnS_25 z) (.as 1 [.sl 4 0 (yjnS_26 z), .sl 5 0 (yjnS_27 z)]), .at (yjnS_28 z) (.fl .f32 (yjnS_29 z)), .at (yjnS_210 z) (.fl .f32 (yjnS_211 z)), .at (yjnS_212 z) (.fl .f32 (yjnS_213 z)), .at (yjnS_214 z) (.fl .f32 (yjnS_215 z)), .at true (.as 1 [.nil, .nil])]) | false => none)) (by kernel_rfl) ?_
      rw [hc.2.2.2.2.2.1]
      try rfl) (by kernel_rfl) (by kernel_rfl) (anjnS_2_34 hc)
theorem anjnS_2_36 {z : zjnS_2} (hc : cjnS_2_0 z) : ajnS_2_0 z 10 119537663 (qjnS_2_0 z 119537663 []) (HjnS_2_0 z []) := by
  refine any_next [21, 27] (by kernel_rfl) (by decide) fun i hi => ?_
  rcases two2 hi with rfl | rfl
  · exact any_one _ (v := vjnS_2_0 z 21) tabok_jnS hojnS_2_21 (⟨32, by kernel_rfl, by kernel_rfl⟩) (by
      refine Eq.trans (b := (match decide (0 ≤ ((yjnS_21 z) : Int) ∧ ((yjnS_21 z) : Int) < (((yjnS_24 z) : Nat) : Int)) with | true => some ((.ptr 3 (0 + ((yjnS_21 z)).toNat * 1)), [.at (yjnS_22 z) (.as 1 [.sl 2 0 (yjnS_23 z), .sl 3 0 (yjnS_24 z)]), .at (yjnS_25 z) (.as 1 [.sl 4 0 (yjnS_26 z), .sl 5 0 (yjnS_27 z)]), .at (yjnS_28 z) (.fl .f32 (yjnS_29 z)), .at (yjnS_210 z) (.fl .f32 (yjnS_211 z)), .at (yjnS_212 z) (.fl .f32 (yjnS_213 z)), .at (yjnS_214 z) (.fl .f32 (yjnS_215 z)), .at true (.as 1 [.nil, .nil])]) | false => none)) (by kernel_rfl) ?_
      rw [hc.2.2.2.1]
      try rfl) (by kernel_rfl) (by kernel_rfl) (anjnS_2_28 hc)
  · exact any_one _ (v := vjnS_2_0 z 27) tabok_jnS hojnS_2_27 (⟨32, by kernel_rfl, by kernel_rfl⟩) (by kernel_rfl) (by kernel_rfl) (by kernel_rfl) (anjnS_2_35 hc)
theorem anjnS_2_37 {z : zjnS_2} (hc : cjnS_2_0 z) : ajnS_2_0 z 11 52428799 (qjnS_2_0 z 52428799 []) (HjnS_2_0 z []) := by
  refine any_next [21, 26] (by kernel_rfl) (by decide) fun i hi => ?_
  rcases two2 hi with rfl | rfl
  · exact any_one _ (v := vjnS_2_0 z 21) tabok_jnS hojnS_2_21 (⟨32, by kernel_rfl, by kernel_rfl⟩) (by
      refine Eq.trans (b := (match decide (0 ≤ ((yjnS_21 z) : Int) ∧ ((yjnS_21 z) : Int) < (((yjnS_24 z) : Nat) : Int)) with | true => some ((.ptr 3 (0 + ((yjnS_21 z)).toNat * 1)), [.at (yjnS_22 z) (.as 1 [.sl 2 0 (yjnS_23 z), .sl 3 0 (yjnS_24 z)]), .at (yjnS_25 z) (.as 1 [.sl 4 0 (yjnS_26 z), .sl 5 0 (yjnS_27 z)]), .at (yjnS_28 z) (.fl .f32 (yjnS_29 z)), .at (yjnS_210 z) (.fl .f32 (yjnS_211 z)), .at (yjnS_212 z) (.fl .f32 (yjnS_213 z)), .at (yjnS_214 z) (.fl .f32 (yjnS_215 z)), .at true (.as 1 [.nil, .nil])]) | false => none)) (by kernel_rfl) ?_
      rw [hc.2.2.2.1]
      try rfl) (by kernel_rfl) (by kernel_rfl) (anjnS_2_29 hc)
  · exact any_one _ (v := vjnS_2_0 z 26) tabok_jnS hojnS_2_26 (⟨32, by kernel_rfl, by kernel_rfl⟩) (by kernel_rfl) (by kernel_rfl) (by kernel_rfl) (anjnS_2_36 hc)
theorem anjnS_2_38 {z : zjnS_2} (hc : cjnS_2_0 z) : ajnS_2_0 z 12 18874367 (qjnS_2_0 z 18874367 []) (HjnS_2_0 z []) := by
  refine any_next [21, 25] (by kernel_rfl) (by decide) fun i hi => ?_
  rcases two2 hi with rfl | rfl
  · exact any_one _ (v := vjnS_2_0 z 21) tabok_jnS hojnS_2_21 (⟨32, by kernel_rfl, by kernel_rfl⟩) (by
      refine Eq.trans (b := (match decide (0 ≤ ((yjnS_21 z) : Int) ∧ ((yjnS_21 z) : Int) < (((yjnS_24 z) : Nat) : Int)) with | true => some ((.ptr 3 (0 + ((yjnS_21 z)).toNat * 1)), [.at (yjnS_22 z) (.as 1 [.sl 2 0 (yjnS_23 z), .sl 3 0 (yjnS_24 z)]), .at (yjnS_25 z) (.as 1 [.sl 4 0 (yjnS_26 z), .sl 5 0 (yjnS_27 z)]), .at (yjnS_28 z) (.fl .f32 (yjnS_29 z)), .at (yjnS_210 z) (.fl .f32 (yjnS_211 z)), .at (yjnS_212 z) (.fl .f32 (yjnS_213 z)), .at (yjnS_214 z) (.fl .f32 (yjnS_215 z)), .at true (.as 1 [.nil, .nil])]) | false => none)) (by kernel_rfl) ?_
      rw [hc.2.2.2.1]
      try rfl) (by kernel_rfl) (by kernel_rfl) (anjnS_2_30 hc)
  · exact any_one _ (v := vjnS_2_0 z 25) tabok_jnS hojnS_2_25 (⟨32, by kernel_rfl, by kernel_rfl⟩) (by kernel_rfl) (by kernel_rfl) (by kernel_rfl) (anjnS_2_37 hc)
theorem anjnS_2_39 {z : zjnS_2} (hc : cjnS_2_0 z) : ajnS_2_0 z 13 2097151 (qjnS_2_0 z 2097151 []) (HjnS_2_0 z []) := by
  refine any_next [21, 24] (by kernel_rfl) (by decide) fun i hi => ?_
  rcases two2 hi with rfl | rfl
  · exact any_one _ (v := vjnS_2_0 z 21) tabok_jnS hojnS_2_21 (⟨32, by kernel_rfl, by kernel_rfl⟩) (by
      refine Eq.trans (b := (match decide (0 ≤ ((yjnS_21 z) : Int) ∧ ((yjnS_21 z) : Int) < (((yjnS_24 z) : Nat) : Int)) with | true => some ((.ptr 3 (0 + ((yjnS_21 z)).toNat * 1)), [.at (yjnS_22 z) (.as 1 [.sl 2 0 (yjnS_23 z), .sl 3 0 (yjnS_24 z)]), .at (yjnS_25 z) (.as 1 [.sl 4 0 (yjnS_26 z), .sl 5 0 (yjnS_27 z)]), .at (yjnS_28 z) (.fl .f32 (yjnS_29 z)), .at (yjnS_210 z) (.fl .f32 (yjnS_211 z)), .at (yjnS_212 z) (.fl .f32 (yjnS_213 z)), .at (yjnS_214 z) (.fl .f32 (yjnS_215 z)), .at true (.as 1 [.nil, .nil])]) | false => none)) (by kernel_rfl) ?_
      rw [hc.2.2.2.1]
      try rfl) (by kernel_rfl) (by kernel_rfl) (anjnS_2_31 hc)
  · exact any_one _ (v := vjnS_2_0 z 24) tabok_jnS hojnS_2_24 (⟨32, by kernel_rfl, by kernel_rfl⟩) (by kernel_rfl) (by kernel_rfl) (by kernel_rfl) (anjnS_2_38 hc)
theorem anjnS_2_40 {z : zjnS_2} (hc : cjnS_2_0 z) : ajnS_2_0 z 7 2131755007 (qjnS_2_0 z 2131755007 [(47, .sl 7 0 1)]) (HjnS_2_0 z [1]) := by
  refine any_next [20] (by kernel_rfl) (by decide) fun i hi => ?_
  obtain rfl := two1 hi
  · exact any_one _ (v := vjnS_2_0 z 20) tabok_jnS hojnS_2_20 (⟨32, by kernel_rfl, by kernel_rfl⟩) (by kernel_rfl) (by kernel_rfl) (by kernel_rfl) (anjnS_2_32 hc)
theorem anjnS_2_41 {z : zjnS_2} (hc : cjnS_2_0 z) : ajnS_2_0 z 8 1058013183 (qjnS_2_0 z 1058013183 []) (HjnS_2_0 z []) := by
  refine any_next [20, 30] (by kernel_rfl) (by decide) fun i hi => ?_
  rcases two2 hi with rfl | rfl
  · exact any_one _ (v := vjnS_2_0 z 20) tabok_jnS hojnS_2_20 (⟨32, by kernel_rfl, by kernel_rfl⟩) (by kernel_rfl) (by kernel_rfl) (by kernel_rfl) (anjnS_2_33 hc)
  · exact any_one _ (v := .sl 7 0 1) tabok_jnS hojnS_2_30 (⟨32, by kernel_rfl, by kernel_rfl⟩) (by kernel_rfl) (by kernel_rfl) (by kernel_rfl) (anjnS_2_40 hc)
theorem anjnS_2_42 {z : zjnS_2} (hc : cjnS_2_0 z) : ajnS_2_0 z 9 521142271 (qjnS_2_0 z 521142271 []) (HjnS_2_0 z []) := by
  refine any_next [20, 29] (by kernel_rfl) (by decide) fun i hi => ?_
  rcases two2 hi with rfl | rfl
  · exact any_one _ (v := vjnS_2_0 z 20) tabok_jnS hojnS_2_20 (⟨32, by kernel_rfl, by kernel_rfl⟩) (by kernel_rfl) (by kernel_rfl) (by kernel_rfl) (anjnS_2_34 hc)
  · exact any_one _ (v := vjnS_2_0 z 29) tabok_jnS hojnS_2_29 (⟨32, by kernel_rfl, by kernel_rfl⟩) (by
      refine Eq.trans (b := (match (yjnS_215 z)[0]? with | some e30 => some ((.fl .f32 e30), [.at (yjnS_22 z) (.as 1 [.sl 2 0 (yjnS_23 z), .sl 3 0 (yjnS_24 z)]), .at (yjnS_25 z) (.as 1 [.sl 4 0 (yjnS_26 z), .sl 5 0 (yjnS_27 z)]), .at (yjnS_28 z) (.fl .f32 (yjnS_29 z)), .at (yjnS_210 z) (.fl .f32 (yjnS_211 z)), .at (yjnS_212 z) (.fl .f32 (yjnS_213 z)), .at (yjnS_214 z) (.fl .f32 (yjnS_215 z)), .at true (.as 1 [.nil, .nil])]) | none => none)) (by kernel_rfl) ?_
      rw [someD (hc.2.2.2.2.2.2.1)]
      try rfl) (by kernel_rfl) (by kernel_rfl) (anjnS_2_41 hc)
theorem anjnS_2_43 {z : zjnS_2} (hc : cjnS_2_0 z) : ajnS_2_0 z 10 252706815 (qjnS_2_0 z 252706815 []) (HjnS_2_0 z []) := by
  refine any_next [20, 28] (by kernel_rfl) (by decide) fun i hi => ?_
  rcases two2 hi with rfl | rfl
  · exact any_one _ (v := vjnS_2_0 z 20) tabok_jnS hojnS_2_20 (⟨32, by kernel_rfl, by kernel_rfl⟩) (by kernel_rfl) (by kernel_rfl) (by kernel_rfl) (anjnS_2_35 hc)
  · exact any_one _ (v := vjnS_2_0 z 28) tabok_jnS hojnS_2_28 (⟨32, by kernel_rfl, by kernel_rfl⟩) (by
      refine Eq.trans (b := (match decide (0 ≤ (0 : Int) ∧ (0 : Int) < (((yjnS_27 z) : Nat) : Int)) with | true => some ((.ptr 5 0), [.at (yjnS_22 z) (.as 1 [.sl 2 0 (yjnS_23 z), .sl 3 0 (yjnS_24 z)]), .at (yjnS_25 z) (.as 1 [.sl 4 0 (yjnS_26 z), .sl 5 0 (yjnS_27 z)]), .at (yjnS_28 z) (.fl .f32 (yjnS_29 z)), .at (yjnS_210 z) (.fl .f32 (yjnS_211 z)), .at (yjnS_212 z) (.fl .f32 (yjnS_213 z)), .at (yjnS_214 z) (.fl .f32 (yjnS_215 z)), .at true (.as 1 [.nil, .nil])]) | false => none)) (by kernel_rfl) ?_
      rw [hc.2.2.2.2.2.1]
      try rfl) (by kernel_rfl) (by kernel_rfl) (anjnS_2_42 hc)
theorem anjnS_2_44 {z : zjnS_2} (hc : cjnS_2_0 z) : ajnS_2_0 z 11 118489087 (qjnS_2_0 z 118489087 []) (HjnS_2_0 z []) := by
  refine any_next [20, 27] (by kernel_rfl) (by decide) fun i hi => ?_
  rcases two2 hi with rfl | rfl
  · exact any_one _ (v := vjnS_2_0 z 20) tabok_jnS hojnS_2_20 (⟨32, by kernel_rfl, by kernel_rfl⟩) (by kernel_rfl) (by kernel_rfl) (by kernel_rfl) (anjnS_2_36 hc)
  · exact any_one _ (v := vjnS_2_0 z 27) tabok_jnS hojnS_2_27 (⟨32, by kernel_rfl, by kernel_rfl⟩) (by kernel_rfl) (by kernel_rfl) (by kernel_rfl) (anjnS_2_43 hc)
theorem anjnS_2_45 {z : zjnS_2} (hc : cjnS_2_0 z) : ajnS_2_0 z 12 51380223 (qjnS_2_0 z 51380223 []) (HjnS_2_0 z []) := by
  refine any_next [20, 26] (by kernel_rfl) (by decide) fun i hi => ?_
  rcases two2 hi with rfl | rfl
  · exact any_one _ (v := vjnS_2_0 z 20) tabok_jnS hojnS_2_20 (⟨32, by kernel_rfl, by kernel_rfl⟩) (by kernel_rfl) (by kernel_rfl) (by kernel_rfl) (anjnS_2_37 hc)
  · exact any_one _ (v := vjnS_2_0 z 26) tabok_jnS hojnS_2_26 (⟨32, by kernel_rfl, by kernel_rfl⟩) (by kernel_rfl) (by kernel_rfl) (by kernel_rfl) (anjnS_2_44 hc)
theorem anjnS_2_46 {z : zjnS_2} (hc : cjnS_2_0 z) : ajnS_2_0 z 13 17825791 (qjnS_2_0 z 17825791 []) (HjnS_2_0 z []) := by
  refine any_next [20, 25] (by kernel_rfl) (by decide) fun i hi => ?_
  rcases two2 hi with rfl | rfl
  · exact any_one _ (v := vjnS_2_0 z 20) tabok_jnS hojnS_2_20 (⟨32, by kernel_rfl, by kernel_rfl⟩) (by kernel_rfl) (by kernel_rfl) (by kernel_rfl) (anjnS_2_38 hc)
  · exact any_one _ (v := vjnS_2_0 z 25) tabok_jnS hojnS_2_25 (⟨32, by kernel_rfl, by kernel_rfl⟩) (by kernel_rfl) (by kernel_rfl) (by kernel_rfl) (anjnS_2_45 hc)
theorem anjnS_2_47 {z : zjnS_2} (hc : cjnS_2_0 z) : ajnS_2_0 z 14 1048575 (qjnS_2_0 z 1048575 []) (HjnS_2_0 z []) := by
  refine any_next [20, 24] (by kernel_rfl) (by decide) fun i hi => ?_
  rcases two2 hi with rfl | rfl
  · exact any_one _ (v := vjnS_2_0 z 20) tabok_jnS hojnS_2_20 (⟨32, by kernel_rfl, by kernel_rfl⟩) (by kernel_rfl) (by kernel_rfl) (by kernel_rfl) (anjnS_2_39 hc)
  · exact any_one _ (v := vjnS_2_0 z 24) tabok_jnS hojnS_2_24 (⟨32, by kernel_rfl, by kernel_rfl⟩) (by kernel_rfl) (by kernel_rfl) (by kernel_rfl) (anjnS_2_46 hc)
theorem anjnS_2_48 {z : zjnS_2} (hc : cjnS_2_0 z) : ajnS_2_0 z 7 2132279295 (qjnS_2_0 z 2132279295 [(47, .sl 7 0 1)]) (HjnS_2_0 z [1]) := by
  refine any_next [19] (by kernel_rfl) (by decide) fun i hi => ?_
  obtain rfl := two1 hi
  · exact any_one _ (v := vjnS_2_0 z 19) tabok_jnS hojnS_2_19 (⟨32, by kernel_rfl, by kernel_rfl⟩) (by kernel_rfl) (by kernel_rfl) (by kernel_rfl) (anjnS_2_32 hc)
theorem anjnS_2_49 {z : zjnS_2} (hc : cjnS_2_0 z) : ajnS_2_0 z 8 1058537471 (qjnS_2_0 z 1058537471 []) (HjnS_2_0 z []) := by
  refine any_next [19, 30] (by kernel_rfl) (by decide) fun i hi => ?_
  rcases two2 hi with rfl | rfl
  · exact any_one _ (v := vjnS_2_0 z 19) tabok_jnS hojnS_2_19 (⟨32, by kernel_rfl, by kernel_rfl⟩) (by kernel_rfl) (by kernel_rfl) (by kernel_rfl) (anjnS_2_33 hc)
  · exact any_one _ (v := .sl 7 0 1) tabok_jnS hojnS_2_30 (⟨32, by kernel_rfl, by kernel_rfl⟩) (by kernel_rfl) (by kernel_rfl) (by kernel_rfl) (anjnS_2_48 hc)
theorem anjnS_2_50 {z : zjnS_2} (hc : cjnS_2_0 z) : ajnS_2_0 z 9 521666559 (qjnS_2_0 z 521666559 []) (HjnS_2_0 z []) := by
  refine any_next [19, 29] (by kernel_rfl) (by decide) fun i hi => ?_
  rcases two2 hi with rfl | rfl
  · exact any_one _ (v := vjnS_2_0 z 19) tabok_jnS hojnS_2_19 (⟨32, by kernel_rfl, by kernel_rfl⟩) (by kernel_rfl) (by kernel_rfl) (by kernel_rfl) (anjnS_2_34 hc)
  · exact any_one _ (v := vjnS_2_0 z 29) tabok_jnS hojnS_2_29 (⟨32, by kernel_rfl, by kernel_rfl⟩) (by
      refine Eq.trans (b := (match (yjnS_215 z)[0]? with | some e32 => some ((.fl .f32 e32), [.at (yjnS_22 z) (.as 1 [.sl 2 0 (yjnS_23 z), .sl 3 0 (yjnS_24 z)]), .at (yjnS_25 z) (.as 1 [.sl 4 0 (yjnS_26 z), .sl 5 0 (yjnS_27 z)]), .at (yjnS_28 z) (.fl .f32 (yjnS_29 z)), .at (yjnS_210 z) (.fl .f32 (yjnS_211 z)), .at (yjnS_212 z) (.fl .f32 (yjnS_213 z)), .at (yjnS_214 z) (.fl .f32 (yjnS_215 z)), .at true (.as 1 [.nil, .nil])]) | none => none)) (by kernel_rfl) ?_
      rw [someD (hc.2.2.2.2.2.2.1)]
      try rfl) (by kernel_rfl) (by kernel_rfl) (anjnS_2_49 hc)
theorem anjnS_2_51 {z : zjnS_2} (hc : cjnS_2_0 z) : ajnS_2_0 z 10 253231103 (qjnS_2_0 z 253231103 []) (HjnS_2_0 z []) := by
  refine any_next [19, 28] (by kernel_rfl) (by decide) fun i hi => ?_
  rcases two2 hi with rfl | rfl
  · exact any_one _ (v := vjnS_2_0 z 19) tabok_jnS hojnS_2_19 (⟨32, by kernel_rfl, by kernel_rfl⟩) (by kernel_rfl) (by kernel_rfl) (by kernel_rfl) (anjnS_2_35 hc)
  · exact any_one _ (v := vjnS_2_0 z 28) tabok_jnS hojnS_2_28 (⟨32, by kernel_rfl, by kernel_rfl⟩) (by
      refine Eq.trans (b := (match decide (0 ≤ (0 : Int) ∧ (0 : Int) < (((yjnS_27 z) : Nat) : Int)) with | true => some ((.ptr 5 0), [.at (yjnS_22 z) (.as 1 [.sl 2 0 (yjnS_23 z), .sl 3 0 (yjnS_24 z)]), .at (yjnS_25 z) (.as 1 [.sl 4 0 (yjnS_26 z), .sl 5 0 (yjnS_27 z)]), .at (yjnS_28 z) (.fl .f32 (yjnS_29 z)), .at (yjnS_210 z) (.fl .f32 (yjnS_211 z)), .at (yjnS_212 z) (.fl .f32 (yjnS_213 z)), .at (yjnS_214 z) (.fl .f32 (yjnS_215 z)), .at true (.as 1 [.nil, .nil])]) | false => none)) (by kernel_rfl) ?_
      rw [hc.2.2.2.2.2.1]
      try rfl) (by kernel_rfl) (by kernel_rfl) (anjnS_2_50 hc)
theorem anjnS_2_52 {z : zjnS_2} (hc : cjnS_2_0 z) : ajnS_2_0 z 11 119013375 (qjnS_2_0 z 119013375 []) (HjnS_2_0 z []) := by
  refine any_next [19, 27] (by kernel_rfl) (by decide) fun i hi => ?_
  rcases two2 hi with rfl | rfl
  · exact any_one _ (v := vjnS_2_0 z 19) tabok_jnS hojnS_2_19 (⟨32, by kernel_rfl, by kernel_rfl⟩) (by kernel_rfl) (by kernel_rfl) (by kernel_rfl) (anjnS_2_36 hc)
  · exact any_one _ (v := vjnS_2_0 z 27) tabok_jnS hojnS_2_27 (⟨32, by kernel_rfl, by kernel_rfl⟩) (by kernel_rfl) (by kernel_rfl) (by kernel_rfl) (anjnS_2_51 hc)
theorem anjnS_2_53 {z : zjnS_2} (hc : cjnS_2_0 z) : ajnS_2_0 z 12 51904511 (qjnS_2_0 z 51904511 []) (HjnS_2_0 z []) := by
  refine any_next [19, 26] (by kernel_rfl) (by decide) fun i hi => ?_
  rcases two2 hi with rfl | rfl
  · exact any_one _ (v := vjnS_2_0 z 19) tabok_jnS hojnS_2_19 (⟨32, by kernel_rfl, by kernel_rfl⟩) (by kernel_rfl) (by kernel_rfl) (by kernel_rfl) (anjnS_2_37 hc)
  · exact any_one _ (v := vjnS_2_0 z 26) tabok_jnS hojnS_2_26 (⟨32, by kernel_rfl, by kernel_rfl⟩) (by kernel_rfl) (by kernel_rfl) (by kernel_rfl) (anjnS_2_52 hc)
theorem anjnS_2_54 {z : zjnS_2} (hc : cjnS_2_0 z) : ajnS_2_0 z 13 18350079 (qjnS_2_0 z 18350079 []) (HjnS_2_0 z []) := by
  refine any_next [19, 25] (by kernel_rfl) (by decide) fun i hi => ?_
  rcases two2 hi with rfl | rfl
  · exact any_one _ (v := vjnS_2_0 z 19) tabok_jnS hojnS_2_19 (⟨32, by kernel_rfl, by kernel_rfl⟩) (by kernel_rfl) (by kernel_rfl) (by kernel_rfl) (anjnS_2_38 hc)
  · exact any_one _ (v := vjnS_2_0 z 25) tabok_jnS hojnS_2_25 (⟨32, by kernel_rfl, by kernel_rfl⟩) (by kernel_rfl) (by kernel_rfl) (by kernel_rfl) (anjnS_2_53 hc)
theorem anjnS_2_55 {z : zjnS_2} (hc : cjnS_2_0 z) : ajnS_2_0 z 14 1572863 (qjnS_2_0 z 1572863 []) (HjnS_2_0 z []) := by
  refine any_next [19, 24] (by kernel_rfl) (by decide) fun i hi => ?_
  rcases two2 hi with rfl | rfl
  · exact any_one _ (v := vjnS_2_0 z 19) tabok_jnS hojnS_2_19 (⟨32, by kernel_rfl, by kernel_rfl⟩) (by kernel_rfl) (by kernel_rfl) (by kernel_rfl) (anjnS_2_39 hc)
  · exact any_one _ (v := vjnS_2_0 z 24) tabok_jnS hojnS_2_24 (⟨32, by kernel_rfl, by kernel_rfl⟩) (by kernel_rfl) (by kernel_rfl) (by kernel_rfl) (anjnS_2_54 hc)
theorem anjnS_2_56 {z : zjnS_2} (hc : cjnS_2_0 z) : ajnS_2_0 z 8 2131230719 (qjnS_2_0 z 2131230719 [(47, .sl 7 0 1)]) (HjnS_2_0 z [1]) := by
  refine any_next [19, 20] (by kernel_rfl) (by decide) fun i hi => ?_
  rcases two2 hi with rfl | rfl
  · exact any_one _ (v := vjnS_2_0 z 19) tabok_jnS hojnS_2_19 (⟨32, by kernel_rfl, by kernel_rfl⟩) (by kernel_rfl) (by kernel_rfl) (by kernel_rfl) (anjnS_2_40 hc)
  · exact any_one _ (v := vjnS_2_0 z 20) tabok_jnS hojnS_2_20 (⟨32, by kernel_rfl, by kernel_rfl⟩) (by kernel_rfl) (by kernel_rfl) (by kernel_rfl) (anjnS_2_48 hc)
theorem anjnS_2_57 {z : zjnS_2} (hc : cjnS_2_0 z) : ajnS_2_0 z 9 1057488895 (qjnS_2_0 z 1057488895 []) (HjnS_2_0 z []) := by
  refine any_next [19, 20, 30] (by kernel_rfl) (by decide) fun i hi => ?_
  rcases two3 hi with rfl | rfl | rfl
  · exact any_one _ (v := vjnS_2_0 z 19) tabok_jnS hojnS_2_19 (⟨32, by kernel_rfl, by kernel_rfl⟩) (by kernel_rfl) (by kernel_rfl) (by kernel_rfl) (anjnS_2_41 hc)
  · exact any_one _ (v := vjnS_2_0 z 20) tabok_jnS hojnS_2_20 (⟨32, by kernel_rfl, by kernel_rfl⟩) (by kernel_rfl) (by kernel_rfl) (by kernel_rfl) (anjnS_2_49 hc)
  · exact any_one _ (v := .sl 7 0 1) tabok_jnS hojnS_2_30 (⟨32, by kernel_rfl, by kernel_rfl⟩) (by kernel_rfl) (by kernel_rfl) (by kernel_rfl) (anjnS_2_56 hc)
theorem anjnS_2_58 {z : zjnS_2} (hc : cjnS_2_0 z) : ajnS_2_0 z 10 520617983 (qjnS_2_0 z 520617983 []) (HjnS_2_0 z []) := by
  refine any_next [19, 20, 29] (by kernel_rfl) (by decide) fun i hi => ?_
  rcases two3 hi with rfl | rfl | rfl
  · exact any_one _ (v := vjnS_2_0 z 19) tabok_jnS hojnS_2_19 (⟨32, by kernel_rfl, by kernel_rfl⟩) (by kernel_rfl) (by kernel_rfl) (by kernel_rfl) (anjnS_2_42 hc)
  · exact any_one _ (v := vjnS_2_0 z 20) tabok_jnS hojnS_2_20 (⟨32, by kernel_rfl, by kernel_rfl⟩) (by kernel_rfl) (by kernel_rfl) (by kernel_rfl) (anjnS_2_50 hc)
  · exact any_one _ (v := vjnS_2_0 z 29) tabok_jnS hojnS_2_29 (⟨32, by kernel_rfl, by kernel_rfl⟩) (by
      refine Eq.trans (b := (match (yjnS_215 z)[0]? with | some e34 => some ((.fl .f32 e34), [.at (yjnS_22 z) (.as 1 [.sl 2 0 (yjnS_23 z), .sl 3 0 (yjnS_24 z)]), .at (yjnS_25 z) (.as 1 [.sl 4 0 (yjnS_26 z), .sl 5 0 (yjnS_27 z)]), .at (yjnS_28 z) (.fl .f32 (yjnS_29 z)), .at (yjnS_210 z) (.fl .f32 (yjnS_211 z)), .at (yjnS_212 z) (.fl .f32 (yjnS_213 z)), .at (yjnS_214 z) (.fl .f32 (yjnS_215 z)), .at true (.as 1 [.nil, .nil])]) | none => none)) (by kernel_rfl) ?_
      rw [someD (hc.2.2.2.2.2.2.1)]
      try rfl) (by kernel_rfl) (by kernel_rfl) (anjnS_2_57 hc)
theorem anjnS_2_59 {z : zjnS_2} (hc : cjnS_2_0 z) : ajnS_2_0 z 11 252182527 (qjnS_2_0 z 252182527 []) (HjnS_2_0 z []) := by
  refine any_next [19, 20, 28] (by kernel_rfl) (by decide) fun i hi => ?_
  rcases two3 hi with rfl | rfl | rfl
  · exact any_one _ (v := vjnS_2_0 z 19) tabok_jnS hojnS_2_19 (⟨32, by kernel_rfl, by kernel_rfl⟩) (by kernel_rfl) (by kernel_rfl) (by kernel_rfl) (anjnS_2_43 hc)
  · exact any_one _ (v := vjnS_2_0 z 20) tabok_jnS hojnS_2_20 (⟨32, by kernel_rfl, by kernel_rfl⟩) (by kernel_rfl) (by kernel_rfl) (by kernel_rfl) (anjnS_2_51 hc)
  · exact any_one _ (v := vjnS_2_0 z 28) tabok_jnS hojnS_2_28 (⟨32, by kernel_rfl, by kernel_rfl⟩) (by
      refine Eq.trans (b := (match decide (0 ≤ (0 : Int) ∧ (0 : Int) < (((yjnS_27 z) : Nat) : Int)) with | true => some ((.ptr 5 0), [.at (yjnS_22 z) (.as 1 [.sl 2 0 (yjnS_23 z), .sl 3 0 (yjnS_24 z)]), .at (yjnS_25 z) (.as 1 [.sl 4 0 (yjnS_26 z), .sl 5 0 (yjnS_27 z)]), .at (yjnS_28 z) (.fl .f32 (yjnS_29 z)), .at (yjnS_210 z) (.fl .f32 (yjnS_211 z)), .at (yjnS_212 z) (.fl .f32 (yjnS_213 z)), .at (yjnS_214 z) (.fl .f32 (yjnS_215 z)), .at true (.as 1 [.nil, .nil])]) | false => none)) (by kernel_rfl) ?_
      rw [hc.2.2.2.2.2.1]
      try rfl) (by kernel_rfl) (by kernel_rfl) (anjnS_2_58 hc)
theorem anjnS_2_60 {z : zjnS_2} (hc : cjnS_2_0 z) : ajnS_2_0 z 12 117964799 (qjnS_2_0 z 117964799 []) (HjnS_2_0 z []) := by
  refine any_next [19, 20, 27] (by kernel_rfl) (by decide) fun i hi => ?_
  rcases two3 hi with rfl | rfl | rfl
  · exact any_one _ (v := vjnS_2_0 z 19) tabok_jnS hojnS_2_19 (⟨32, by kernel_rfl, by kernel_rfl⟩) (by kernel_rfl) (by kernel_rfl) (by kernel_rfl) (anjnS_2_44 hc)
  · exact any_one _ (v := vjnS_2_0 z 20) tabok_jnS hojnS_2_20 (⟨32, by kernel_rfl, by kernel_rfl⟩) (by kernel_rfl) (by kernel_rfl) (by kernel_rfl) (anjnS_2_52 hc)
  · exact any_one _ (v := vjnS_2_0 z 27) tabok_jnS hojnS_2_27 (⟨32, by kernel_rfl, by kernel_rfl⟩) (by kernel_rfl) (by kernel_rfl) (by kernel_rfl) (anjnS_2_59 hc)
theorem anjnS_2_61 {z : zjnS_2} (hc : cjnS_2_0 z) : ajnS_2_0 z 13 50855935 (qjnS_2_0 z 50855935 []) (HjnS_2_0 z []) := by
  refine any_next [19, 20, 26] (by kernel_rfl) (by decide) fun i hi => ?_
  rcases two3 hi with rfl | rfl | rfl
  · exact any_one _ (v := vjnS_2_0 z 19) tabok_jnS hojnS_2_19 (⟨32, by kernel_rfl, by kernel_rfl⟩) (by kernel_rfl) (by kernel_rfl) (by kernel_rfl) (anjnS_2_45 hc)
  · exact any_one _ (v := vjnS_2_0 z 20) tabok_jnS hojnS_2_20 (⟨32, by kernel_rfl, by kernel_rfl⟩) (by kernel_rfl) (by kernel_rfl) (by kernel_rfl) (anjnS_2_53 hc)
  · exact any_one _ (v := vjnS_2_0 z 26) tabok_jnS hojnS_2_26 (⟨32, by kernel_rfl, by kernel_rfl⟩) (by kernel_rfl) (by kernel_rfl) (by kernel_rfl) (anjnS_2_60 hc)
theorem anjnS_2_62 {z : zjnS_2} (hc : cjnS_2_0 z) : ajnS_2_0 z 14 17301503 (qjnS_2_0 z 17301503 []) (HjnS_2_0 z []) := by
  refine any_next [19, 20, 25] (by kernel_rfl) (by decide) fun i hi => ?_
  rcases two3 hi with rfl | rfl | rfl
  · exact any_one _ (v := vjnS_2_0 z 19) tabok_jnS hojnS_2_19 (⟨32, by kernel_rfl, by kernel_rfl⟩) (by kernel_rfl) (by kernel_rfl) (by kernel_rfl) (anjnS_2_46 hc)
  · exact any_one _ (v := vjnS_2_0 z 20) tabok_jnS hojnS_2_20 (⟨32, by kernel_rfl, by kernel_rfl⟩) (by kernel_rfl) (by kernel_rfl) (by kernel_rfl) (anjnS_2_54 hc)
  · exact any_one _ (v := vjnS_2_0 z 25) tabok_jnS hojnS_2_25 (⟨32, by kernel_rfl, by kernel_rfl⟩) (by kernel_rfl) (by kernel_rfl) (by kernel_rfl) (anjnS_2_61 hc)
theorem anjnS_2_63 {z : zjnS_2} (hc : cjnS_2_0 z) : ajnS_2_0 z 15 524287 (qjnS_2_0 z 524287 []) (HjnS_2_0 z []) := by
  refine any_next [19, 20, 24] (by kernel_rfl) (by decide) fun i hi => ?_
  rcases two3 hi with rfl | rfl | rfl
  · exact any_one _ (v := vjnS_2_0 z 19) tabok_jnS hojnS_2_19 (⟨32, by kernel_rfl, by kernel_rfl⟩) (by kernel_rfl) (by kernel_rfl) (by kernel_rfl) (anjnS_2_47 hc)
  · exact any_one _ (v := vjnS_2_0 z 20) tabok_jnS hojnS_2_20 (⟨32, by kernel_rfl, by kernel_rfl⟩) (by kernel_rfl) (by kernel_rfl) (by kernel_rfl) (anjnS_2_55 hc)
  · exact any_one _ (v := vjnS_2_0 z 24) tabok_jnS hojnS_2_24 (⟨32, by kernel_rfl, by kernel_rfl⟩) (by kernel_rfl) (by kernel_rfl) (by kernel_rfl) (anjnS_2_62 hc)
theorem anjnS_2_64 {z : zjnS_2} (hc : cjnS_2_0 z) : ajnS_2_0 z 8 2132017151 (qjnS_2_0 z 2132017151 [(47, .sl 7 0 1)]) (HjnS_2_0 z [1]) := by
  refine any_next [18] (by kernel_rfl) (by decide) fun i hi => ?_
  obtain rfl := two1 hi
  · exact any_one _ (v := vjnS_2_0 z 18) tabok_jnS hojnS_2_18 (⟨32, by kernel_rfl, by kernel_rfl⟩) (by kernel_rfl) (by kernel_rfl) (by kernel_rfl) (anjnS_2_48 hc)
theorem anjnS_2_65 {z : zjnS_2} (hc : cjnS_2_0 z) : ajnS_2_0 z 9 1058275327 (qjnS_2_0 z 1058275327 []) (HjnS_2_0 z []) := by
  refine any_next [18, 30] (by kernel_rfl) (by decide) fun i hi => ?_
  rcases two2 hi with rfl | rfl
  · exact any_one _ (v := vjnS_2_0 z 18) tabok_jnS hojnS_2_18 (⟨32, by kernel_rfl, by kernel_rfl⟩) (by kernel_rfl) (by kernel_rfl) (by kernel_rfl) (anjnS_2_49 hc)
  · exact any_one _ (v := .sl 7 0 1) tabok_jnS hojnS_2_30 (⟨32, by kernel_rfl, by kernel_rfl⟩) (by kernel_rfl) (by kernel_rfl) (by kernel_rfl) (anjnS_2_64 hc)
theorem anjnS_2_66 {z : zjnS_2} (hc : cjnS_2_0 z) : ajnS_2_0 z 10 521404415 (qjnS_2_0 z 521404415 []) (HjnS_2_0 z []) := by
  refine any_next [18, 29] (by kernel_rfl) (by decide) fun i hi => ?_
  rcases two2 hi with rfl | rfl
  · exact any_one _ (v := vjnS_2_0 z 18) tabok_jnS hojnS_2_18 (⟨32, by kernel_rfl, by kernel_rfl⟩) (by kernel_rfl) (by kernel_rfl) (by kernel_rfl) (anjnS_2_50 hc)
  · exact any_one _ (v := vjnS_2_0 z 29) tabok_jnS hojnS_2_29 (⟨32, by kernel_rfl, by kernel_rfl⟩) (by
      refine Eq.trans (b := (match (yjnS_215 z)[0]? with | some e36 => some ((.fl .f32 e36), [.at (yjnS_22 z) (.as 1 [.sl 2 0 (yjnS_23 z), .sl 3 0 (yjnS_24 z)]), .at (yjnS_25 z) (.as 1 [.sl 4 0 (yjnS_26 z), .sl 5 0 (yjnS_27 z)]), .at (yjnS_28 z) (.fl .f32 (yjnS_29 z)), .at (yjnS_210 z) (.fl .f32 (yjnS_211 z)), .at (yjnS_212 z) (.fl .f32 (yjnS_213 z)), .at (yjnS_214 z) (.fl .f32 (yjnS_215 z)), .at true (.as 1 [.nil, .nil])]) | none => none)) (by kernel_rfl) ?_
      rw [someD (hc.2.2.2.2.2.2.1)]
      try rfl) (by kernel_rfl) (by kernel_rfl) (anjnS_2_65 hc)
theorem anjnS_2_67 {z : zjnS_2} (hc : cjnS_2_0 z) : ajnS_2_0 z 11 252968959 (qjnS_2_0 z 252968959 []) (HjnS_2_0 z []) := by
  refine any_next [18, 28] (by kernel_rfl) (by decide) fun i hi => ?_
  rcases two2 hi with rfl | rfl
  · exact any_one _ (v := vjnS_2_0 z 18) tabok_jnS hojnS_2_18 (⟨32, by kernel_rfl, by kernel_rfl⟩) (by kernel_rfl) (by kernel_rfl) (by kernel_rfl) (anjnS_2_51 hc)
  · exact any_one _ (v := vjnS_2_0 z 28) tabok_jnS hojnS_2_28 (⟨32, by kernel_rfl, by kernel_rfl⟩) (by
      refine Eq.trans (b := (match decide (0 ≤ (0 : Int) ∧ (0 : Int) < (((yjnS_27 z) : Nat) : Int)) with | true => some ((.ptr 5 0), [.at (yjnS_22 z) (.as 1 [.sl 2 0 (yjnS_23 z), .sl 3 0 (yjnS_24 z)]), .at (yjnS_25 z) (.as 1 [.sl 4 0 (yjnS_26 z), .sl 5 0 (yjnS_27 z)]), .at (yjnS_28 z) (.fl .f32 (yjnS_29 z)), .at (yjnS_210 z) (.fl .f32 (yjnS_211 z)), .at (yjnS_212 z) (.fl .f32 (yjnS_213 z)), .at (yjnS_214 z) (.fl .f32 (yjnS_215 z)), .at true (.as 1 [.nil, .nil])]) | false => none)) (by kernel_rfl) ?_
      rw [hc.2.2.2.2.2.1]
      try rfl) (by kernel_rfl) (by kernel_rfl) (anjnS_2_66 hc)
theorem anjnS_2_68 {z : zjnS_2} (hc : cjnS_2_0 z) : ajnS_2_0 z 12 118751231 (qjnS_2_0 z 118751231 []) (HjnS_2_0 z []) := by
  refine any_next [18, 27] (by kernel_rfl) (by decide) fun i hi => ?_
  rcases two2 hi with rfl | rfl
  · exact any_one _ (v := vjnS_2_0 z 18) tabok_jnS hojnS_2_18 (⟨32, by kernel_rfl, by kernel_rfl⟩) (by kernel_rfl) (by kernel_rfl) (by kernel_rfl) (anjnS_2_52 hc)
  · exact any_one _ (v := vjnS_2_0 z 27) tabok_jnS hojnS_2_27 (⟨32, by kernel_rfl, by kernel_rfl⟩) (by kernel_rfl) (by kernel_rfl) (by kernel_rfl) (anjnS_2_67 hc)
theorem anjnS_2_69 {z : zjnS_2} (hc : cjnS_2_0 z) : ajnS_2_0 z 13 51642367 (qjnS_2_0 z 51642367 []) (HjnS_2_0 z []) := by
  refine any_next [18, 26] (by kernel_rfl) (by decide) fun i hi => ?_
  rcases two2 hi with rfl | rfl
  · exact any_one _ (v := vjnS_2_0 z 18) tabok_jnS hojnS_2_18 (⟨32, by kernel_rfl, by kernel_rfl⟩) (by kernel_rfl) (by kernel_rfl) (by kernel_rfl) (anjnS_2_53 hc)
  · exact any_one _ (v := vjnS_2_0 z 26) tabok_jnS hojnS_2_26 (⟨32, by kernel_rfl, by kernel_rfl⟩) (by kernel_rfl) (by kernel_rfl) (by kernel_rfl) (anjnS_2_68 hc)
theorem anjnS_2_70 {z : zjnS_2} (hc : cjnS_2_0 z) : ajnS_2_0 z 14 18087935 (qjnS_2_0 z 18087935 []) (HjnS_2_0 z []) := by
  refine any_next [18, 25] (by kernel_rfl) (by decide) fun i hi => ?_
  rcases two2 hi with rfl | rfl
  · exact any_one _ (v := vjnS_2_0 z 18) tabok_jnS hojnS_2_18 (⟨32, by kernel_rfl, by kernel_rfl⟩) (by kernel_rfl) (by kernel_rfl) (by kernel_rfl) (anjnS_2_54 hc)
  · exact any_one _ (v := vjnS_2_0 z 25) tabok_jnS hojnS_2_25 (⟨32, by kernel_rfl, by kernel_rfl⟩) (by kernel_rfl) (by kernel_rfl) (by kernel_rfl) (anjnS_2_69 hc)
theorem anjnS_2_71 {z : zjnS_2} (hc : cjnS_2_0 z) : ajnS_2_0 z 15 1310719 (qjnS_2_0 z 1310719 []) (HjnS_2_0 z []) := by
  refine any_next [18, 24] (by kernel_rfl) (by decide) fun i hi => ?_
  rcases two2 hi with rfl | rfl
  · exact any_one _ (v := vjnS_2_0 z 18) tabok_jnS hojnS_2_18 (⟨32, by kernel_rfl, by kernel_rfl⟩) (by kernel_rfl) (by kernel_rfl) (by kernel_rfl) (anjnS_2_55 hc)
  · exact any_one _ (v := vjnS_2_0 z 24) tabok_jnS hojnS_2_24 (⟨32, by kernel_rfl, by kernel_rfl⟩) (by kernel_rfl) (by kernel_rfl) (by kernel_rfl) (anjnS_2_70 hc)
theorem anjnS_2_72 {z : zjnS_2} (hc : cjnS_2_0 z) : ajnS_2_0 z 9 2130968575 (qjnS_2_0 z 2130968575 [(47, .sl 7 0 1)]) (HjnS_2_0 z [1]) := by
  refine any_next [18, 20] (by kernel_rfl) (by decide) fun i hi => ?_
  rcases two2 hi with rfl | rfl
  · exact any_one _ (v := vjnS_2_0 z 18) tabok_jnS hojnS_2_18 (⟨32, by kernel_rfl, by kernel_rfl⟩) (by kernel_rfl) (by kernel_rfl) (by kernel_rfl) (anjnS_2_56 hc)
  · exact any_one _ (v := vjnS_2_0 z 20) tabok_jnS hojnS_2_20 (⟨32, by kernel_rfl, by kernel_rfl⟩) (by kernel_rfl) (by kernel_rfl) (by kernel_rfl) (anjnS_2_64 hc)
theorem anjnS_2_73 {z : zjnS_2} (hc : cjnS_2_0 z) : ajnS_2_0 z 10 1057226751 (qjnS_2_0 z 1057226751 []) (HjnS_2_0 z []) := by
  refine any_next [18, 20, 30] (by kernel_rfl) (by decide) fun i hi => ?_
  rcases two3 hi with rfl | rfl | rfl
  · exact any_one _ (v := vjnS_2_0 z 18) tabok_jnS hojnS_2_18 (⟨32, by kernel_rfl, by kernel_rfl⟩) (by kernel_rfl) (by kernel_rfl) (by kernel_rfl) (anjnS_2_57 hc)
  · exact any_one _ (v := vjnS_2_0 z 20) tabok_jnS hojnS_2_20 (⟨32, by kernel_rfl, by kernel_rfl⟩) (by kernel_rfl) (by kernel_rfl) (by kernel_rfl) (anjnS_2_65 hc)
  · exact any_one _ (v := .sl 7 0 1) tabok_jnS hojnS_2_30 (⟨32, by kernel_rfl, by kernel_rfl⟩) (by kernel_rfl) (by kernel_rfl) (by kernel_rfl) (anjnS_2_72 hc)
theorem anjnS_2_74 {z : zjnS_2} (hc : cjnS_2_0 z) : ajnS_2_0 z 11 520355839 (qjnS_2_0 z 520355839 []) (HjnS_2_0 z []) := by
  refine any_next [18, 20, 29] (by kernel_rfl) (by decide) fun i hi => ?_
  rcases two3 hi with rfl | rfl | rfl
  · exact any_one _ (v := vjnS_2_0 z 18) tabok_jnS hojnS_2_18 (⟨32, by kernel_rfl, by kernel_rfl⟩) (by kernel_rfl) (by kernel_rfl) (by kernel_rfl) (anjnS_2_58 hc)
  · exact any_one _ (v := vjnS_2_0 z 20) tabok_jnS hojnS_2_20 (⟨32, by kernel_rfl, by kernel_rfl⟩) (by kernel_rfl) (by kernel_rfl) (by kernel_rfl) (anjnS_2_66 hc)
  · exact any_one _ (v := vjnS_2_0 z 29) tabok_jnS hojnS_2_29 (⟨32, by kernel_rfl, by kernel_rfl⟩) (by
      refine Eq.trans (b := (match (yjnS_215 z)[0]? with | some e38 => some ((.fl .f32 e38), [.at (yjnS_22 z) (.as 1 [.sl 2 0 (yjnS_23 z), .sl 3 0 (yjnS_24 z)]), .at (yjnS_25 z) (.as 1 [.sl 4 0 (yjnS_26 z), .sl 5 0 (yjnS_27 z)]), .at (yjnS_28 z) (.fl .f32 (yjnS_29 z)), .at (yjnS_210 z) (.fl .f32 (yjnS_211 z)), .at (yjnS_212 z) (.fl .f32 (yjnS_213 z)), .at (yjnS_214 z) (.fl .f32 (yjnS_215 z)), .at true (.as 1 [.nil, .nil])]) | none => none)) (by kernel_rfl) ?_
      rw [someD (hc.2.2.2.2.2.2.1)]
      try rfl) (by kernel_rfl) (by kernel_rfl) (anjnS_2_73 hc)
theorem anjnS_2_75 {z : zjnS_2} (hc : cjnS_2_0 z) : ajnS_2_0 z 12 251920383 (qjnS_2_0 z 251920383 []) (HjnS_2_0 z []) := by
  refine any_next [18, 20, 28] (by kernel_rfl) (by decide) fun i hi => ?_
  rcases two3 hi with rfl | rfl | rfl
  · exact any_one _ (v := vjnS_2_0 z 18) tabok_jnS hojnS_2_18 (⟨32, by kernel_rfl, by kernel_rfl⟩) (by kernel_rfl) (by kernel_rfl) (by kernel_rfl) (anjnS_2_59 hc)
  · exact any_one _ (v := vjnS_2_0 z 20) tabok_jnS hojnS_2_20 (⟨32, by kernel_rfl, by kernel_rfl⟩) (by kernel_rfl) (by kernel_rfl) (by kernel_rfl) (anjnS_2_67 hc)
  · exact any_one _ (v := vjnS_2_0 z 28) tabok_jnS hojnS_2_28 (⟨32, by kernel_rfl, by kernel_rfl⟩) (by
      refine Eq.trans (b := (match decide (0 ≤ (0 : Int) ∧ (0 : Int) < (((yjnS_27 z) : Nat) : Int)) with | true => some ((.ptr 5 0), [.at (yjnS_22 z) (.as 1 [.sl 2 0 (yjnS_23 z), .sl 3 0 (yjnS_24 z)]), .at (yjnS_25 z) (.as 1 [.sl 4 0 (yjnS_26 z), .sl 5 0 (yjnS_27 z)]), .at (yjnS_28 z) (.fl .f32 (yjnS_29 z)), .at (yjnS_210 z) (.fl .f32 (yjnS_211 z)), .at (yjnS_212 z) (.fl .f32 (yjnS_213 z)), .at (yjnS_214 z) (.fl .f32 (yjnS_215 z)), .at true (.as 1 [.nil, .nil])]) | false => none)) (by kernel_rfl) ?_
      rw [hc.2.2.2.2.2.1]
      try rfl) (by kernel_rfl) (by kernel_rfl) (anjnS_2_74 hc)
theorem anjnS_2_76 {z : zjnS_2} (hc : cjnS_2_0 z) : ajnS_2_0 z 13 117702655 (qjnS_2_0 z 117702655 []) (HjnS_2_0 z []) := by
  refine any_next [18, 20, 27] (by kernel_rfl) (by decide) fun i hi => ?_
  rcases two3 hi with rfl | rfl | rfl
  · exact any_one _ (v := vjnS_2_0 z 18) tabok_jnS hojnS_2_18 (⟨32, by kernel_rfl, by kernel_rfl⟩) (by kernel_rfl) (by kernel_rfl) (by kernel_rfl) (anjnS_2_60 hc)
  · exact any_one _ (v := vjnS_2_0 z 20) tabok_jnS hojnS_2_20 (⟨32, by kernel_rfl, by kernel_rfl⟩) (by kernel_rfl) (by kernel_rfl) (by kernel_rfl) (anjnS_2_68 hc)
  · exact any_one _ (v := vjnS_2_0 z 27) tabok_jnS hojnS_2_27 (⟨32, by kernel_rfl, by kernel_rfl⟩) (by kernel_rfl) (by kernel_rfl) (by kernel_rfl) (anjnS_2_75 hc)
theorem anjnS_2_77 {z : zjnS_2} (hc : cjnS_2_0 z) : ajnS_2_0 z 14 50593791 (qjnS_2_0 z 50593791 []) (HjnS_2_0 z []) := by
  refine any_next [18, 20, 26] (by kernel_rfl) (by decide) fun i hi => ?_
  rcases two3 hi with rfl | rfl | rfl
  · exact any_one _ (v := vjnS_2_0 z 18) tabok_jnS hojnS_2_18 (⟨32, by kernel_rfl, by kernel_rfl⟩) (by kernel_rfl) (by kernel_rfl) (by kernel_rfl) (anjnS_2_61 hc)
  · exact any_one _ (v := vjnS_2_0 z 20) tabok_jnS hojnS_2_20 (⟨32, by kernel_rfl, by kernel_rfl⟩) (by kernel_rfl) (by kernel_rfl) (by kernel_rfl) (anjnS_2_69 hc)
  · exact any_one _ (v := vjnS_2_0 z 26) tabok_jnS hojnS_2_26 (⟨32, by kernel_rfl, by kernel_rfl⟩) (by kernel_rfl) (by kernel_rfl) (by kernel_rfl) (anjnS_2_76 hc)
theorem anjnS_2_78 {z : zjnS_2} (hc : cjnS_2_0 z) : ajnS_2_0 z 15 17039359 (qjnS_2_0 z 17039359 []) (HjnS_2_0 z []) := by
  refine any_next [18, 20, 25] (by kernel_rfl) (by decide) fun i hi => ?_
  rcases two3 hi with rfl | rfl | rfl
  · exact any_one _ (v := vjnS_2_0 z 18) tabok_jnS hojnS_2_18 (⟨32, by kernel_rfl, by kernel_rfl⟩) (by kernel_rfl) (by kernel_rfl) (by kernel_rfl) (anjnS_2_62 hc)
  · exact any_one _ (v := vjnS_2_0 z 20) tabok_jnS hojnS_2_20 (⟨32, by kernel_rfl, by kernel_rfl⟩) (by kernel_rfl) (by kernel_rfl) (by kernel_rfl) (anjnS_2_70 hc)
  · exact any_one _ (v := vjnS_2_0 z 25) tabok_jnS hojnS_2_25 (⟨32, by kernel_rfl, by kernel_rfl⟩) (by kernel_rfl) (by kernel_rfl) (by kernel_rfl) (anjnS_2_77 hc)
theorem anjnS_2_79 {z : zjnS_2} (hc : cjnS_2_0 z) : ajnS_2_0 z 16 262143 (qjnS_2_0 z 262143 []) (HjnS_2_0 z []) := by
  refine any_next [18, 20, 24] (by kernel_rfl) (by decide) fun i hi => ?_
  rcases two3 hi with rfl | rfl | rfl
  · exact any_one _ (v := vjnS_2_0 z 18) tabok_jnS hojnS_2_18 (⟨32, by kernel_rfl, by kernel_rfl⟩) (by kernel_rfl) (by kernel_rfl) (by kernel_rfl) (anjnS_2_63 hc)
  · exact any_one _ (v := vjnS_2_0 z 20) tabok_jnS hojnS_2_20 (⟨32, by kernel_rfl, by kernel_rfl⟩) (by kernel_rfl) (by kernel_rfl) (by kernel_rfl) (anjnS_2_71 hc)
  · exact any_one _ (v := vjnS_2_0 z 24) tabok_jnS hojnS_2_24 (⟨32, by kernel_rfl, by kernel_rfl⟩) (by kernel_rfl) (by kernel_rfl) (by kernel_rfl) (anjnS_2_78 hc)
theorem anjnS_2_80 {z : zjnS_2} (hc : cjnS_2_0 z) : ajnS_2_0 z 9 2131886079 (qjnS_2_0 z 2131886079 [(47, .sl 7 0 1)]) (HjnS_2_0 z [1]) := by
  refine any_next [17] (by kernel_rfl) (by decide) fun i hi => ?_
  obtain rfl := two1 hi
  · exact any_one _ (v := vjnS_2_0 z 17) tabok_jnS hojnS_2_17 (⟨32, by kernel_rfl, by kernel_rfl⟩) (by kernel_rfl) (by kernel_rfl) (by kernel_rfl) (anjnS_2_64 hc)
theorem anjnS_2_81 {z : zjnS_2} (hc : cjnS_2_0 z) : ajnS_2_0 z 10 1058144255 (qjnS_2_0 z 1058144255 []) (HjnS_2_0 z []) := by
  refine any_next [17, 30] (by kernel_rfl) (by decide) fun i hi => ?_
  rcases two2 hi with rfl | rfl
  · exact any_one _ (v := vjnS_2_0 z 17) tabok_jnS hojnS_2_17 (⟨32, by kernel_rfl, by kernel_rfl⟩) (by kernel_rfl) (by kernel_rfl) (by kernel_rfl) (anjnS_2_65 hc)
  · exact any_one _ (v := .sl 7 0 1) tabok_jnS hojnS_2_30 (⟨32, by kernel_rfl, by kernel_rfl⟩) (by kernel_rfl) (by kernel_rfl) (by kernel_rfl) (anjnS_2_80 hc)
theorem anjnS_2_82 {z : zjnS_2} (hc : cjnS_2_0 z) : ajnS_2_0 z 11 521273343 (qjnS_2_0 z 521273343 []) (HjnS_2_0 z []) := by
  refine any_next [17, 29] (by kernel_rfl) (by decide) fun i hi => ?_
  rcases two2 hi with rfl | rfl
  · exact any_one _ (v := vjnS_2_0 z 17) tabok_jnS hojnS_2_17 (⟨32, by kernel_rfl, by kernel_rfl⟩) (by kernel_rfl) (by kernel_rfl) (by kernel_rfl) (anjnS_2_66 hc)
  · exact any_one _ (v := vjnS_2_0 z 29) tabok_jnS hojnS_2_29 (⟨32, by kernel_rfl, by kernel_rfl⟩) (by
      refine Eq.trans (b := (match (yjnS_215 z)[0]? with | some e40 => some ((.fl .f32 e40), [.at (yjnS_22 z) (.as 1 [.sl 2 0 (yjnS_23 z), .sl 3 0 (yjnS_24 z)]), .at (yjnS_25 z) (.as 1 [.sl 4 0 (yjnS_26 z), .sl 5 0 (yjnS_27 z)]), .at (yjnS_28 z) (.fl .f32 (yjnS_29 z)), .at (yjnS_210 z) (.fl .f32 (yjnS_211 z)), .at (yjnS_212 z) (.fl .f32 (yjnS_213 z)), .at (yjnS_214 z) (.fl .f32 (yjnS_215 z)), .at true (.as 1 [.nil, .nil])]) | none => none)) (by kernel_rfl) ?_
      rw [someD (hc.2.2.2.2.2.2.1)]
      try rfl) (by kernel_rfl) (by kernel_rfl) (anjnS_2_81 hc)
theorem anjnS_2_83 {z : zjnS_2} (hc : cjnS_2_0 z) : ajnS_2_0 z 12 252837887 (qjnS_2_0 z 252837887 []) (HjnS_2_0 z []) := by
  refine any_next [17, 28] (by kernel_rfl) (by decide) fun i hi => ?_
  rcases two2 hi with rfl | rfl
  · exact any_one _ (v := vjnS_2_0 z 17) tabok_jnS hojnS_2_17 (⟨32, by kernel_rfl, by kernel_rfl⟩) (by kernel_rfl) (by kernel_rfl) (by kernel_rfl) (anjnS_2_67 hc)
  · exact any_one _ (v := vjnS_2_0 z 28) tabok_jnS hojnS_2_28 (⟨32, by kernel_rfl, by kernel_rfl⟩) (by
      refine Eq.trans (b := (match decide (0 ≤ (0 : Int) ∧ (0 : Int) < (((yjnS_27 z) : Nat) : Int)) with | true => some ((.ptr 5 0), [.at (yjnS_22 z) (.as 1 [.sl 2 0 (yjnS_23 z), .sl 3 0 (yjnS_24 z)]), .at (yjnS_25 z) (.as 1 [.sl 4 0 (yjnS_26 z), .sl 5 0 (yjnS_27 z)]), .at (yjnS_28 z) (.fl .f32 (yjnS_29 z)), .at (yjnS_210 z) (.fl .f32 (yjnS_211 z)), .at (yjnS_212 z) (.fl .f32 (yjnS_213 z)), .at (yjnS_214 z) (.fl .f32 (yjnS_215 z)), .at true (.as 1 [.nil, .nil])]) | false => none)) (by kernel_rfl) ?_
      rw [hc.2.2.2.2.2.1]
      try rfl) (by kernel_rfl) (by kernel_rfl) (anjnS_2_82 hc)
theorem anjnS_2_84 {z : zjnS_2} (hc : cjnS_2_0 z) : ajnS_2_0 z 13 118620159 (qjnS_2_0 z 118620159 []) (HjnS_2_0 z []) := by
  refine any_next [17, 27] (by kernel_rfl) (by decide) fun i hi => ?_
  rcases two2 hi with rfl | rfl
  · exact any_one _ (v := vjnS_2_0 z 17) tabok_jnS hojnS_2_17 (⟨32, by kernel_rfl, by kernel_rfl⟩) (by kernel_rfl) (by kernel_rfl) (by kernel_rfl) (anjnS_2_68 hc)
  · exact any_one _ (v := vjnS_2_0 z 27) tabok_jnS hojnS_2_27 (⟨32, by kernel_rfl, by kernel_rfl⟩) (by kernel_rfl) (by kernel_rfl) (by kernel_rfl) (anjnS_2_83 hc)
theorem anjnS_2_85 {z : zjnS_2} (hc : cjnS_2_0 z) : ajnS_2_0 z 14 51511295 (qjnS_2_0 z 51511295 []) (HjnS_2_0 z []) := by
  refine any_next [17, 26] (by kernel_rfl) (by decide) fun i hi => ?_
  rcases two2 hi with rfl | rfl
  · exact any_one _ (v := vjnS_2_0 z 17) tabok_jnS hojnS_2_17 (⟨32, by kernel_rfl, by kernel_rfl⟩) (by kernel_rfl) (by kernel_rfl) (by kernel_rfl) (anjnS_2_69 hc)
  · exact any_one _ (v := vjnS_2_0 z 26) tabok_jnS hojnS_2_26 (⟨32, by kernel_rfl, by kernel_rfl⟩) (by kernel_rfl) (by kernel_rfl) (by kernel_rfl) (anjnS_2_84 hc)
theorem anjnS_2_86 {z : zjnS_2} (hc : cjnS_2_0 z) : ajnS_2_0 z 15 17956863 (qjnS_2_0 z 17956863 []) (HjnS_2_0 z []) := by
  refine any_next [17, 25] (by kernel_rfl) (by decide) fun i hi => ?_
  rcases two2 hi with rfl | rfl
  · exact any_one _ (v := vjnS_2_0 z 17) tabok_jnS hojnS_2_17 (⟨32, by kernel_rfl, by kernel_rfl⟩) (by kernel_rfl) (by kernel_rfl) (by kernel_rfl) (anjnS_2_70 hc)
  · exact any_one _ (v := vjnS_2_0 z 25) tabok_jnS hojnS_2_25 (⟨32, by kernel_rfl, by kernel_rfl⟩) (by kernel_rfl) (by kernel_rfl) (by kernel_rfl) (anjnS_2_85 hc)
theorem anjnS_2_87 {z : zjnS_2} (hc : cjnS_2_0 z) : ajnS_2_0 z 16 1179647 (qjnS_2_0 z 1179647 []) (HjnS_2_0 z []) := by
  refine any_next [17, 24] (by kernel_rfl) (by decide) fun i hi => ?_
  rcases two2 hi with rfl | rfl
  · exact any_one _ (v := vjnS_2_0 z 17) tabok_jnS hojnS_2_17 (⟨32, by kernel_rfl, by kernel_rfl⟩) (by kernel_rfl) (by kernel_rfl) (by kernel_rfl) (anjnS_2_71 hc)
  · exact any_one _ (v := vjnS_2_0 z 24) tabok_jnS hojnS_2_24 (⟨32, by kernel_rfl, by kernel_rfl⟩) (by kernel_rfl) (by kernel_rfl) (by kernel_rfl) (anjnS_2_86 hc)
theorem anjnS_2_88 {z : zjnS_2} (hc : cjnS_2_0 z) : ajnS_2_0 z 10 2130837503 (qjnS_2_0 z 2130837503 [(47, .sl 7 0 1)]) (HjnS_2_0 z [1]) := by
  refine any_next [17, 20] (by kernel_rfl) (by decide) fun i hi => ?_
  rcases two2 hi with rfl | rfl
  · exact any_one _ (v := vjnS_2_0 z 17) tabok_jnS hojnS_2_17 (⟨32, by kernel_rfl, by kernel_rfl⟩) (by kernel_rfl) (by kernel_rfl) (by kernel_rfl) (anjnS_2_72 hc)
  · exact any_one _ (v := vjnS_2_0 z 20) tabok_jnS hojnS_2_20 (⟨32, by kernel_rfl, by kernel_rfl⟩) (by kernel_rfl) (by kernel_rfl) (by kernel_rfl) (anjnS_2_80 hc)
theorem anjnS_2_89 {z : zjnS_2} (hc : cjnS_2_0 z) : ajnS_2_0 z 11 1057095679 (qjnS_2_0 z 1057095679 []) (HjnS_2_0 z []) := by
  refine any_next [17, 20, 30] (by kernel_rfl) (by decide) fun i hi => ?_
  rcases two3 hi with rfl | rfl | rfl
  · exact any_one _ (v := vjnS_2_0 z 17) tabok_jnS hojnS_2_17 (⟨32, by kernel_rfl, by kernel_rfl⟩) (by kernel_rfl) (by kernel_rfl) (by kernel_rfl) (anjnS_2_73 hc)
  · exact any_one _ (v := vjnS_2_0 z 20) tabok_jnS hojnS_2_20 (⟨32, by kernel_rfl, by kernel_rfl⟩) (by kernel_rfl) (by kernel_rfl) (by kernel_rfl) (anjnS_2_81 hc)
  · exact any_one _ (v := .sl 7 0 1) tabok_jnS hojnS_2_30 (⟨32, by kernel_rfl, by kernel_rfl⟩) (by kernel_rfl) (by kernel_rfl) (by kernel_rfl) (anjnS_2_88 hc)
theorem anjnS_2_90 {z : zjnS_2} (hc : cjnS_2_0 z) : ajnS_2_0 z 12 520224767 (qjnS_2_0 z 520224767 []) (HjnS_2_0 z []) := by
  refine any_next [17, 20, 29] (by kernel_rfl) (by decide) fun i hi => ?_
  rcases two3 hi with rfl | rfl | rfl
  · exact any_one _ (v := vjnS_2_0 z 17) tabok_jnS hojnS_2_17 (⟨32, by kernel_rfl, by kernel_rfl⟩) (by kernel_rfl) (by kernel_rfl) (by kernel_rfl) (anjnS_2_74 hc)
  · exact any_one _ (v := vjnS_2_0 z 20) tabok_jnS hojnS_2_20 (⟨32, by kernel_rfl, by kernel_rfl⟩) (by kernel_rfl) (by kernel_rfl) (by kernel_rfl) (anjnS_2_82 hc)
  · exact any_one _ (v := vjnS_2_0 z 29) tabok_jnS hojnS_2_29 (⟨32, by kernel_rfl, by kernel_rfl⟩) (by
      refine Eq.trans (b := (match (yjnS_215 z)[0]? with | some e42 => some ((.fl .f32 e42), [.at (yjnS_22 z) (.as 1 [.sl 2 0 (yjnS_23 z), .sl 3 0 (yjnS_24 z)]), .at (yjnS_25 z) (.as 1 [.sl 4 0 (yjnS_26 z), .sl 5 0 (yjnS_27 z)]), .at (yjnS_28 z) (.fl .f32 (yjnS_29 z)), .at (yjnS_210 z) (.fl .f32 (yjnS_211 z)), .at (yjnS_212 z) (.fl .f32 (yjnS_213 z)), .at (yjnS_214 z) (.fl .f32 (yjnS_215 z)), .at true (.as 1 [.nil, .nil])]) | none => none)) (by kernel_rfl) ?_
      rw [someD (hc.2.2.2.2.2.2.1)]
      try rfl) (by kernel_rfl) (by kernel_rfl) (anjnS_2_89 hc)
theorem anjnS_2_91 {z : zjnS_2} (hc : cjnS_2_0 z) : ajnS_2_0 z 13 251789311 (qjnS_2_0 z 251789311 []) (HjnS_2_0 z []) := by
  refine any_next [17, 20, 28] (by kernel_rfl) (by decide) fun i hi => ?_
  rcases two3 hi with rfl | rfl | rfl
  · exact any_one _ (v := vjnS_2_0 z 17) tabok_jnS hojnS_2_17 (⟨32, by kernel_rfl, by kernel_rfl⟩) (by kernel_rfl) (by kernel_rfl) (by kernel_rfl) (anjnS_2_75 hc)
  · exact any_one _ (v := vjnS_2_0 z 20) tabok_jnS hojnS_2_20 (⟨32, by kernel_rfl, by kernel_rfl⟩) (by kernel_rfl) (by kernel_rfl) (by kernel_rfl) (anjnS_2_83 hc)
  · exact any_one _ (v := vjnS_2_0 z 28) tabok_jnS hojnS_2_28 (⟨32, by kernel_rfl, by kernel_rfl⟩) (by
      refine Eq.trans (b := (match decide (0 ≤ (0 : Int) ∧ (0 : Int) < (((yjnS_27 z) : Nat) : Int)) with | true => some ((.ptr 5 0), [.at (yjnS_22 z) (.as 1 [.sl 2 0 (yjnS_23 z), .sl 3 0 (yjnS_24 z)]), .at (yjnS_25 z) (.as 1 [.sl 4 0 (yjnS_26 z), .sl 5 0 (yjnS_27 z)]), .at (yjnS_28 z) (.fl .f32 (yjnS_29 z)), .at (yjnS_210 z) (.fl .f32 (yjnS_211 z)), .at (yjnS_212 z) (.fl .f32 (yjnS_213 z)), .at (yjnS_214 z) (.fl .f32 (yjnS_215 z)), .at true (.as 1 [.nil, .nil])]) | false => none)) (by kernel_rfl) ?_
      rw [hc.2.2.2.2.2.1]
      try rfl) (by kernel_rfl) (by kernel_rfl) (anjnS_2_90 hc)
theorem anjnS_2_92 {z : zjnS_2} (hc : cjnS_2_0 z) : ajnS_2_0 z 14 117571583 (qjnS_2_0 z 117571583 []) (HjnS_2_0 z []) := by
  refine any_next [17, 20, 27] (by kernel_rfl) (by decide) fun i hi => ?_
  rcases two3 hi with rfl | rfl | rfl
  · exact any_one _ (v := vjnS_2_0 z 17) tabok_jnS hojnS_2_17 (⟨32, by kernel_rfl, by kernel_rfl⟩) (by kernel_rfl) (by kernel_rfl) (by kernel_rfl) (anjnS_2_76 hc)
  · exact any_one _ (v := vjnS_2_0 z 20) tabok_jnS hojnS_2_20 (⟨32, by kernel_rfl, by kernel_rfl⟩) (by kernel_rfl) (by kernel_rfl) (by kernel_rfl) (anjnS_2_84 hc)
  · exact any_one _ (v := vjnS_2_0 z 27) tabok_jnS hojnS_2_27 (⟨32, by kernel_rfl, by kernel_rfl⟩) (by kernel_rfl) (by kernel_rfl) (by kernel_rfl) (anjnS_2_91 hc)
theorem anjnS_2_93 {z : zjnS_2} (hc : cjnS_2_0 z) : ajnS_2_0 z 15 50462719 (qjnS_2_0 z 50462719 []) (HjnS_2_0 z []) := by
  refine any_next [17, 20, 26] (by kernel_rfl) (by decide) fun i hi => ?_
  rcases two3 hi with rfl | rfl | rfl
  · exact any_one _ (v := vjnS_2_0 z 17) tabok_jnS hojnS_2_17 (⟨32, by kernel_rfl, by kernel_rfl⟩) (by kernel_rfl) (by kernel_rfl) (by kernel_rfl) (anjnS_2_77 hc)
  · exact any_one _ (v := vjnS_2_0 z 20) tabok_jnS hojnS_2_20 (⟨32, by kernel_rfl, by kernel_rfl⟩) (by kernel_rfl) (by kernel_rfl) (by kernel_rfl) (anjnS_2_85 hc)
  · exact any_one _ (v := vjnS_2_0 z 26) tabok_jnS hojnS_2_26 (⟨32, by kernel_rfl, by kernel_rfl⟩) (by kernel_rfl) (by kernel_rfl) (by kernel_rfl) (anjnS_2_92 hc)
theorem anjnS_2_94 {z : zjnS_2} (hc : cjnS_2_0 z) : ajnS_2_0 z 16 16908287 (qjnS_2_0 z 16908287 []) (HjnS_2_0 z []) := by
  refine any_next [17, 20, 25] (by kernel_rfl) (by decide) fun i hi => ?_
  rcases two3 hi with rfl | rfl | rfl
  · exact any_one _ (v := vjnS_2_0 z 17) tabok_jnS hojnS_2_17 (⟨32, by kernel_rfl, by kernel_rfl⟩) (by kernel_rfl) (by kernel_rfl) (by kernel_rfl) (anjnS_2_78 hc)
  · exact any_one _ (v := vjnS_2_0 z 20) tabok_jnS hojnS_2_20 (⟨32, by kernel_rfl, by kernel_rfl⟩) (by kernel_rfl) (by kernel_rfl) (by kernel_rfl) (anjnS_2_86 hc)
  · exact any_one _ (v := vjnS_2_0 z 25) tabok_jnS hojnS_2_25 (⟨32, by kernel_rfl, by kernel_rfl⟩) (by kernel_rfl) (by kernel_rfl) (by kernel_rfl) (anjnS_2_93 hc)
theorem anjnS_2_95 {z : zjnS_2} (hc : cjnS_2_0 z) : ajnS_2_0 z 17 131071 (qjnS_2_0 z 131071 []) (HjnS_2_0 z []) := by
  refine any_next [17, 20, 24] (by kernel_rfl) (by decide) fun i hi => ?_
  rcases two3 hi with rfl | rfl | rfl
  · exact any_one _ (v := vjnS_2_0 z 17) tabok_jnS hojnS_2_17 (⟨32, by kernel_rfl, by kernel_rfl⟩) (by kernel_rfl) (by kernel_rfl) (by kernel_rfl) (anjnS_2_79 hc)
  · exact any_one _ (v := vjnS_2_0 z 20) tabok_jnS hojnS_2_20 (⟨32, by kernel_rfl, by kernel_rfl⟩) (by kernel_rfl) (by kernel_rfl) (by kernel_rfl) (anjnS_2_87 hc)
  · exact any_one _ (v := vjnS_2_0 z 24) tabok_jnS hojnS_2_24 (⟨32, by kernel_rfl, by kernel_rfl⟩) (by kernel_rfl) (by kernel_rfl) (by kernel_rfl) (anjnS_2_94 hc)
theorem anjnS_2_96 {z : zjnS_2} (hc : cjnS_2_0 z) : ajnS_2_0 z 10 2131820543 (qjnS_2_0 z 2131820543 [(47, .sl 7 0 1)]) (HjnS_2_0 z [1]) := by
  refine any_next [16] (by kernel_rfl) (by decide) fun i hi => ?_
  obtain rfl := two1 hi
  · exact any_one _ (v := vjnS_2_0 z 16) tabok_jnS hojnS_2_16 (⟨32, by kernel_rfl, by kernel_rfl⟩) (by kernel_rfl) (by kernel_rfl) (by kernel_rfl) (anjnS_2_80 hc)
theorem anjnS_2_97 {z : zjnS_2} (hc : cjnS_2_0 z) : ajnS_2_0 z 11 1058078719 (qjnS_2_0 z 1058078719 []) (HjnS_2_0 z []) := by
  refine any_next [16, 30] (by kernel_rfl) (by decide) fun i hi => ?_
  rcases two2 hi with rfl | rfl
  · exact any_one _ (v := vjnS_2_0 z 16) tabok_jnS hojnS_2_16 (⟨32, by kernel_rfl, by kernel_rfl⟩) (by kernel_rfl) (by kernel_rfl) (by kernel_rfl) (anjnS_2_81 hc)
  · exact any_one _ (v := .sl 7 0 1) tabok_jnS hojnS_2_30 (⟨32, by kernel_rfl, by kernel_rfl⟩) (by kernel_rfl) (by kernel_rfl) (by kernel_rfl) (anjnS_2_96 hc)
theorem anjnS_2_98 {z : zjnS_2} (hc : cjnS_2_0 z) : ajnS_2_0 z 12 521207807 (qjnS_2_0 z 521207807 []) (HjnS_2_0 z []) := by
  refine any_next [16, 29] (by kernel_rfl) (by decide) fun i hi => ?_
  rcases two2 hi with rfl | rfl
  · exact any_one _ (v := vjnS_2_0 z 16) tabok_jnS hojnS_2_16 (⟨32, by kernel_rfl, by kernel_rfl⟩) (by kernel_rfl) (by kernel_rfl) (by kernel_rfl) (anjnS_2_82 hc)
  · exact any_one _ (v := vjnS_2_0 z 29) tabok_jnS hojnS_2_29 (⟨32, by kernel_rfl, by kernel_rfl⟩) (by
      refine Eq.trans (b := (match (yjnS_215 z)[0]? with | some e44 => some ((.fl .f32 e44), [.at (yjnS_22 z) (.as 1 [.sl 2 0 (yjnS_23 z), .sl 3 0 (yjnS_24 z)]), .at (yjnS_25 z) (.as 1 [.sl 4 0 (yjnS_26 z), .sl 5 0 (yjnS_27 z)]), .at (yjnS_28 z) (.fl .f32 (yjnS_29 z)), .at (yjnS_210 z) (.fl .f32 (yjnS_211 z)), .at (yjnS_212 z) (.fl .f32 (yjnS_213 z)), .at (yjnS_214 z) (.fl .f32 (yjnS_215 z)), .at true (.as 1 [.nil, .nil])]) | none => none)) (by kernel_rfl) ?_
      rw [someD (hc.2.2.2.2.2.2.1)]
      try rfl) (by kernel_rfl) (by kernel_rfl) (anjnS_2_97 hc)
theorem anjnS_2_99 {z : zjnS_2} (hc : cjnS_2_0 z) : ajnS_2_0 z 13 252772351 (qjnS_2_0 z 252772351 []) (HjnS_2_0 z []) := by
  refine any_next [16, 28] (by kernel_rfl) (by decide) fun i hi => ?_
  rcases two2 hi with rfl | rfl
  · exact any_one _ (v := vjnS_2_0 z 16) tabok_jnS hojnS_2_16 (⟨32, by kernel_rfl, by kernel_rfl⟩) (by kernel_rfl) (by kernel_rfl) (by kernel_rfl) (anjnS_2_83 hc)
  · exact any_one _ (v := vjnS_2_0 z 28) tabok_jnS hojnS_2_28 (⟨32, by kernel_rfl, by kernel_rfl⟩) (by
      refine Eq.trans (b := (match decide (0 ≤ (0 : Int) ∧ (0 : Int) < (((yjnS_27 z) : Nat) : Int)) with | true => some ((.ptr 5 0), [.at (yjnS_22 z) (.as 1 [.sl 2 0 (yjnS_23 z), .sl 3 0 (yjnS_24 z)]), .at (yjnS_25 z) (.as 1 [.sl 4 0 (yjnS_26 z), .sl 5 0 (yjnS_27 z)]), .at (yjnS_28 z) (.fl .f32 (yjnS_29 z)), .at (yjnS_210 z) (.fl .f32 (yjnS_211 z)), .at (yjnS_212 z) (.fl .f32 (yjnS_213 z)), .at (yjnS_214 z) (.fl .f32 (yjnS_215 z)), .at true (.as 1 [.nil, .nil])]) | false => none)) (by kernel_rfl) ?_
      rw [hc.2.2.2.2.2.1]
      try rfl) (by kernel_rfl) (by kernel_rfl) (anjnS_2_98 hc)
theorem anjnS_2_100 {z : zjnS_2} (hc : cjnS_2_0 z) : ajnS_2_0 z 14 118554623 (qjnS_2_0 z 118554623 []) (HjnS_2_0 z []) := by
  refine any_next [16, 27] (by kernel_rfl) (by decide) fun i hi => ?_
  rcases two2 hi with rfl | rfl
  · exact any_one _ (v := vjnS_2_0 z 16) tabok_jnS hojnS_2_16 (⟨32, by kernel_rfl, by kernel_rfl⟩) (by kernel_rfl) (by kernel_rfl) (by kernel_rfl) (anjnS_2_84 hc)
  · exact any_one _ (v := vjnS_2_0 z 27) tabok_jnS hojnS_2_27 (⟨32, by kernel_rfl, by kernel_rfl⟩) (by kernel_rfl) (by kernel_rfl) (by kernel_rfl) (anjnS_2_99 hc)
theorem anjnS_2_101 {z : zjnS_2} (hc : cjnS_2_0 z) : ajnS_2_0 z 15 51445759 (qjnS_2_0 z 51445759 []) (HjnS_2_0 z []) := by
  refine any_next [16, 26] (by kernel_rfl) (by decide) fun i hi => ?_
  rcases two2 hi with rfl | rfl
  · exact any_one _ (v := vjnS_2_0 z 16) tabok_jnS hojnS_2_16 (⟨32, by kernel_rfl, by kernel_rfl⟩) (by kernel_rfl) (by kernel_rfl) (by kernel_rfl) (anjnS_2_85 hc)
  · exact any_one _ (v := vjnS_2_0 z 26) tabok_jnS hojnS_2_26 (⟨32, by kernel_rfl, by kernel_rfl⟩) (by kernel_rfl) (by kernel_rfl) (by kernel_rfl) (anjnS_2_100 hc)
theorem anjnS_2_102 {z : zjnS_2} (hc : cjnS_2_0 z) : ajnS_2_0 z 16 17891327 (qjnS_2_0 z 17891327 []) (HjnS_2_0 z []) := by
  refine any_next [16, 25] (by kernel_rfl) (by decide) fun i hi => ?_
  rcases two2 hi with rfl | rfl
  · exact any_one _ (v := vjnS_2_0 z 16) tabok_jnS hojnS_2_16 (⟨32, by kernel_rfl, by kernel_rfl⟩) (by kernel_rfl) (by kernel_rfl) (by kernel_rfl) (anjnS_2_86 hc)
  · exact any_one _ (v := vjnS_2_0 z 25) tabok_jnS hojnS_2_25 (⟨32, by kernel_rfl, by kernel_rfl⟩) (by kernel_rfl) (by kernel_rfl) (by kernel_rfl) (anjnS_2_101 hc)
theorem anjnS_2_103 {z : zjnS_2} (hc : cjnS_2_0 z) : ajnS_2_0 z 17 1114111 (qjnS_2_0 z 1114111 []) (HjnS_2_0 z []) := by
  refine any_next [16, 24] (by kernel_rfl) (by decide) fun i hi => ?_
  rcases two2 hi with rfl | rfl
  · exact any_one _ (v := vjnS_2_0 z 16) tabok_jnS hojnS_2_16 (⟨32, by kernel_rfl, by kernel_rfl⟩) (by kernel_rfl) (by kernel_rfl) (by kernel_rfl) (anjnS_2_87 hc)
  · exact any_one _ (v := vjnS_2_0 z 24) tabok_jnS hojnS_2_24 (⟨32, by kernel_rfl, by kernel_rfl⟩) (by kernel_rfl) (by kernel_rfl) (by kernel_rfl) (anjnS_2_102 hc)
theorem anjnS_2_104 {z : zjnS_2} (hc : cjnS_2_0 z) : ajnS_2_0 z 11 2130771967 (qjnS_2_0 z 2130771967 [(47, .sl 7 0 1)]) (HjnS_2_0 z [1]) := by
  refine any_next [16, 20] (by kernel_rfl) (by decide) fun i hi => ?_
  rcases two2 hi with rfl | rfl
  · exact any_one _ (v := vjnS_2_0 z 16) tabok_jnS hojnS_2_16 (⟨32, by kernel_rfl, by kernel_rfl⟩) (by kernel_rfl) (by kernel_rfl) (by kernel_rfl) (anjnS_2_88 hc)
  · exact any_one _ (v := vjnS_2_0 z 20) tabok_jnS hojnS_2_20 (⟨32, by kernel_rfl, by kernel_rfl⟩) (by kernel_rfl) (by kernel_rfl) (by kernel_rfl) (anjnS_2_96 hc)
theorem anjnS_2_105 {z : zjnS_2} (hc : cjnS_2_0 z) : ajnS_2_0 z 12 1057030143 (qjnS_2_0 z 1057030143 []) (HjnS_2_0 z []) := by
  refine any_next [16, 20, 30] (by kernel_rfl) (by decide) fun i hi => ?_
  rcases two3 hi with rfl | rfl | rfl
  · exact any_one _ (v := vjnS_2_0 z 16) tabok_jnS hojnS_2_16 (⟨32, by kernel_rfl, by kernel_rfl⟩) (by kernel_rfl) (by kernel_rfl) (by kernel_rfl) (anjnS_2_89 hc)
  · exact any_one _ (v := vjnS_2_0 z 20) tabok_jnS hojnS_2_20 (⟨32, by kernel_rfl, by kernel_rfl⟩) (by kernel_rfl) (by kernel_rfl) (by kernel_rfl) (anjnS_2_97 hc)
  · exact any_one _ (v := .sl 7 0 1) tabok_jnS hojnS_2_30 (⟨32, by kernel_rfl, by kernel_rfl⟩) (by kernel_rfl) (by kernel_rfl) (by kernel_rfl) (anjnS_2_104 hc)
theorem anjnS_2_106 {z : zjnS_2} (hc : cjnS_2_0 z) : ajnS_2_0 z 13 520159231 (qjnS_2_0 z 520159231 []) (HjnS_2_0 z []) := by
  refine any_next [16, 20, 29] (by kernel_rfl) (by decide) fun i hi => ?_
  rcases two3 hi with rfl | rfl | rfl
  · exact any_one _ (v := vjnS_2_0 z 16) tabok_jnS hojnS_2_16 (⟨32, by kernel_rfl, by kernel_rfl⟩) (by kernel_rfl) (by kernel_rfl) (by kernel_rfl) (anjnS_2_90 hc)
  · exact any_one _ (v := vjnS_2_0 z 20) tabok_jnS hojnS_2_20 (⟨32, by kernel_rfl, by kernel_rfl⟩) (by kernel_rfl) (by kernel_rfl) (by kernel_rfl) (anjnS_2_98 hc)
  · exact any_one _ (v := vjnS_2_0 z 29) tabok_jnS hojnS_2_29 (⟨32, by kernel_rfl, by kernel_rfl⟩) (by
      refine Eq.trans (b := (match (yjnS_215 z)[0]? with | some e46 => some ((.fl .f32 e46), [.at (yjnS_22 z) (.as 1 [.sl 2 0 (yjnS_23 z), .sl 3 0 (yjnS_24 z)]), .at (yjnS_25 z) (.as 1 [.sl 4 0 (yjnS_26 z), .sl 5 0 (yjnS_27 z)]), .at (yjnS_28 z) (.fl .f32 (yjnS_29 z)), .at (yjnS_210 z) (.fl .f32 (yjnS_211 z)), .at (yjnS_212 z) (.fl .f32 (yjnS_213 z)), .at (yjnS_214 z) (.fl .f32 (yjnS_215 z)), .at true (.as 1 [.nil, .nil])]) | none => none)) (by kernel_rfl) ?_
      rw [someD (hc.2.2.2.2.2.2.1)]
      try rfl) (by kernel_rfl) (by kernel_rfl) (anjnS_2_105 hc)
theorem anjnS_2_107 {z : zjnS_2} (hc : cjnS_2_0 z) : ajnS_2_0 z 14 251723775 (qjnS_2_0 z 251723775 []) (HjnS_2_0 z []) := by
  refine any_next [16, 20, 28] (by kernel_rfl) (by decide) fun i hi => ?_
  rcases two3 hi with rfl | rfl | rfl
  · exact any_one _ (v := vjnS_2_0 z 16) tabok_jnS hojnS_2_16 (⟨32, by kernel_rfl, by kernel_rfl⟩) (by kernel_rfl) (by kernel_rfl) (by kernel_rfl) (anjnS_2_91 hc)
  · exact any_one _ (v := vjnS_2_0 z 20) tabok_jnS hojnS_2_20 (⟨32, by kernel_rfl, by kernel_rfl⟩) (by kernel_rfl) (by kernel_rfl) (by kernel_rfl) (anjnS_2_99 hc)
  · exact any_one _ (v := vjnS_2_0 z 28) tabok_jnS hojnS_2_28 (⟨32, by kernel_rfl, by kernel_rfl⟩) (by
      refine Eq.trans (b := (match decide (0 ≤ (0 : Int) ∧ (0 : Int) < (((yjnS_27 z) : Nat) : Int)) with | true => some ((.ptr 5 0), [.at (yjnS_22 z) (.as 1 [.sl 2 0 (yjnS_23 z), .sl 3 0 (yjnS_24 z)]), .at (yjnS_25 z) (.as 1 [.sl 4 0 (yjnS_26 z), .sl 5 0 (yjnS_27 z)]), .at (yjnS_28 z) (.fl .f32 (yjnS_29 z)), .at (yjnS_210 z) (.fl .f32 (yjnS_211 z)), .at (yjnS_212 z) (.fl .f32 (yjnS_213 z)), .at (yjnS_214 z) (.fl .f32 (yjnS_215 z)), .at true (.as 1 [.nil, .nil])]) | false => none)) (by kernel_rfl) ?_
      rw [hc.2.2.2.2.2.1]
      try rfl) (by kernel_rfl) (by kernel_rfl) (anjnS_2_106 hc)
theorem anjnS_2_108 {z : zjnS_2} (hc : cjnS_2_0 z) : ajnS_2_0 z 15 117506047 (qjnS_2_0 z 117506047 []) (HjnS_2_0 z []) := by
  refine any_next [16, 20, 27] (by kernel_rfl) (by decide) fun i hi => ?_
  rcases two3 hi with rfl | rfl | rfl
  · exact any_one _ (v := vjnS_2_0 z 16) tabok_jnS hojnS_2_16 (⟨32, by kernel_rfl, by kernel_rfl⟩) (by kernel_rfl) (by kernel_rfl) (by kernel_rfl) (anjnS_2_92 hc)
  · exact any_one _ (v := vjnS_2_0 z 20) tabok_jnS hojnS_2_20 (⟨32, by kernel_rfl, by kernel_rfl⟩) (by kernel_rfl) (by kernel_rfl) (by kernel_rfl) (anjnS_2_100 hc)
  · exact any_one _ (v := vjnS_2_0 z 27) tabok_jnS hojnS_2_27 (⟨32, by kernel_rfl, by kernel_rfl⟩) (by kernel_rfl) (by kernel_rfl) (by kernel_rfl) (anjnS_2_107 hc)
theorem anjnS_2_109 {z : zjnS_2} (hc : cjnS_2_0 z) : ajnS_2_0 z 16 50397183 (qjnS_2_0 z 50397183 []) (HjnS_2_0 z []) := by
  refine any_next [16, 20, 26] (by kernel_rfl) (by decide) fun i hi => ?_
  rcases two3 hi with rfl | rfl | rfl
  · exact any_one _ (v := vjnS_2_0 z 16) tabok_jnS hojnS_2_16 (⟨32, by kernel_rfl, by kernel_rfl⟩) (by kernel_rfl) (by kernel_rfl) (by kernel_rfl) (anjnS_2_93 hc)
  · exact any_one _ (v := vjnS_2_0 z 20) tabok_jnS hojnS_2_20 (⟨32, by kernel_rfl, by kernel_rfl⟩) (by kernel_rfl) (by kernel_rfl) (by kernel_rfl) (anjnS_2_101 hc)
  · exact any_one _ (v := vjnS_2_0 z 26) tabok_jnS hojnS_2_26 (⟨32, by kernel_rfl, by kernel_rfl⟩) (by kernel_rfl) (by kernel_rfl) (by kernel_rfl) (anjnS_2_108 hc)
theorem anjnS_2_110 {z : zjnS_2} (hc : cjnS_2_0 z) : ajnS_2_0 z 17 16842751 (qjnS_2_0 z 16842751 []) (HjnS_2_0 z []) := by
  refine any_next [16, 20, 25] (by kernel_rfl) (by decide) fun i hi => ?_
  rcases two3 hi with rfl | rfl | rfl
  · exact any_one _ (v := vjnS_2_0 z 16) tabok_jnS hojnS_2_16 (⟨32, by kernel_rfl, by kernel_rfl⟩) (by kernel_rfl) (by kernel_rfl) (by kernel_rfl) (anjnS_2_94 hc)
  · exact any_one _ (v := vjnS_2_0 z 20) tabok_jnS hojnS_2_20 (⟨32, by kernel_rfl, by kernel_rfl⟩) (by kernel_rfl) (by kernel_rfl) (by kernel_rfl) (anjnS_2_102 hc)
  · exact any_one _ (v := vjnS_2_0 z 25) tabok_jnS hojnS_2_25 (⟨32, by kernel_rfl, by kernel_rfl⟩) (by kernel_rfl) (by kernel_rfl) (by kernel_rfl) (anjnS_2_109 hc)
theorem anjnS_2_111 {z : zjnS_2} (hc : cjnS_2_0 z) : ajnS_2_0 z 18 65535 (qjnS_2_0 z 65535 []) (HjnS_2_0 z []) := by
  refine any_next [16, 20, 24] (by kernel_rfl) (by decide) fun i hi => ?_
  rcases two3 hi with rfl | rfl | rfl
  · exact any_one _ (v := vjnS_2_0 z 16) tabok_jnS hojnS_2_16 (⟨32, by kernel_rfl, by kernel_rfl⟩) (by kernel_rfl) (by kernel_rfl) (by kernel_rfl) (anjnS_2_95 hc)
  · exact any_one _ (v := vjnS_2_0 z 20) tabok_jnS hojnS_2_20 (⟨32, by kernel_rfl, by kernel_rfl⟩) (by kernel_rfl) (by kernel_rfl) (by kernel_rfl) (anjnS_2_103 hc)
  · exact any_one _ (v := vjnS_2_0 z 24) tabok_jnS hojnS_2_24 (⟨32, by kernel_rfl, by kernel_rfl⟩) (by kernel_rfl) (by kernel_rfl) (by kernel_rfl) (anjnS_2_110 hc)
theorem anjnS_2_112 {z : zjnS_2} (hc : cjnS_2_0 z) : ajnS_2_0 z 19 32767 (qjnS_2_0 z 32767 []) (HjnS_2_0 z []) := by
  refine any_next [15] (by kernel_rfl) (by decide) fun i hi => ?_
  obtain rfl := two1 hi
  · exact any_one _ (v := vjnS_2_0 z 15) tabok_jnS hojnS_2_15 (trivial) (by kernel_rfl) (by kernel_rfl) (by kernel_rfl) (anjnS_2_111 hc)
theorem anjnS_2_113 {z : zjnS_2} (hc : cjnS_2_0 z) : ajnS_2_0 z 20 16383 (qjnS_2_0 z 16383 []) (HjnS_2_0 z []) := by
  refine any_next [14] (by kernel_rfl) (by decide) fun i hi => ?_
  obtain rfl := two1 hi
  · exact any_one _ (v := vjnS_2_0 z 14) tabok_jnS hojnS_2_14 (trivial) (by kernel_rfl) (by kernel_rfl) (by kernel_rfl) (anjnS_2_112 hc)
theorem anjnS_2_114 {z : zjnS_2} (hc : cjnS_2_0 z) : ajnS_2_0 z 21 8191 (qjnS_2_0 z 8191 []) (HjnS_2_0 z []) := by
  refine any_next [13] (by kernel_rfl) (by decide) fun i hi => ?_
  obtain rfl := two1 hi
  · exact any_one _ (v := vjnS_2_0 z 13) tabok_jnS hojnS_2_13 (⟨27, by kernel_rfl, by kernel_rfl⟩) (by kernel_rfl) (by kernel_rfl) (by kernel_rfl) (anjnS_2_113 hc)
theorem anjnS_2_115 {z : zjnS_2} (hc : cjnS_2_0 z) : ajnS_2_0 z 22 4095 (qjnS_2_0 z 4095 []) (HjnS_2_0 z []) := by
  refine any_next [12] (by kernel_rfl) (by decide) fun i hi => ?_
  obtain rfl := two1 hi
  · exact any_one _ (v := vjnS_2_0 z 12) tabok_jnS hojnS_2_12 (⟨27, by kernel_rfl, by kernel_rfl⟩) (by
      refine Eq.trans (b := some ((.bool (posB (yjnS_20 z))), [.at (yjnS_22 z) (.as 1 [.sl 2 0 (yjnS_23 z), .sl 3 0 (yjnS_24 z)]), .at (yjnS_25 z) (.as 1 [.sl 4 0 (yjnS_26 z), .sl 5 0 (yjnS_27 z)]), .at (yjnS_28 z) (.fl .f32 (yjnS_29 z)), .at (yjnS_210 z) (.fl .f32 (yjnS_211 z)), .at (yjnS_212 z) (.fl .f32 (yjnS_213 z)), .at (yjnS_214 z) (.fl .f32 (yjnS_215 z)), .at true (.as 1 [.nil, .nil])])) (by kernel_rfl) ?_
      rw [hc.2.2.1]
      try rfl) (by kernel_rfl) (by kernel_rfl) (anjnS_2_114 hc)
theorem anjnS_2_116 {z : zjnS_2} (hc : cjnS_2_0 z) : ajnS_2_0 z 23 2047 (qjnS_2_0 z 2047 []) (HjnS_2_0 z []) := by
  refine any_next [11] (by kernel_rfl) (by decide) fun i hi => ?_
  obtain rfl := two1 hi
  · exact any_one _ (v := vjnS_2_0 z 11) tabok_jnS hojnS_2_11 (⟨27, by kernel_rfl, by kernel_rfl⟩) (by kernel_rfl) (by kernel_rfl) (by kernel_rfl) (anjnS_2_115 hc)
theorem anjnS_2_117 {z : zjnS_2} (hc : cjnS_2_0 z) : ajnS_2_0 z 24 1023 (qjnS_2_0 z 1023 []) (HjnS_2_0 z []) := by
  refine any_next [10] (by kernel_rfl) (by decide) fun i hi => ?_
  obtain rfl := two1 hi
  · exact any_one _ (v := vjnS_2_0 z 10) tabok_jnS hojnS_2_10 (trivial) (by kernel_rfl) (by kernel_rfl) (by kernel_rfl) (anjnS_2_116 hc)
theorem anjnS_2_118 {z : zjnS_2} (hc : cjnS_2_0 z) : ajnS_2_0 z 25 511 (qjnS_2_0 z 511 []) (HjnS_2_0 z []) := by
  refine any_next [9] (by kernel_rfl) (by decide) fun i hi => ?_
  obtain rfl := two1 hi
  · exact any_one _ (v := vjnS_2_0 z 9) tabok_jnS hojnS_2_9 (trivial) (by kernel_rfl) (by kernel_rfl) (by kernel_rfl) (anjnS_2_117 hc)
theorem anjnS_2_119 {z : zjnS_2} (hc : cjnS_2_0 z) : ajnS_2_0 z 26 255 (qjnS_2_0 z 255 []) (HjnS_2_0 z []) := by
  refine any_next [8] (by kernel_rfl) (by decide) fun i hi => ?_
  obtain rfl := two1 hi
  · exact any_one _ (v := vjnS_2_0 z 8) tabok_jnS hojnS_2_8 (⟨19, by kernel_rfl, by kernel_rfl⟩) (by
      refine Eq.trans (b := some ((.bool ((((yjnS_26 z) : Nat) : Int) == 0)), [.at (yjnS_22 z) (.as 1 [.sl 2 0 (yjnS_23 z), .sl 3 0 (yjnS_24 z)]), .at (yjnS_25 z) (.as 1 [.sl 4 0 (yjnS_26 z), .sl 5 0 (yjnS_27 z)]), .at (yjnS_28 z) (.fl .f32 (yjnS_29 z)), .at (yjnS_210 z) (.fl .f32 (yjnS_211 z)), .at (yjnS_212 z) (.fl .f32 (yjnS_213 z)), .at (yjnS_214 z) (.fl .f32 (yjnS_215 z)), .at true (.as 1 [.nil, .nil])])) (by kernel_rfl) ?_
      rw [hc.2.1]
      try rfl) (by kernel_rfl) (by kernel_rfl) (anjnS_2_118 hc)
theorem anjnS_2_120 {z : zjnS_2} (hc : cjnS_2_0 z) : ajnS_2_0 z 27 127 (qjnS_2_0 z 127 []) (HjnS_2_0 z []) := by
  refine any_next [7] (by kernel_rfl) (by decide) fun i hi => ?_
  obtain rfl := two1 hi
  · exact any_one _ (v := vjnS_2_0 z 7) tabok_jnS hojnS_2_7 (⟨19, by kernel_rfl, by kernel_rfl⟩) (by kernel_rfl) (by kernel_rfl) (by kernel_rfl) (anjnS_2_119 hc)
theorem anjnS_2_121 {z : zjnS_2} (hc : cjnS_2_0 z) : ajnS_2_0 z 28 63 (qjnS_2_0 z 63 []) (HjnS_2_0 z []) := by
  refine any_next [6] (by kernel_rfl) (by decide) fun i hi => ?_
  obtain rfl := two1 hi
  · exact any_one _ (v := vjnS_2_0 z 6) tabok_jnS hojnS_2_6 (⟨19, by kernel_rfl, by kernel_rfl⟩) (by kernel_rfl) (by kernel_rfl) (by kernel_rfl) (anjnS_2_120 hc)
theorem anjnS_2_122 {z : zjnS_2} (hc : cjnS_2_0 z) : ajnS_2_0 z 29 31 (qjnS_2_0 z 31 []) (HjnS_2_0 z []) := by
  refine any_next [5] (by kernel_rfl) (by decide) fun i hi => ?_
  obtain rfl := two1 hi
  · exact any_one _ (v := vjnS_2_0 z 5) tabok_jnS hojnS_2_5 (⟨19, by kernel_rfl, by kernel_rfl⟩) (by kernel_rfl) (by kernel_rfl) (by kernel_rfl) (anjnS_2_121 hc)
theorem anjnS_2_123 {z : zjnS_2} (hc : cjnS_2_0 z) : ajnS_2_0 z 30 15 (qjnS_2_0 z 15 []) (HjnS_2_0 z []) := by
  refine any_next [4] (by kernel_rfl) (by decide) fun i hi => ?_
  obtain rfl := two1 hi
  · exact any_one _ (v := vjnS_2_0 z 4) tabok_jnS hojnS_2_4 (⟨19, by kernel_rfl, by kernel_rfl⟩) (by kernel_rfl) (by kernel_rfl) (by kernel_rfl) (anjnS_2_122 hc)
theorem anjnS_2_124 {z : zjnS_2} (hc : cjnS_2_0 z) : ajnS_2_0 z 31 7 (qjnS_2_0 z 7 []) (HjnS_2_0 z []) := by
  refine any_next [3] (by kernel_rfl) (by decide) fun i hi => ?_
  obtain rfl := two1 hi
  · exact any_one _ (v := vjnS_2_0 z 3) tabok_jnS hojnS_2_3 (⟨19, by kernel_rfl, by kernel_rfl⟩) (by kernel_rfl) (by kernel_rfl) (by kernel_rfl) (anjnS_2_123 hc)
theorem anjnS_2_125 {z : zjnS_2} (hc : cjnS_2_0 z) : ajnS_2_0 z 32 3 (qjnS_2_0 z 3 []) (HjnS_2_0 z []) := by
  refine any_next [2] (by kernel_rfl) (by decide) fun i hi => ?_
  obtain rfl := two1 hi
  · exact any_one _ (v := vjnS_2_0 z 2) tabok_jnS hojnS_2_2 (trivial) (by kernel_rfl) (by kernel_rfl) (by kernel_rfl) (anjnS_2_124 hc)
theorem anjnS_2_126 {z : zjnS_2} (hc : cjnS_2_0 z) : ajnS_2_0 z 33 1 (qjnS_2_0 z 1 []) (HjnS_2_0 z []) := by
  refine any_next [1] (by kernel_rfl) (by decide) fun i hi => ?_
  obtain rfl := two1 hi
  · exact any_one _ (v := vjnS_2_0 z 1) tabok_jnS hojnS_2_1 (trivial) (by
      refine Eq.trans (b := some ((.bool ((yjnS_21 z) == 0)), [.at (yjnS_22 z) (.as 1 [.sl 2 0 (yjnS_23 z), .sl 3 0 (yjnS_24 z)]), .at (yjnS_25 z) (.as 1 [.sl 4 0 (yjnS_26 z), .sl 5 0 (yjnS_27 z)]), .at (yjnS_28 z) (.fl .f32 (yjnS_29 z)), .at (yjnS_210 z) (.fl .f32 (yjnS_211 z)), .at (yjnS_212 z) (.fl .f32 (yjnS_213 z)), .at (yjnS_214 z) (.fl .f32 (yjnS_215 z)), .at true (.as 1 [.nil, .nil])])) (by kernel_rfl) ?_
      rw [hc.1]
      try rfl) (by kernel_rfl) (by kernel_rfl) (anjnS_2_125 hc)
theorem anjnS_2_127 {z : zjnS_2} (hc : cjnS_2_0 z) : ajnS_2_0 z 34 0 (qjnS_2_0 z 0 []) (HjnS_2_0 z []) := by
  refine any_next [0] (by kernel_rfl) (by decide) fun i hi => ?_
  obtain rfl := two1 hi
  · exact any_one _ (v := vjnS_2_0 z 0) tabok_jnS hojnS_2_0 (trivial) (by kernel_rfl) (by kernel_rfl) (by kernel_rfl) (anjnS_2_126 hc)
theorem toljnS_2_0 (z2 : Nat) (z4 : Int) (z5 : Bool) (z7 : Nat) (z9 : Nat) (z10 : Bool) (z12 : Nat) (z14 : Nat) (z15 : Bool) (z16 : List Nat) (z17 : Bool) (z18 : List Nat) (z19 : Bool) (z20 : List Nat) (z21 : Bool) (z22 : List Nat) (hc : cjnS_2_0 (z2, z4, z5, z7, z9, z10, z12, z14, z15, z16, z17, z18, z19, z20, z21, z22)) {st : St} (hl : st.t.length = 111) (et : viewT [0, 1, 2, 6, 8] 111 st.t = (.ptr 0 0 :: .ptr 1 0 :: .fl .f32 z2 :: .any :: .any :: .any :: .ptr 6 0 :: .any :: .int .i64 z4 :: (anys 102 []))) (eh : st.h = [.at z5 (.as 1 [.sl 2 0 z7, .sl 3 0 z9]), .at z10 (.as 1 [.sl 4 0 z12, .sl 5 0 z14]), .at z15 (.fl .f32 z16), .at z17 (.fl .f32 z18), .at z19 (.fl .f32 z20), .at z21 (.fl .f32 z22), .at true (.as 1 [.nil, .nil])]) {μ0 : Mu} {h0 : H} {w0 : World} {Q : Exit → Act → World → Prop} (hQ : ∀ μ a w, Inv μ0 h0 w0 μ (⟨(.ptr 0 0 :: .ptr 1 0 :: .fl .f32 z2 :: .any :: .any :: .any :: .ptr 6 0 :: .any :: .int .i64 z4 :: (anys 41 (.bool (!(sN ((z18[0 + (z4).toNat * 1]?).getD 0) ((z22[0]?).getD 0))) :: (anys 60 [])))), [.at z5 (.as 1 [.sl 2 0 z7, .sl 3 0 z9]), .at z10 (.as 1 [.sl 4 0 z12, .sl 5 0 z14]), .at z15 (.fl .f32 z16), .at z17 (.fl .f32 z18), .at z19 (.fl .f32 z20), .at z21 (.fl .f32 z22), .at true (.as 1 [.nil, .nil])]⟩ : St) a w → Q .normal a w) {μ : Mu} {a : Act} {w : World} (hi : Inv μ0 h0 w0 μ st a w) : (Code.region 2 opsjnS_2 true).wp Try.prog Q a w :=
  told (L0 := bitsA 34 0) (T0 := qjnS_2_0 (z2, z4, z5, z7, z9, z10, z12, z14, z15, z16, z17, z18, z19, z20, z21, z22) 0 []) (H0 := HjnS_2_0 (z2, z4, z5, z7, z9, z10, z12, z14, z15, z16, z17, z18, z19, z20, z21, z22) []) [0, 1, 2, 6, 8, 50] mixed (by kernel_rfl : opsjnS_2.size = 34) (by kernel_rfl) hl (et.trans (by kernel_rfl)) (eh.trans (by kernel_rfl)) rfl (anjnS_2_127 hc) hQ hi
def vjnS_2_1 (z : zjnS_2) : Nat → V
  | 0 => .int .i64 (yjnS_21 z)
  | 1 => .bool false
  | 2 => .bool false
  | 3 => .ptr 1 0
  | 4 => .ptr 1 0
  | 5 => .ptr 1 0
  | 6 => .sl 4 0 (yjnS_26 z)
  | 7 => .int .i64 (((yjnS_26 z) : Nat) : Int)
  | 8 => .bool false
  | 9 => .bool false
  | 10 => .bool false
  | 11 => .fl .f32 (yjnS_20 z)
  | 12 => .bool false
  | 13 => .bool true
  | 14 => .bool true
  | 15 => .bool true
  | 16 => V.no
  | 17 => V.no
  | 18 => V.no
  | 19 => V.no
  | 20 => V.no
  | 21 => V.no
  | 22 => V.no
  | 23 => V.no
  | 24 => V.no
  | 25 => V.no
  | 26 => V.no
  | 27 => V.no
  | 28 => V.no
  | 29 => V.no
  | 30 => V.no
  | 31 => V.no
  | 32 => V.no
  | 33 => .bool true
  | _ => .any
def qjnS_2_1 (z : zjnS_2) (k : Nat) (l : List (Nat × V)) : List V := setsA l (setsA (selA k [(0, 17), (1, 18), (2, 19), (3, 20), (4, 21), (5, 22), (6, 23), (7, 24), (8, 25), (9, 26), (10, 27), (11, 28), (12, 29), (13, 30), (14, 31), (15, 32), (16, 33), (17, 34), (18, 35), (19, 36), (20, 37), (21, 38), (22, 39), (23, 40), (24, 41), (25, 42), (26, 43), (27, 44), (28, 45), (29, 46), (30, 47), (31, 48), (32, 49), (33, 50)] (vjnS_2_1 z)) (sjnS_2 z))
def cjnS_2_1 (z : zjnS_2) : Prop := ((yjnS_21 z) == 0) = false ∧ ((((yjnS_26 z) : Nat) : Int) == 0) = false ∧ (posB (yjnS_20 z)) = false
abbrev ajnS_2_1 (z : zjnS_2) (m k : Nat) (t : List V) (h : H) : Prop := AnyRun Try.prog opsjnS_2 (FinTo [0, 1, 2, 6, 8, 50] 7 (⟨(.ptr 0 0 :: .ptr 1 0 :: .fl .f32 (yjnS_20 z) :: .any :: .any :: .any :: .ptr 6 0 :: .any :: .int .i64 (yjnS_21 z) :: (anys 41 (.bool true :: (anys 60 [])))), [.at (yjnS_22 z) (.as 1 [.sl 2 0 (yjnS_23 z), .sl 3 0 (yjnS_24 z)]), .at (yjnS_25 z) (.as 1 [.sl 4 0 (yjnS_26 z), .sl 5 0 (yjnS_27 z)]), .at (yjnS_28 z) (.fl .f32 (yjnS_29 z)), .at (yjnS_210 z) (.fl .f32 (yjnS_211 z)), .at (yjnS_212 z) (.fl .f32 (yjnS_213 z)), .at (yjnS_214 z) (.fl .f32 (yjnS_215 z)), .at true (.as 1 [.nil, .nil])]⟩ : St)) m (bitsA 34 k) t h
def bjnS_2_1 (z : zjnS_2) : Nat → B
  | _ => .gone
def HjnS_2_1 (z : zjnS_2) (l : List Nat) : H := hjnS_2 z ++ l.map (bjnS_2_1 z)
theorem anjnS_2_128 {z : zjnS_2} (hc : cjnS_2_1 z) : ajnS_2_1 z 0 17179869183 (qjnS_2_1 z 17179869183 []) (HjnS_2_1 z []) := ⟨by kernel_rfl, [0, 1, 2, 3, 4, 5, 6], by decide, by decide, by kernel_rfl, by kernel_rfl⟩
theorem anjnS_2_129 {z : zjnS_2} (hc : cjnS_2_1 z) : ajnS_2_1 z 1 8589934591 (qjnS_2_1 z 8589934591 []) (HjnS_2_1 z []) := by
  refine any_next [33] (by kernel_rfl) (by decide) fun i hi => ?_
  obtain rfl := two1 hi
  · exact any_one _ (v := vjnS_2_1 z 33) tabok_jnS hojnS_2_33 (trivial) (by kernel_rfl) (by kernel_rfl) (by kernel_rfl) (anjnS_2_128 hc)
theorem anjnS_2_130 {z : zjnS_2} (hc : cjnS_2_1 z) : ajnS_2_1 z 2 4294967295 (qjnS_2_1 z 4294967295 []) (HjnS_2_1 z []) := by
  refine any_next [32] (by kernel_rfl) (by decide) fun i hi => ?_
  obtain rfl := two1 hi
  · exact any_skip (dd := 32) hojnS_2_32 (by kernel_rfl) (.inl (by kernel_rfl)) (by kernel_rfl) (by kernel_rfl) (anjnS_2_129 hc)
theorem anjnS_2_131 {z : zjnS_2} (hc : cjnS_2_1 z) : ajnS_2_1 z 3 2147483647 (qjnS_2_1 z 2147483647 []) (HjnS_2_1 z []) := by
  refine any_next [31] (by kernel_rfl) (by decide) fun i hi => ?_
  obtain rfl := two1 hi
  · exact any_skip (dd := 32) hojnS_2_31 (by kernel_rfl) (.inl (by kernel_rfl)) (by kernel_rfl) (by kernel_rfl) (anjnS_2_130 hc)
theorem anjnS_2_132 {z : zjnS_2} (hc : cjnS_2_1 z) : ajnS_2_1 z 4 1073741823 (qjnS_2_1 z 1073741823 []) (HjnS_2_1 z []) := by
  refine any_next [30] (by kernel_rfl) (by decide) fun i hi => ?_
  obtain rfl := two1 hi
  · exact any_skip (dd := 32) hojnS_2_30 (by kernel_rfl) (.inl (by kernel_rfl)) (by kernel_rfl) (by kernel_rfl) (anjnS_2_131 hc)
theorem anjnS_2_133 {z : zjnS_2} (hc : cjnS_2_1 z) : ajnS_2_1 z 5 536870911 (qjnS_2_1 z 536870911 []) (HjnS_2_1 z []) := by
  refine any_next [29] (by kernel_rfl) (by decide) fun i hi => ?_
  obtain rfl := two1 hi
  · exact any_skip (dd := 32) hojnS_2_29 (by kernel_rfl) (.inl (by kernel_rfl)) (by kernel_rfl) (by kernel_rfl) (anjnS_2_132 hc)
theorem anjnS_2_134 {z : zjnS_2} (hc : cjnS_2_1 z) : ajnS_2_1 z 6 268435455 (qjnS_2_1 z 268435455 []) (HjnS_2_1 z []) := by
  refine any_next [28] (by kernel_rfl) (by decide) fun i hi => ?_
  obtain rfl := two1 hi
  · exact any_skip (dd := 32) hojnS_2_28 (by kernel_rfl) (.inl (by kernel_rfl)) (by kernel_rfl) (by kernel_rfl) (anjnS_2_133 hc)
theorem anjnS_2_135 {z : zjnS_2} (hc : cjnS_2_1 z) : ajnS_2_1 z 7 134217727 (qjnS_2_1 z 134217727 []) (HjnS_2_1 z []) := by
  refine any_next [27] (by kernel_rfl) (by decide) fun i hi => ?_
  obtain rfl := two1 hi
  · exact any_skip (dd := 32) hojnS_2_27 (by kernel_rfl) (.inl (by kernel_rfl)) (by kernel_rfl) (by kernel_rfl) (anjnS_2_134 hc)
theorem anjnS_2_136 {z : zjnS_2} (hc : cjnS_2_1 z) : ajnS_2_1 z 8 67108863 (qjnS_2_1 z 67108863 []) (HjnS_2_1 z []) := by
  refine any_next [26] (by kernel_rfl) (by decide) fun i hi => ?_
  obtain rfl := two1 hi
  · exact any_skip (dd := 32) hojnS_2_26 (by kernel_rfl) (.inl (by kernel_rfl)) (by kernel_rfl) (by kernel_rfl) (anjnS_2_135 hc)
theorem anjnS_2_137 {z : zjnS_2} (hc : cjnS_2_1 z) : ajnS_2_1 z 9 33554431 (qjnS_2_1 z 33554431 []) (HjnS_2_1 z []) := by
  refine any_next [25] (by kernel_rfl) (by decide) fun i hi => ?_
  obtain rfl := two1 hi
  · exact any_skip (dd := 32) hojnS_2_25 (by kernel_rfl) (.inl (by kernel_rfl)) (by kernel_rfl) (by kernel_rfl) (anjnS_2_136 hc)
theorem anjnS_2_138 {z : zjnS_2} (hc : cjnS_2_1 z) : ajnS_2_1 z 10 16777215 (qjnS_2_1 z 16777215 []) (HjnS_2_1 z []) := by
  refine any_next [24] (by kernel_rfl) (by decide) fun i hi => ?_
  obtain rfl := two1 hi
  · exact any_skip (dd := 32) hojnS_2_24 (by kernel_rfl) (.inl (by kernel_rfl)) (by kernel_rfl) (by kernel_rfl) (anjnS_2_137 hc)
theorem anjnS_2_139 {z : zjnS_2} (hc : cjnS_2_1 z) : ajnS_2_1 z 4 2139095039 (qjnS_2_1 z 2139095039 []) (HjnS_2_1 z []) := by
  refine any_next [23] (by kernel_rfl) (by decide) fun i hi => ?_
  obtain rfl := two1 hi
  · exact any_skip (dd := 32) hojnS_2_23 (by kernel_rfl) (.inl (by kernel_rfl)) (by kernel_rfl) (by kernel_rfl) (anjnS_2_131 hc)
theorem anjnS_2_140 {z : zjnS_2} (hc : cjnS_2_1 z) : ajnS_2_1 z 5 1065353215 (qjnS_2_1 z 1065353215 []) (HjnS_2_1 z []) := by
  refine any_next [23, 30] (by kernel_rfl) (by decide) fun i hi => ?_
  rcases two2 hi with rfl | rfl
  · exact any_skip (dd := 32) hojnS_2_23 (by kernel_rfl) (.inl (by kernel_rfl)) (by kernel_rfl) (by kernel_rfl) (anjnS_2_132 hc)
  · exact any_skip (dd := 32) hojnS_2_30 (by kernel_rfl) (.inl (by kernel_rfl)) (by kernel_rfl) (by kernel_rfl) (anjnS_2_139 hc)
theorem anjnS_2_141 {z : zjnS_2} (hc : cjnS_2_1 z) : ajnS_2_1 z 6 528482303 (qjnS_2_1 z 528482303 []) (HjnS_2_1 z []) := by
  refine any_next [23, 29] (by kernel_rfl) (by decide) fun i hi => ?_
  rcases two2 hi with rfl | rfl
  · exact any_skip (dd := 32) hojnS_2_23 (by kernel_rfl) (.inl (by kernel_rfl)) (by kernel_rfl) (by kernel_rfl) (anjnS_2_133 hc)
  · exact any_skip (dd := 32) hojnS_2_29 (by kernel_rfl) (.inl (by kernel_rfl)) (by kernel_rfl) (by kernel_rfl) (anjnS_2_140 hc)
theorem anjnS_2_142 {z : zjnS_2} (hc : cjnS_2_1 z) : ajnS_2_1 z 7 260046847 (qjnS_2_1 z 260046847 []) (HjnS_2_1 z []) := by
  refine any_next [23, 28] (by kernel_rfl) (by decide) fun i hi => ?_
  rcases two2 hi with rfl | rfl
  · exact any_skip (dd := 32) hojnS_2_23 (by kernel_rfl) (.inl (by kernel_rfl)) (by kernel_rfl) (by kernel_rfl) (anjnS_2_134 hc)
  · exact any_skip (dd := 32) hojnS_2_28 (by kernel_rfl) (.inl (by kernel_rfl)) (by kernel_rfl) (by kernel_rfl) (anjnS_2_141 hc)
theorem anjnS_2_143 {z : zjnS_2} (hc : cjnS_2_1 z) : ajnS_2_1 z 8 125829119 (qjnS_2_1 z 125829119 []) (HjnS_2_1 z []) := by
  refine any_next [23, 27] (by kernel_rfl) (by decide) fun i hi => ?_
  rcases two2 hi with rfl | rfl
  · exact any_skip (dd := 32) hojnS_2_23 (by kernel_rfl) (.inl (by kernel_rfl)) (by kernel_rfl) (by kernel_rfl) (anjnS_2_135 hc)
  · exact any_skip (dd := 32) hojnS_2_27 (by kernel_rfl) (.inl (by kernel_rfl)) (by kernel_rfl) (by kernel_rfl) (anjnS_2_142 hc)
theorem anjnS_2_144 {z : zjnS_2} (hc : cjnS_2_1 z) : ajnS_2_1 z 9 58720255 (qjnS_2_1 z 58720255 []) (HjnS_2_1 z []) := by
  refine any_next [23, 26] (by kernel_rfl) (by decide) fun i hi => ?_
  rcases two2 hi with rfl | rfl
  · exact any_skip (dd := 32) hojnS_2_23 (by kernel_rfl) (.inl (by kernel_rfl)) (by kernel_rfl) (by kernel_rfl) (anjnS_2_136 hc)
  · exact any_skip (dd := 32) hojnS_2_26 (by kernel_rfl) (.inl (by kernel_rfl)) (by kernel_rfl) (by kernel_rfl) (anjnS_2_143 hc)
theorem anjnS_2_145 {z : zjnS_2} (hc : cjnS_2_1 z) : ajnS_2_1 z 10 25165823 (qjnS_2_1 z 25165823 []) (HjnS_2_1 z []) := by
  refine any_next [23, 25] (by kernel_rfl) (by decide) fun i hi => ?_
  rcases two2 hi with rfl | rfl
  · exact any_skip (dd := 32) hojnS_2_23 (by kernel_rfl) (.inl (by kernel_rfl)) (by kernel_rfl) (by kernel_rfl) (anjnS_2_137 hc)
  · exact any_skip (dd := 32) hojnS_2_25 (by kernel_rfl) (.inl (by kernel_rfl)) (by kernel_rfl) (by kernel_rfl) (anjnS_2_144 hc)
theorem anjnS_2_146 {z : zjnS_2} (hc : cjnS_2_1 z) : ajnS_2_1 z 11 8388607 (qjnS_2_1 z 8388607 []) (HjnS_2_1 z []) := by
  refine any_next [23, 24] (by kernel_rfl) (by decide) fun i hi => ?_
  rcases two2 hi with rfl | rfl
  · exact any_skip (dd := 32) hojnS_2_23 (by kernel_rfl) (.inl (by kernel_rfl)) (by kernel_rfl) (by kernel_rfl) (anjnS_2_138 hc)
  · exact any_skip (dd := 32) hojnS_2_24 (by kernel_rfl) (.inl (by kernel_rfl)) (by kernel_rfl) (by kernel_rfl) (anjnS_2_145 hc)
theorem anjnS_2_147 {z : zjnS_2} (hc : cjnS_2_1 z) : ajnS_2_1 z 5 2134900735 (qjnS_2_1 z 2134900735 []) (HjnS_2_1 z []) := by
  refine any_next [22] (by kernel_rfl) (by decide) fun i hi => ?_
  obtain rfl := two1 hi
  · exact any_skip (dd := 32) hojnS_2_22 (by kernel_rfl) (.inl (by kernel_rfl)) (by kernel_rfl) (by kernel_rfl) (anjnS_2_139 hc)
theorem anjnS_2_148 {z : zjnS_2} (hc : cjnS_2_1 z) : ajnS_2_1 z 6 1061158911 (qjnS_2_1 z 1061158911 []) (HjnS_2_1 z []) := by
  refine any_next [22, 30] (by kernel_rfl) (by decide) fun i hi => ?_
  rcases two2 hi with rfl | rfl
  · exact any_skip (dd := 32) hojnS_2_22 (by kernel_rfl) (.inl (by kernel_rfl)) (by kernel_rfl) (by kernel_rfl) (anjnS_2_140 hc)
  · exact any_skip (dd := 32) hojnS_2_30 (by kernel_rfl) (.inl (by kernel_rfl)) (by kernel_rfl) (by kernel_rfl) (anjnS_2_147 hc)
theorem anjnS_2_149 {z : zjnS_2} (hc : cjnS_2_1 z) : ajnS_2_1 z 7 524287999 (qjnS_2_1 z 524287999 []) (HjnS_2_1 z []) := by
  refine any_next [22, 29] (by kernel_rfl) (by decide) fun i hi => ?_
  rcases two2 hi with rfl | rfl
  · exact any_skip (dd := 32) hojnS_2_22 (by kernel_rfl) (.inl (by kernel_rfl)) (by kernel_rfl) (by kernel_rfl) (anjnS_2_141 hc)
  · exact any_skip (dd := 32) hojnS_2_29 (by kernel_rfl) (.inl (by kernel_rfl)) (by kernel_rfl) (by kernel_rfl) (anjnS_2_148 hc)
theorem anjnS_2_150 {z : zjnS_2} (hc : cjnS_2_1 z) : ajnS_2_1 z 8 255852543 (qjnS_2_1 z 255852543 []) (HjnS_2_1 z []) := by
  refine any_next [22, 28] (by kernel_rfl) (by decide) fun i hi => ?_
  rcases two2 hi with rfl | rfl
  · exact any_skip (dd := 32) hojnS_2_22 (by kernel_rfl) (.inl (by kernel_rfl)) (by kernel_rfl) (by kernel_rfl) (anjnS_2_142 hc)
  · exact any_skip (dd := 32) hojnS_2_28 (by kernel_rfl) (.inl (by kernel_rfl)) (by kernel_rfl) (by kernel_rfl) (anjnS_2_149 hc)
theorem anjnS_2_151 {z : zjnS_2} (hc : cjnS_2_1 z) : ajnS_2_1 z 9 121634815 (qjnS_2_1 z 121634815 []) (HjnS_2_1 z []) := by
  refine any_next [22, 27] (by kernel_rfl) (by decide) fun i hi => ?_
  rcases two2 hi with rfl | rfl
  · exact any_skip (dd := 32) hojnS_2_22 (by kernel_rfl) (.inl (by kernel_rfl)) (by kernel_rfl) (by kernel_rfl) (anjnS_2_143 hc)
  · exact any_skip (dd := 32) hojnS_2_27 (by kernel_rfl) (.inl (by kernel_rfl)) (by kernel_rfl) (by kernel_rfl) (anjnS_2_150 hc)
theorem anjnS_2_152 {z : zjnS_2} (hc : cjnS_2_1 z) : ajnS_2_1 z 10 54525951 (qjnS_2_1 z 54525951 []) (HjnS_2_1 z []) := by
  refine any_next [22, 26] (by kernel_rfl) (by decide) fun i hi => ?_
  rcases two2 hi with rfl | rfl
  · exact any_skip (dd := 32) hojnS_2_22 (by kernel_rfl) (.inl (by kernel_rfl)) (by kernel_rfl) (by kernel_rfl) (anjnS_2_144 hc)
  · exact any_skip (dd := 32) hojnS_2_26 (by kernel_rfl) (.inl (by kernel_rfl)) (by kernel_rfl) (by kernel_rfl) (anjnS_2_151 hc)
theorem anjnS_2_153 {z : zjnS_2} (hc : cjnS_2_1 z) : ajnS_2_1 z 11 20971519 (qjnS_2_1 z 20971519 []) (HjnS_2_1 z []) := by
  refine any_next [22, 25] (by kernel_rfl) (by decide) fun i hi => ?_
  rcases two2 hi with rfl | rfl
  · exact any_skip (dd := 32) hojnS_2_22 (by kernel_rfl) (.inl (by kernel_rfl)) (by kernel_rfl) (by kernel_rfl) (anjnS_2_145 hc)
  · exact any_skip (dd := 32) hojnS_2_25 (by kernel_rfl) (.inl (by kernel_rfl)) (by kernel_rfl) (by kernel_rfl) (anjnS_2_152 hc)
theorem anjnS_2_154 {z : zjnS_2} (hc : cjnS_2_1 z) : ajnS_2_1 z 12 4194303 (qjnS_2_1 z 4194303 []) (HjnS_2_1 z []) := by
  refine any_next [22, 24] (by kernel_rfl) (by decide) fun i hi => ?_
  rcases two2 hi with rfl | rfl
  · exact any_skip (dd := 32) hojnS_2_22 (by kernel_rfl) (.inl (by kernel_rfl)) (by kernel_rfl) (by kernel_rfl) (anjnS_2_146 hc)
  · exact any_skip (dd := 32) hojnS_2_24 (by kernel_rfl) (.inl (by kernel_rfl)) (by kernel_rfl) (by kernel_rfl) (anjnS_2_153 hc)
theorem anjnS_2_155 {z : zjnS_2} (hc : cjnS_2_1 z) : ajnS_2_1 z 6 2132803583 (qjnS_2_1 z 2132803583 []) (HjnS_2_1 z []) := by
  refine any_next [21] (by kernel_rfl) (by decide) fun i hi => ?_
  obtain rfl := two1 hi
  · exact any_skip (dd := 32) hojnS_2_21 (by kernel_rfl) (.inl (by kernel_rfl)) (by kernel_rfl) (by kernel_rfl) (anjnS_2_147 hc)
theorem anjnS_2_156 {z : zjnS_2} (hc : cjnS_2_1 z) : ajnS_2_1 z 7 1059061759 (qjnS_2_1 z 1059061759 []) (HjnS_2_1 z []) := by
  refine any_next [21, 30] (by kernel_rfl) (by decide) fun i hi => ?_
  rcases two2 hi with rfl | rfl
  · exact any_skip (dd := 32) hojnS_2_21 (by kernel_rfl) (.inl (by kernel_rfl)) (by kernel_rfl) (by kernel_rfl) (anjnS_2_148 hc)
  · exact any_skip (dd := 32) hojnS_2_30 (by kernel_rfl) (.inl (by kernel_rfl)) (by kernel_rfl) (by kernel_rfl) (anjnS_2_155 hc)
theorem anjnS_2_157 {z : zjnS_2} (hc : cjnS_2_1 z) : ajnS_2_1 z 8 522190847 (qjnS_2_1 z 522190847 []) (HjnS_2_1 z []) := by
  refine any_next [21, 29] (by kernel_rfl) (by decide) fun i hi => ?_
  rcases two2 hi with rfl | rfl
  · exact any_skip (dd := 32) hojnS_2_21 (by kernel_rfl) (.inl (by kernel_rfl)) (by kernel_rfl) (by kernel_rfl) (anjnS_2_149 hc)
  · exact any_skip (dd := 32) hojnS_2_29 (by kernel_rfl) (.inl (by kernel_rfl)) (by kernel_rfl) (by kernel_rfl) (anjnS_2_156 hc)
theorem anjnS_2_158 {z : zjnS_2} (hc : cjnS_2_1 z) : ajnS_2_1 z 9 253755391 (qjnS_2_1 z 253755391 []) (HjnS_2_1 z []) := by
  refine any_next [21, 28] (by kernel_rfl) (by decide) fun i hi => ?_
  rcases two2 hi with rfl | rfl
  · exact any_skip (dd := 32) hojnS_2_21 (by kernel_rfl) (.inl (by kernel_rfl)) (by kernel_rfl) (by kernel_rfl) (anjnS_2_150 hc)
  · exact any_skip (dd := 32) hojnS_2_28 (by kernel_rfl) (.inl (by kernel_rfl)) (by kernel_rfl) (by kernel_rfl) (anjnS_2_157 hc)
theorem anjnS_2_159 {z : zjnS_2} (hc : cjnS_2_1 z) : ajnS_2_1 z 10 119537663 (qjnS_2_1 z 119537663 []) (HjnS_2_1 z []) := by
  refine any_next [21, 27] (by kernel_rfl) (by decide) fun i hi => ?_
  rcases two2 hi with rfl | rfl
  · exact any_skip (dd := 32) hojnS_2_21 (by kernel_rfl) (.inl (by kernel_rfl)) (by kernel_rfl) (by kernel_rfl) (anjnS_2_151 hc)
  · exact any_skip (dd := 32) hojnS_2_27 (by kernel_rfl) (.inl (by kernel_rfl)) (by kernel_rfl) (by kernel_rfl) (anjnS_2_158 hc)
theorem anjnS_2_160 {z : zjnS_2} (hc : cjnS_2_1 z) : ajnS_2_1 z 11 52428799 (qjnS_2_1 z 52428799 []) (HjnS_2_1 z []) := by
  refine any_next [21, 26] (by kernel_rfl) (by decide) fun i hi => ?_
  rcases two2 hi with rfl | rfl
  · exact any_skip (dd := 32) hojnS_2_21 (by kernel_rfl) (.inl (by kernel_rfl)) (by kernel_rfl) (by kernel_rfl) (anjnS_2_152 hc)
  · exact any_skip (dd := 32) hojnS_2_26 (by kernel_rfl) (.inl (by kernel_rfl)) (by kernel_rfl) (by kernel_rfl) (anjnS_2_159 hc)
theorem anjnS_2_161 {z : zjnS_2} (hc : cjnS_2_1 z) : ajnS_2_1 z 12 18874367 (qjnS_2_1 z 18874367 []) (HjnS_2_1 z []) := by
  refine any_next [21, 25] (by kernel_rfl) (by decide) fun i hi => ?_
  rcases two2 hi with rfl | rfl
  · exact any_skip (dd := 32) hojnS_2_21 (by kernel_rfl) (.inl (by kernel_rfl)) (by kernel_rfl) (by kernel_rfl) (anjnS_2_153 hc)
  · exact any_skip (dd := 32) hojnS_2_25 (by kernel_rfl) (.inl (by kernel_rfl)) (by kernel_rfl) (by kernel_rfl) (anjnS_2_160 hc)
theorem anjnS_2_162 {z : zjnS_2} (hc : cjnS_2_1 z) : ajnS_2_1 z 13 2097151 (qjnS_2_1 z 2097151 []) (HjnS_2_1 z []) := by
  refine any_next [21, 24] (by kernel_rfl) (by decide) fun i hi => ?_
  rcases two2 hi with rfl | rfl
  · exact any_skip (dd := 32) hojnS_2_21 (by kernel_rfl) (.inl (by kernel_rfl)) (by kernel_rfl) (by kernel_rfl) (anjnS_2_154 hc)
  · exact any_skip (dd := 32) hojnS_2_24 (by kernel_rfl) (.inl (by kernel_rfl)) (by kernel_rfl) (by kernel_rfl) (anjnS_2_161 hc)
theorem anjnS_2_163 {z : zjnS_2} (hc : cjnS_2_1 z) : ajnS_2_1 z 7 2131755007 (qjnS_2_1 z 2131755007 []) (HjnS_2_1 z []) := by
  refine any_next [20] (by kernel_rfl) (by decide) fun i hi => ?_
  obtain rfl := two1 hi
  · exact any_skip (dd := 32) hojnS_2_20 (by kernel_rfl) (.inl (by kernel_rfl)) (by kernel_rfl) (by kernel_rfl) (anjnS_2_155 hc)
theorem anjnS_2_164 {z : zjnS_2} (hc : cjnS_2_1 z) : ajnS_2_1 z 8 1058013183 (qjnS_2_1 z 1058013183 []) (HjnS_2_1 z []) := by
  refine any_next [20, 30] (by kernel_rfl) (by decide) fun i hi => ?_
  rcases two2 hi with rfl | rfl
  · exact any_skip (dd := 32) hojnS_2_20 (by kernel_rfl) (.inl (by kernel_rfl)) (by kernel_rfl) (by kernel_rfl) (anjnS_2_156 hc)
  · exact any_skip (dd := 32) hojnS_2_30 (by kernel_rfl) (.inl (by kernel_rfl)) (by kernel_rfl) (by kernel_rfl) (anjnS_2_163 hc)
theorem anjnS_2_165 {z : zjnS_2} (hc : cjnS_2_1 z) : ajnS_2_1 z 9 521142271 (qjnS_2_1 z 521142271 []) (HjnS_2_1 z []) := by
  refine any_next [20, 29] (by kernel_rfl) (by decide) fun i hi => ?_
  rcases two2 hi with rfl | rfl
  · exact any_skip (dd := 32) hojnS_2_20 (by kernel_rfl) (.inl (by kernel_rfl)) (by kernel_rfl) (by kernel_rfl) (anjnS_2_157 hc)
  · exact any_skip (dd := 32) hojnS_2_29 (by kernel_rfl) (.inl (by kernel_rfl)) (by kernel_rfl) (by kernel_rfl) (anjnS_2_164 hc)
theorem anjnS_2_166 {z : zjnS_2} (hc : cjnS_2_1 z) : ajnS_2_1 z 10 252706815 (qjnS_2_1 z 252706815 []) (HjnS_2_1 z []) := by
  refine any_next [20, 28] (by kernel_rfl) (by decide) fun i hi => ?_
  rcases two2 hi with rfl | rfl
  · exact any_skip (dd := 32) hojnS_2_20 (by kernel_rfl) (.inl (by kernel_rfl)) (by kernel_rfl) (by kernel_rfl) (anjnS_2_158 hc)
  · exact any_skip (dd := 32) hojnS_2_28 (by kernel_rfl) (.inl (by kernel_rfl)) (by kernel_rfl) (by kernel_rfl) (anjnS_2_165 hc)
theorem anjnS_2_167 {z : zjnS_2} (hc : cjnS_2_1 z) : ajnS_2_1 z 11 118489087 (qjnS_2_1 z 118489087 []) (HjnS_2_1 z []) := by
  refine any_next [20, 27] (by kernel_rfl) (by decide) fun i hi => ?_
  rcases two2 hi with rfl | rfl
  · exact any_skip (dd := 32) hojnS_2_20 (by kernel_rfl) (.inl (by kernel_rfl)) (by kernel_rfl) (by kernel_rfl) (anjnS_2_159 hc)
  · exact any_skip (dd := 32) hojnS_2_27 (by kernel_rfl) (.inl (by kernel_rfl)) (by kernel_rfl) (by kernel_rfl) (anjnS_2_166 hc)
theorem anjnS_2_168 {z : zjnS_2} (hc : cjnS_2_1 z) : ajnS_2_1 z 12 51380223 (qjnS_2_1 z 51380223 []) (HjnS_2_1 z []) := by
  refine any_next [20, 26] (by kernel_rfl) (by decide) fun i hi => ?_
  rcases two2 hi with rfl | rfl
  · exact any_skip (dd := 32) hojnS_2_20 (by kernel_rfl) (.inl (by kernel_rfl)) (by kernel_rfl) (by kernel_rfl) (anjnS_2_160 hc)
  · exact any_skip (dd := 32) hojnS_2_26 (by kernel_rfl) (.inl (by kernel_rfl)) (by kernel_rfl) (by kernel_rfl) (anjnS_2_167 hc)
theorem anjnS_2_169 {z : zjnS_2} (hc : cjnS_2_1 z) : ajnS_2_1 z 13 17825791 (qjnS_2_1 z 17825791 []) (HjnS_2_1 z []) := by
  refine any_next [20, 25] (by kernel_rfl) (by decide) fun i hi => ?_
  rcases two2 hi with rfl | rfl
  · exact any_skip (dd := 32) hojnS_2_20 (by kernel_rfl) (.inl (by kernel_rfl)) (by kernel_rfl) (by kernel_rfl) (anjnS_2_161 hc)
  · exact any_skip (dd := 32) hojnS_2_25 (by kernel_rfl) (.inl (by kernel_rfl)) (by kernel_rfl) (by kernel_rfl) (anjnS_2_168 hc)
theorem anjnS_2_170 {z : zjnS_2} (hc : cjnS_2_1 z) : ajnS_2_1 z 14 1048575 (qjnS_2_1 z 1048575 []) (HjnS_2_1 z []) := by
  refine any_next [20, 24] (by kernel_rfl) (by decide) fun i hi => ?_
  rcases two2 hi with rfl | rfl
  · exact any_skip (dd := 32) hojnS_2_20 (by kernel_rfl) (.inl (by kernel_rfl)) (by kernel_rfl) (by kernel_rfl) (anjnS_2_162 hc)
  · exact any_skip (dd := 32) hojnS_2_24 (by kernel_rfl) (.inl (by kernel_rfl)) (by kernel_rfl) (by kernel_rfl) (anjnS_2_169 hc)
theorem anjnS_2_171 {z : zjnS_2} (hc : cjnS_2_1 z) : ajnS_2_1 z 7 2132279295 (qjnS_2_1 z 2132279295 []) (HjnS_2_1 z []) := by
  refine any_next [19] (by kernel_rfl) (by decide) fun i hi => ?_
  obtain rfl := two1 hi
  · exact any_skip (dd := 32) hojnS_2_19 (by kernel_rfl) (.inl (by kernel_rfl)) (by kernel_rfl) (by kernel_rfl) (anjnS_2_155 hc)
theorem anjnS_2_172 {z : zjnS_2} (hc : cjnS_2_1 z) : ajnS_2_1 z 8 1058537471 (qjnS_2_1 z 1058537471 []) (HjnS_2_1 z []) := by
  refine any_next [19, 30] (by kernel_rfl) (by decide) fun i hi => ?_
  rcases two2 hi with rfl | rfl
  · exact any_skip (dd := 32) hojnS_2_19 (by kernel_rfl) (.inl (by kernel_rfl)) (by kernel_rfl) (by kernel_rfl) (anjnS_2_156 hc)
  · exact any_skip (dd := 32) hojnS_2_30 (by kernel_rfl) (.inl (by kernel_rfl)) (by kernel_rfl) (by kernel_rfl) (anjnS_2_171 hc)
theorem anjnS_2_173 {z : zjnS_2} (hc : cjnS_2_1 z) : ajnS_2_1 z 9 521666559 (qjnS_2_1 z 521666559 []) (HjnS_2_1 z []) := by
  refine any_next [19, 29] (by kernel_rfl) (by decide) fun i hi => ?_
  rcases two2 hi with rfl | rfl
  · exact any_skip (dd := 32) hojnS_2_19 (by kernel_rfl) (.inl (by kernel_rfl)) (by kernel_rfl) (by kernel_rfl) (anjnS_2_157 hc)
  · exact any_skip (dd := 32) hojnS_2_29 (by kernel_rfl) (.inl (by kernel_rfl)) (by kernel_rfl) (by kernel_rfl) (anjnS_2_172 hc)
theorem anjnS_2_174 {z : zjnS_2} (hc : cjnS_2_1 z) : ajnS_2_1 z 10 253231103 (qjnS_2_1 z 253231103 []) (HjnS_2_1 z []) := by
  refine any_next [19, 28] (by kernel_rfl) (by decide) fun i hi => ?_
  rcases two2 hi with rfl | rfl
  · exact any_skip (dd := 32) hojnS_2_19 (by kernel_rfl) (.inl (by kernel_rfl)) (by kernel_rfl) (by kernel_rfl) (anjnS_2_158 hc)
  · exact any_skip (dd := 32) hojnS_2_28 (by kernel_rfl) (.inl (by kernel_rfl)) (by kernel_rfl) (by kernel_rfl) (anjnS_2_173 hc)
theorem anjnS_2_175 {z : zjnS_2} (hc : cjnS_2_1 z) : ajnS_2_1 z 11 119013375 (qjnS_2_1 z 119013375 []) (HjnS_2_1 z []) := by
  refine any_next [19, 27] (by kernel_rfl) (by decide) fun i hi => ?_
  rcases two2 hi with rfl | rfl
  · exact any_skip (dd := 32) hojnS_2_19 (by kernel_rfl) (.inl (by kernel_rfl)) (by kernel_rfl) (by kernel_rfl) (anjnS_2_159 hc)
  · exact any_skip (dd := 32) hojnS_2_27 (by kernel_rfl) (.inl (by kernel_rfl)) (by kernel_rfl) (by kernel_rfl) (anjnS_2_174 hc)
theorem anjnS_2_176 {z : zjnS_2} (hc : cjnS_2_1 z) : ajnS_2_1 z 12 51904511 (qjnS_2_1 z 51904511 []) (HjnS_2_1 z []) := by
  refine any_next [19, 26] (by kernel_rfl) (by decide) fun i hi => ?_
  rcases two2 hi with rfl | rfl
  · exact any_skip (dd := 32) hojnS_2_19 (by kernel_rfl) (.inl (by kernel_rfl)) (by kernel_rfl) (by kernel_rfl) (anjnS_2_160 hc)
  · exact any_skip (dd := 32) hojnS_2_26 (by kernel_rfl) (.inl (by kernel_rfl)) (by kernel_rfl) (by kernel_rfl) (anjnS_2_175 hc)
theorem anjnS_2_177 {z : zjnS_2} (hc : cjnS_2_1 z) : ajnS_2_1 z 13 18350079 (qjnS_2_1 z 18350079 []) (HjnS_2_1 z []) := by
  refine any_next [19, 25] (by kernel_rfl) (by decide) fun i hi => ?_
  rcases two2 hi with rfl | rfl
  · exact any_skip (dd := 32) hojnS_2_19 (by kernel_rfl) (.inl (by kernel_rfl)) (by kernel_rfl) (by kernel_rfl) (anjnS_2_161 hc)
  · exact any_skip (dd := 32) hojnS_2_25 (by kernel_rfl) (.inl (by kernel_rfl)) (by kernel_rfl) (by kernel_rfl) (anjnS_2_176 hc)
theorem anjnS_2_178 {z : zjnS_2} (hc : cjnS_2_1 z) : ajnS_2_1 z 14 1572863 (qjnS_2_1 z 1572863 []) (HjnS_2_1 z []) := by
  refine any_next [19, 24] (by kernel_rfl) (by decide) fun i hi => ?_
  rcases two2 hi with rfl | rfl
  · exact any_skip (dd := 32) hojnS_2_19 (by kernel_rfl) (.inl (by kernel_rfl)) (by kernel_rfl) (by kernel_rfl) (anjnS_2_162 hc)
  · exact any_skip (dd := 32) hojnS_2_24 (by kernel_rfl) (.inl (by kernel_rfl)) (by kernel_rfl) (by kernel_rfl) (anjnS_2_177 hc)
theorem anjnS_2_179 {z : zjnS_2} (hc : cjnS_2_1 z) : ajnS_2_1 z 8 2131230719 (qjnS_2_1 z 2131230719 []) (HjnS_2_1 z []) := by
  refine any_next [19, 20] (by kernel_rfl) (by decide) fun i hi => ?_
  rcases two2 hi with rfl | rfl
  · exact any_skip (dd := 32) hojnS_2_19 (by kernel_rfl) (.inl (by kernel_rfl)) (by kernel_rfl) (by kernel_rfl) (anjnS_2_163 hc)
  · exact any_skip (dd := 32) hojnS_2_20 (by kernel_rfl) (.inl (by kernel_rfl)) (by kernel_rfl) (by kernel_rfl) (anjnS_2_171 hc)
theorem anjnS_2_180 {z : zjnS_2} (hc : cjnS_2_1 z) : ajnS_2_1 z 9 1057488895 (qjnS_2_1 z 1057488895 []) (HjnS_2_1 z []) := by
  refine any_next [19, 20, 30] (by kernel_rfl) (by decide) fun i hi => ?_
  rcases two3 hi with rfl | rfl | rfl
  · exact any_skip (dd := 32) hojnS_2_19 (by kernel_rfl) (.inl (by kernel_rfl)) (by kernel_rfl) (by kernel_rfl) (anjnS_2_164 hc)
  · exact any_skip (dd := 32) hojnS_2_20 (by kernel_rfl) (.inl (by kernel_rfl)) (by kernel_rfl) (by kernel_rfl) (anjnS_2_172 hc)
  · exact any_skip (dd := 32) hojnS_2_30 (by kernel_rfl) (.inl (by kernel_rfl)) (by kernel_rfl) (by kernel_rfl) (anjnS_2_179 hc)
theorem anjnS_2_181 {z : zjnS_2} (hc : cjnS_2_1 z) : ajnS_2_1 z 10 520617983 (qjnS_2_1 z 520617983 []) (HjnS_2_1 z []) := by
  refine any_next [19, 20, 29] (by kernel_rfl) (by decide) fun i hi => ?_
  rcases two3 hi with rfl | rfl | rfl
  · exact any_skip (dd := 32) hojnS_2_19 (by kernel_rfl) (.inl (by kernel_rfl)) (by kernel_rfl) (by kernel_rfl) (anjnS_2_165 hc)
  · exact any_skip (dd := 32) hojnS_2_20 (by kernel_rfl) (.inl (by kernel_rfl)) (by kernel_rfl) (by kernel_rfl) (anjnS_2_173 hc)
  · exact any_skip (dd := 32) hojnS_2_29 (by kernel_rfl) (.inl (by kernel_rfl)) (by kernel_rfl) (by kernel_rfl) (anjnS_2_180 hc)
theorem anjnS_2_182 {z : zjnS_2} (hc : cjnS_2_1 z) : ajnS_2_1 z 11 252182527 (qjnS_2_1 z 252182527 []) (HjnS_2_1 z []) := by
  refine any_next [19, 20, 28] (by kernel_rfl) (by decide) fun i hi => ?_
  rcases two3 hi with rfl | rfl | rfl
  · exact any_skip (dd := 32) hojnS_2_19 (by kernel_rfl) (.inl (by kernel_rfl)) (by kernel_rfl) (by kernel_rfl) (anjnS_2_166 hc)
  · exact any_skip (dd := 32) hojnS_2_20 (by kernel_rfl) (.inl (by kernel_rfl)) (by kernel_rfl) (by kernel_rfl) (anjnS_2_174 hc)
  · exact any_skip (dd := 32) hojnS_2_28 (by kernel_rfl) (.inl (by kernel_rfl)) (by kernel_rfl) (by kernel_rfl) (anjnS_2_181 hc)
theorem anjnS_2_183 {z : zjnS_2} (hc : cjnS_2_1 z) : ajnS_2_1 z 12 117964799 (qjnS_2_1 z 117964799 []) (HjnS_2_1 z []) := by
  refine any_next [19, 20, 27] (by kernel_rfl) (by decide) fun i hi => ?_
  rcases two3 hi with rfl | rfl | rfl
  · exact any_skip (dd := 32) hojnS_2_19 (by kernel_rfl) (.inl (by kernel_rfl)) (by kernel_rfl) (by kernel_rfl) (anjnS_2_167 hc)
  · exact any_skip (dd := 32) hojnS_2_20 (by kernel_rfl) (.inl (by kernel_rfl)) (by kernel_rfl) (by kernel_rfl) (anjnS_2_175 hc)
  · exact any_skip (dd := 32) hojnS_2_27 (by kernel_rfl) (.inl (by kernel_rfl)) (by kernel_rfl) (by kernel_rfl) (anjnS_2_182 hc)
theorem anjnS_2_184 {z : zjnS_2} (hc : cjnS_2_1 z) : ajnS_2_1 z 13 50855935 (qjnS_2_1 z 50855935 []) (HjnS_2_1 z []) := by
  refine any_next [19, 20, 26] (by kernel_rfl) (by decide) fun i hi => ?_
  rcases two3 hi with rfl | rfl | rfl
  · exact any_skip (dd := 32) hojnS_2_19 (by kernel_rfl) (.inl (by kernel_rfl)) (by kernel_rfl) (by kernel_rfl) (anjnS_2_168 hc)
  · exact any_skip (dd := 32) hojnS_2_20 (by kernel_rfl) (.inl (by kernel_rfl)) (by kernel_rfl) (by kernel_rfl) (anjnS_2_176 hc)
  · exact any_skip (dd := 32) hojnS_2_26 (by kernel_rfl) (.inl (by kernel_rfl)) (by kernel_rfl) (by kernel_rfl) (anjnS_2_183 hc)
theorem anjnS_2_185 {z : zjnS_2} (hc : cjnS_2_1 z) : ajnS_2_1 z 14 17301503 (qjnS_2_1 z 17301503 []) (HjnS_2_1 z []) := by
  refine any_next [19, 20, 25] (by kernel_rfl) (by decide) fun i hi => ?_
  rcases two3 hi with rfl | rfl | rfl
  · exact any_skip (dd := 32) hojnS_2_19 (by kernel_rfl) (.inl (by kernel_rfl)) (by kernel_rfl) (by kernel_rfl) (anjnS_2_169 hc)
  · exact any_skip (dd := 32) hojnS_2_20 (by kernel_rfl) (.inl (by kernel_rfl)) (by kernel_rfl) (by kernel_rfl) (anjnS_2_177 hc)
  · exact any_skip (dd := 32) hojnS_2_25 (by kernel_rfl) (.inl (by kernel_rfl)) (by kernel_rfl) (by kernel_rfl) (anjnS_2_184 hc)
theorem anjnS_2_186 {z : zjnS_2} (hc : cjnS_2_1 z) : ajnS_2_1 z 15 524287 (qjnS_2_1 z 524287 []) (HjnS_2_1 z []) := by
  refine any_next [19, 20, 24] (by kernel_rfl) (by decide) fun i hi => ?_
  rcases two3 hi with rfl | rfl | rfl
  · exact any_skip (dd := 32) hojnS_2_19 (by kernel_rfl) (.inl (by kernel_rfl)) (by kernel_rfl) (by kernel_rfl) (anjnS_2_170 hc)
  · exact any_skip (dd := 32) hojnS_2_20 (by kernel_rfl) (.inl (by kernel_rfl)) (by kernel_rfl) (by kernel_rfl) (anjnS_2_178 hc)
  · exact any_skip (dd := 32) hojnS_2_24 (by kernel_rfl) (.inl (by kernel_rfl)) (by kernel_rfl) (by kernel_rfl) (anjnS_2_185 hc)
theorem anjnS_2_187 {z : zjnS_2} (hc : cjnS_2_1 z) : ajnS_2_1 z 8 2132017151 (qjnS_2_1 z 2132017151 []) (HjnS_2_1 z []) := by
  refine any_next [18] (by kernel_rfl) (by decide) fun i hi => ?_
  obtain rfl := two1 hi
  · exact any_skip (dd := 32) hojnS_2_18 (by kernel_rfl) (.inl (by kernel_rfl)) (by kernel_rfl) (by kernel_rfl) (anjnS_2_171 hc)
theorem anjnS_2_188 {z : zjnS_2} (hc : cjnS_2_1 z) : ajnS_2_1 z 9 1058275327 (qjnS_2_1 z 1058275327 []) (HjnS_2_1 z []) := by
  refine any_next [18, 30] (by kernel_rfl) (by decide) fun i hi => ?_
  rcases two2 hi with rfl | rfl
  · exact any_skip (dd := 32) hojnS_2_18 (by kernel_rfl) (.inl (by kernel_rfl)) (by kernel_rfl) (by kernel_rfl) (anjnS_2_172 hc)
  · exact any_skip (dd := 32) hojnS_2_30 (by kernel_rfl) (.inl (by kernel_rfl)) (by kernel_rfl) (by kernel_rfl) (anjnS_2_187 hc)
theorem anjnS_2_189 {z : zjnS_2} (hc : cjnS_2_1 z) : ajnS_2_1 z 10 521404415 (qjnS_2_1 z 521404415 []) (HjnS_2_1 z []) := by
  refine any_next [18, 29] (by kernel_rfl) (by decide) fun i hi => ?_
  rcases two2 hi with rfl | rfl
  · exact any_skip (dd := 32) hojnS_2_18 (by kernel_rfl) (.inl (by kernel_rfl)) (by kernel_rfl) (by kernel_rfl) (anjnS_2_173 hc)
  · exact any_skip (dd := 32) hojnS_2_29 (by kernel_rfl) (.inl (by kernel_rfl)) (by kernel_rfl) (by kernel_rfl) (anjnS_2_188 hc)
theorem anjnS_2_190 {z : zjnS_2} (hc : cjnS_2_1 z) : ajnS_2_1 z 11 252968959 (qjnS_2_1 z 252968959 []) (HjnS_2_1 z []) := by
  refine any_next [18, 28] (by kernel_rfl) (by decide) fun i hi => ?_
  rcases two2 hi with rfl | rfl
  · exact any_skip (dd := 32) hojnS_2_18 (by kernel_rfl) (.inl (by kernel_rfl)) (by kernel_rfl) (by kernel_rfl) (anjnS_2_174 hc)
  · exact any_skip (dd := 32) hojnS_2_28 (by kernel_rfl) (.inl (by kernel_rfl)) (by kernel_rfl) (by kernel_rfl) (anjnS_2_189 hc)
theorem anjnS_2_191 {z : zjnS_2} (hc : cjnS_2_1 z) : ajnS_2_1 z 12 118751231 (qjnS_2_1 z 118751231 []) (HjnS_2_1 z []) := by
  refine any_next [18, 27] (by kernel_rfl) (by decide) fun i hi => ?_
  rcases two2 hi with rfl | rfl
  · exact any_skip (dd := 32) hojnS_2_18 (by kernel_rfl) (.inl (by kernel_rfl)) (by kernel_rfl) (by kernel_rfl) (anjnS_2_175 hc)
  · exact any_skip (dd := 32) hojnS_2_27 (by kernel_rfl) (.inl (by kernel_rfl)) (by kernel_rfl) (by kernel_rfl) (anjnS_2_190 hc)
theorem anjnS_2_192 {z : zjnS_2} (hc : cjnS_2_1 z) : ajnS_2_1 z 13 51642367 (qjnS_2_1 z 51642367 []) (HjnS_2_1 z []) := by
  refine any_next [18, 26] (by kernel_rfl) (by decide) fun i hi => ?_
  rcases two2 hi with rfl | rfl
  · exact any_skip (dd := 32) hojnS_2_18 (by kernel_rfl) (.inl (by kernel_rfl)) (by kernel_rfl) (by kernel_rfl) (anjnS_2_176 hc)
  · exact any_skip (dd := 32) hojnS_2_26 (by kernel_rfl) (.inl (by kernel_rfl)) (by kernel_rfl) (by kernel_rfl) (anjnS_2_191 hc)
theorem anjnS_2_193 {z : zjnS_2} (hc : cjnS_2_1 z) : ajnS_2_1 z 14 18087935 (qjnS_2_1 z 18087935 []) (HjnS_2_1 z []) := by
  refine any_next [18, 25] (by kernel_rfl) (by decide) fun i hi => ?_
  rcases two2 hi with rfl | rfl
  · exact any_skip (dd := 32) hojnS_2_18 (by kernel_rfl) (.inl (by kernel_rfl)) (by kernel_rfl) (by kernel_rfl) (anjnS_2_177 hc)
  · exact any_skip (dd := 32) hojnS_2_25 (by kernel_rfl) (.inl (by kernel_rfl)) (by kernel_rfl) (by kernel_rfl) (anjnS_2_192 hc)
theorem anjnS_2_194 {z : zjnS_2} (hc : cjnS_2_1 z) : ajnS_2_1 z 15 1310719 (qjnS_2_1 z 1310719 []) (HjnS_2_1 z []) := by
  refine any_next [18, 24] (by kernel_rfl) (by decide) fun i hi => ?_
  rcases two2 hi with rfl | rfl
  · exact any_skip (dd := 32) hojnS_2_18 (by kernel_rfl) (.inl (by kernel_rfl)) (by kernel_rfl) (by kernel_rfl) (anjnS_2_178 hc)
  · exact any_skip (dd := 32) hojnS_2_24 (by kernel_rfl) (.inl (by kernel_rfl)) (by kernel_rfl) (by kernel_rfl) (anjnS_2_193 hc)
theorem anjnS_2_195 {z : zjnS_2} (hc : cjnS_2_1 z) : ajnS_2_1 z 9 2130968575 (qjnS_2_1 z 2130968575 []) (HjnS_2_1 z []) := by
  refine any_next [18, 20] (by kernel_rfl) (by decide) fun i hi => ?_
  rcases two2 hi with rfl | rfl
  · exact any_skip (dd := 32) hojnS_2_18 (by kernel_rfl) (.inl (by kernel_rfl)) (by kernel_rfl) (by kernel_rfl) (anjnS_2_179 hc)
  · exact any_skip (dd := 32) hojnS_2_20 (by kernel_rfl) (.inl (by kernel_rfl)) (by kernel_rfl) (by kernel_rfl) (anjnS_2_187 hc)
theorem anjnS_2_196 {z : zjnS_2} (hc : cjnS_2_1 z) : ajnS_2_1 z 10 1057226751 (qjnS_2_1 z 1057226751 []) (HjnS_2_1 z []) := by
  refine any_next [18, 20, 30] (by kernel_rfl) (by decide) fun i hi => ?_
  rcases two3 hi with rfl | rfl | rfl
  · exact any_skip (dd := 32) hojnS_2_18 (by kernel_rfl) (.inl (by kernel_rfl)) (by kernel_rfl) (by kernel_rfl) (anjnS_2_180 hc)
  · exact any_skip (dd := 32) hojnS_2_20 (by kernel_rfl) (.inl (by kernel_rfl)) (by kernel_rfl) (by kernel_rfl) (anjnS_2_188 hc)
  · exact any_skip (dd := 32) hojnS_2_30 (by kernel_rfl) (.inl (by kernel_rfl)) (by kernel_rfl) (by kernel_rfl) (anjnS_2_195 hc)
theorem anjnS_2_197 {z : zjnS_2} (hc : cjnS_2_1 z) : ajnS_2_1 z 11 520355839 (qjnS_2_1 z 520355839 []) (HjnS_2_1 z []) := by
  refine any_next [18, 20, 29] (by kernel_rfl) (by decide) fun i hi => ?_
  rcases two3 hi with rfl | rfl | rfl
  · exact any_skip (dd := 32) hojnS_2_18 (by kernel_rfl) (.inl (by kernel_rfl)) (by kernel_rfl) (by kernel_rfl) (anjnS_2_181 hc)
  · exact any_skip (dd := 32) hojnS_2_20 (by kernel_rfl) (.inl (by kernel_rfl)) (by kernel_rfl) (by kernel_rfl) (anjnS_2_189 hc)
  · exact any_skip (dd := 32) hojnS_2_29 (by kernel_rfl) (.inl (by kernel_rfl)) (by kernel_rfl) (by kernel_rfl) (anjnS_2_196 hc)
theorem anjnS_2_198 {z : zjnS_2} (hc : cjnS_2_1 z) : ajnS_2_1 z 12 251920383 (qjnS_2_1 z 251920383 []) (HjnS_2_1 z []) := by
  refine any_next [18, 20, 28] (by kernel_rfl) (by decide) fun i hi => ?_
  rcases two3 hi with rfl | rfl | rfl
  · exact any_skip (dd := 32) hojnS_2_18 (by kernel_rfl) (.inl (by kernel_rfl)) (by kernel_rfl) (by kernel_rfl) (anjnS_2_182 hc)
  · exact any_skip (dd := 32) hojnS_2_20 (by kernel_rfl) (.inl (by kernel_rfl)) (by kernel_rfl) (by kernel_rfl) (anjnS_2_190 hc)
  · exact any_skip (dd := 32) hojnS_2_28 (by kernel_rfl) (.inl (by kernel_rfl)) (by kernel_rfl) (by kernel_rfl) (anjnS_2_197 hc)
theorem anjnS_2_199 {z : zjnS_2} (hc : cjnS_2_1 z) : ajnS_2_1 z 13 117702655 (qjnS_2_1 z 117702655 []) (HjnS_2_1 z []) := by
  refine any_next [18, 20, 27] (by kernel_rfl) (by decide) fun i hi => ?_
  rcases two3 hi with rfl | rfl | rfl
  · exact any_skip (dd := 32) hojnS_2_18 (by kernel_rfl) (.inl (by kernel_rfl)) (by kernel_rfl) (by kernel_rfl) (anjnS_2_183 hc)
  · exact any_skip (dd := 32) hojnS_2_20 (by kernel_rfl) (.inl (by kernel_rfl)) (by kernel_rfl) (by kernel_rfl) (anjnS_2_191 hc)
  · exact any_skip (dd := 32) hojnS_2_27 (by kernel_rfl) (.inl (by kernel_rfl)) (by kernel_rfl) (by kernel_rfl) (anjnS_2_198 hc)
theorem anjnS_2_200 {z : zjnS_2} (hc : cjnS_2_1 z) : ajnS_2_1 z 14 50593791 (qjnS_2_1 z 50593791 []) (HjnS_2_1 z []) := by
  refine any_next [18, 20, 26] (by kernel_rfl) (by decide) fun i hi => ?_
  rcases two3 hi with rfl | rfl | rfl
  · exact any_skip (dd := 32) hojnS_2_18 (by kernel_rfl) (.inl (by kernel_rfl)) (by kernel_rfl) (by kernel_rfl) (anjnS_2_184 hc)
  · exact any_skip (dd := 32) hojnS_2_20 (by kernel_rfl) (.inl (by kernel_rfl)) (by kernel_rfl) (by kernel_rfl) (anjnS_2_192 hc)
  · exact any_skip (dd := 32) hojnS_2_26 (by kernel_rfl) (.inl (by kernel_rfl)) (by kernel_rfl) (by kernel_rfl) (anjnS_2_199 hc)
theorem anjnS_2_201 {z : zjnS_2} (hc : cjnS_2_1 z) : ajnS_2_1 z 15 17039359 (qjnS_2_1 z 17039359 []) (HjnS_2_1 z []) := by
  refine any_next [18, 20, 25] (by kernel_rfl) (by decide) fun i hi => ?_
  rcases two3 hi with rfl | rfl | rfl
  · exact any_skip (dd := 32) hojnS_2_18 (by kernel_rfl) (.inl (by kernel_rfl)) (by kernel_rfl) (by kernel_rfl) (anjnS_2_185 hc)
  · exact any_skip (dd := 32) hojnS_2_20 (by kernel_rfl) (.inl (by kernel_rfl)) (by kernel_rfl) (by kernel_rfl) (anjnS_2_193 hc)
  · exact any_skip (dd := 32) hojnS_2_25 (by kernel_rfl) (.inl (by kernel_rfl)) (by kernel_rfl) (by kernel_rfl) (anjnS_2_200 hc)
theorem anjnS_2_202 {z : zjnS_2} (hc : cjnS_2_1 z) : ajnS_2_1 z 16 262143 (qjnS_2_1 z 262143 []) (HjnS_2_1 z []) := by
  refine any_next [18, 20, 24] (by kernel_rfl) (by decide) fun i hi => ?_
  rcases two3 hi with rfl | rfl | rfl
  · exact any_skip (dd := 32) hojnS_2_18 (by kernel_rfl) (.inl (by kernel_rfl)) (by kernel_rfl) (by kernel_rfl) (anjnS_2_186 hc)
  · exact any_skip (dd := 32) hojnS_2_20 (by kernel_rfl) (.inl (by kernel_rfl)) (by kernel_rfl) (by kernel_rfl) (anjnS_2_194 hc)
  · exact any_skip (dd := 32) hojnS_2_24 (by kernel_rfl) (.inl (by kernel_rfl)) (by kernel_rfl) (by kernel_rfl) (anjnS_2_201 hc)
theorem anjnS_2_203 {z : zjnS_2} (hc : cjnS_2_1 z) : ajnS_2_1 z 9 2131886079 (qjnS_2_1 z 2131886079 []) (HjnS_2_1 z []) := by
  refine any_next [17] (by kernel_rfl) (by decide) fun i hi => ?_
  obtain rfl := two1 hi
  · exact any_skip (dd := 32) hojnS_2_17 (by kernel_rfl) (.inl (by kernel_rfl)) (by kernel_rfl) (by kernel_rfl) (anjnS_2_187 hc)
theorem anjnS_2_204 {z : zjnS_2} (hc : cjnS_2_1 z) : ajnS_2_1 z 10 1058144255 (qjnS_2_1 z 1058144255 []) (HjnS_2_1 z []) := by
  refine any_next [17, 30] (by kernel_rfl) (by decide) fun i hi => ?_
  rcases two2 hi with rfl | rfl
  · exact any_skip (dd := 32) hojnS_2_17 (by kernel_rfl) (.inl (by kernel_rfl)) (by kernel_rfl) (by kernel_rfl) (anjnS_2_188 hc)
  · exact any_skip (dd := 32) hojnS_2_30 (by kernel_rfl) (.inl (by kernel_rfl)) (by kernel_rfl) (by kernel_rfl) (anjnS_2_203 hc)
theorem anjnS_2_205 {z : zjnS_2} (hc : cjnS_2_1 z) : ajnS_2_1 z 11 521273343 (qjnS_2_1 z 521273343 []) (HjnS_2_1 z []) := by
  refine any_next [17, 29] (by kernel_rfl) (by decide) fun i hi => ?_
  rcases two2 hi with rfl | rfl
  · exact any_skip (dd := 32) hojnS_2_17 (by kernel_rfl) (.inl (by kernel_rfl)) (by kernel_rfl) (by kernel_rfl) (anjnS_2_189 hc)
  · exact any_skip (dd := 32) hojnS_2_29 (by kernel_rfl) (.inl (by kernel_rfl)) (by kernel_rfl) (by kernel_rfl) (anjnS_2_204 hc)
theorem anjnS_2_206 {z : zjnS_2} (hc : cjnS_2_1 z) : ajnS_2_1 z 12 252837887 (qjnS_2_1 z 252837887 []) (HjnS_2_1 z []) := by
  refine any_next [17, 28] (by kernel_rfl) (by decide) fun i hi => ?_
  rcases two2 hi with rfl | rfl
  · exact any_skip (dd := 32) hojnS_2_17 (by kernel_rfl) (.inl (by kernel_rfl)) (by kernel_rfl) (by kernel_rfl) (anjnS_2_190 hc)
  · exact any_skip (dd := 32) hojnS_2_28 (by kernel_rfl) (.inl (by kernel_rfl)) (by kernel_rfl) (by kernel_rfl) (anjnS_2_205 hc)
theorem anjnS_2_207 {z : zjnS_2} (hc : cjnS_2_1 z) : ajnS_2_1 z 13 118620159 (qjnS_2_1 z 118620159 []) (HjnS_2_1 z []) := by
  refine any_next [17, 27] (by kernel_rfl) (by decide) fun i hi => ?_
  rcases two2 hi with rfl | rfl
  · exact any_skip (dd := 32) hojnS_2_17 (by kernel_rfl) (.inl (by kernel_rfl)) (by kernel_rfl) (by kernel_rfl) (anjnS_2_191 hc)
  · exact any_skip (dd := 32) hojnS_2_27 (by kernel_rfl) (.inl (by kernel_rfl)) (by kernel_rfl) (by kernel_rfl) (anjnS_2_206 hc)
theorem anjnS_2_208 {z : zjnS_2} (hc : cjnS_2_1 z) : ajnS_2_1 z 14 51511295 (qjnS_2_1 z 51511295 []) (HjnS_2_1 z []) := by
  refine any_next [17, 26] (by kernel_rfl) (by decide) fun i hi => ?_
  rcases two2 hi with rfl | rfl
  · exact any_skip (dd := 32) hojnS_2_17 (by kernel_rfl) (.inl (by kernel_rfl)) (by kernel_rfl) (by kernel_rfl) (anjnS_2_192 hc)
  · exact any_skip (dd := 32) hojnS_2_26 (by kernel_rfl) (.inl (by kernel_rfl)) (by kernel_rfl) (by kernel_rfl) (anjnS_2_207 hc)
theorem anjnS_2_209 {z : zjnS_2} (hc : cjnS_2_1 z) : ajnS_2_1 z 15 17956863 (qjnS_2_1 z 17956863 []) (HjnS_2_1 z []) := by
  refine any_next [17, 25] (by kernel_rfl) (by decide) fun i hi => ?_
  rcases two2 hi with rfl | rfl
  · exact any_skip (dd := 32) hojnS_2_17 (by kernel_rfl) (.inl (by kernel_rfl)) (by kernel_rfl) (by kernel_rfl) (anjnS_2_193 hc)
  · exact any_skip (dd := 32) hojnS_2_25 (by kernel_rfl) (.inl (by kernel_rfl)) (by kernel_rfl) (by kernel_rfl) (anjnS_2_208 hc)
theorem anjnS_2_210 {z : zjnS_2} (hc : cjnS_2_1 z) : ajnS_2_1 z 16 1179647 (qjnS_2_1 z 1179647 []) (HjnS_2_1 z []) := by
  refine any_next [17, 24] (by kernel_rfl) (by decide) fun i hi => ?_
  rcases two2 hi with rfl | rfl
  · exact any_skip (dd := 32) hojnS_2_17 (by kernel_rfl) (.inl (by kernel_rfl)) (by kernel_rfl) (by kernel_rfl) (anjnS_2_194 hc)
  · exact any_skip (dd := 32) hojnS_2_24 (by kernel_rfl) (.inl (by kernel_rfl)) (by kernel_rfl) (by kernel_rfl) (anjnS_2_209 hc)
theorem anjnS_2_211 {z : zjnS_2} (hc : cjnS_2_1 z) : ajnS_2_1 z 10 2130837503 (qjnS_2_1 z 2130837503 []) (HjnS_2_1 z []) := by
  refine any_next [17, 20] (by kernel_rfl) (by decide) fun i hi => ?_
  rcases two2 hi with rfl | rfl
  · exact any_skip (dd := 32) hojnS_2_17 (by kernel_rfl) (.inl (by kernel_rfl)) (by kernel_rfl) (by kernel_rfl) (anjnS_2_195 hc)
  · exact any_skip (dd := 32) hojnS_2_20 (by kernel_rfl) (.inl (by kernel_rfl)) (by kernel_rfl) (by kernel_rfl) (anjnS_2_203 hc)
theorem anjnS_2_212 {z : zjnS_2} (hc : cjnS_2_1 z) : ajnS_2_1 z 11 1057095679 (qjnS_2_1 z 1057095679 []) (HjnS_2_1 z []) := by
  refine any_next [17, 20, 30] (by kernel_rfl) (by decide) fun i hi => ?_
  rcases two3 hi with rfl | rfl | rfl
  · exact any_skip (dd := 32) hojnS_2_17 (by kernel_rfl) (.inl (by kernel_rfl)) (by kernel_rfl) (by kernel_rfl) (anjnS_2_196 hc)
  · exact any_skip (dd := 32) hojnS_2_20 (by kernel_rfl) (.inl (by kernel_rfl)) (by kernel_rfl) (by kernel_rfl) (anjnS_2_204 hc)
  · exact any_skip (dd := 32) hojnS_2_30 (by kernel_rfl) (.inl (by kernel_rfl)) (by kernel_rfl) (by kernel_rfl) (anjnS_2_211 hc)
theorem anjnS_2_213 {z : zjnS_2} (hc : cjnS_2_1 z) : ajnS_2_1 z 12 520224767 (qjnS_2_1 z 520224767 []) (HjnS_2_1 z []) := by
  refine any_next [17, 20, 29] (by kernel_rfl) (by decide) fun i hi => ?_
  rcases two3 hi with rfl | rfl | rfl
  · exact any_skip (dd := 32) hojnS_2_17 (by kernel_rfl) (.inl (by kernel_rfl)) (by kernel_rfl) (by kernel_rfl) (anjnS_2_197 hc)
  · exact any_skip (dd := 32) hojnS_2_20 (by kernel_rfl) (.inl (by kernel_rfl)) (by kernel_rfl) (by kernel_rfl) (anjnS_2_205 hc)
  · exact any_skip (dd := 32) hojnS_2_29 (by kernel_rfl) (.inl (by kernel_rfl)) (by kernel_rfl) (by kernel_rfl) (anjnS_2_212 hc)
theorem anjnS_2_214 {z : zjnS_2} (hc : cjnS_2_1 z) : ajnS_2_1 z 13 251789311 (qjnS_2_1 z 251789311 []) (HjnS_2_1 z []) := by
  refine any_next [17, 20, 28] (by kernel_rfl) (by decide) fun i hi => ?_
  rcases two3 hi with rfl | rfl | rfl
  · exact any_skip (dd := 32) hojnS_2_17 (by kernel_rfl) (.inl (by kernel_rfl)) (by kernel_rfl) (by kernel_rfl) (anjnS_2_198 hc)
  · exact any_skip (dd := 32) hojnS_2_20 (by kernel_rfl) (.inl (by kernel_rfl)) (by kernel_rfl) (by kernel_rfl) (anjnS_2_206 hc)
  · exact any_skip (dd := 32) hojnS_2_28 (by kernel_rfl) (.inl (by kernel_rfl)) (by kernel_rfl) (by kernel_rfl) (anjnS_2_213 hc)
theorem anjnS_2_215 {z : zjnS_2} (hc : cjnS_2_1 z) : ajnS_2_1 z 14 117571583 (qjnS_2_1 z 117571583 []) (HjnS_2_1 z []) := by
  refine any_next [17, 20, 27] (by kernel_rfl) (by decide) fun i hi => ?_
  rcases two3 hi with rfl | rfl | rfl
  · exact any_skip (dd := 32) hojnS_2_17 (by kernel_rfl) (.inl (by kernel_rfl)) (by kernel_rfl) (by kernel_rfl) (anjnS_2_199 hc)
  · exact any_skip (dd := 32) hojnS_2_20 (by kernel_rfl) (.inl (by kernel_rfl)) (by kernel_rfl) (by kernel_rfl) (anjnS_2_207 hc)
  · exact any_skip (dd := 32) hojnS_2_27 (by kernel_rfl) (.inl (by kernel_rfl)) (by kernel_rfl) (by kernel_rfl) (anjnS_2_214 hc)
theorem anjnS_2_216 {z : zjnS_2} (hc : cjnS_2_1 z) : ajnS_2_1 z 15 50462719 (qjnS_2_1 z 50462719 []) (HjnS_2_1 z []) := by
  refine any_next [17, 20, 26] (by kernel_rfl) (by decide) fun i hi => ?_
  rcases two3 hi with rfl | rfl | rfl
  · exact any_skip (dd := 32) hojnS_2_17 (by kernel_rfl) (.inl (by kernel_rfl)) (by kernel_rfl) (by kernel_rfl) (anjnS_2_200 hc)
  · exact any_skip (dd := 32) hojnS_2_20 (by kernel_rfl) (.inl (by kernel_rfl)) (by kernel_rfl) (by kernel_rfl) (anjnS_2_208 hc)
  · exact any_skip (dd := 32) hojnS_2_26 (by kernel_rfl) (.inl (by kernel_rfl)) (by kernel_rfl) (by kernel_rfl) (anjnS_2_215 hc)
theorem anjnS_2_217 {z : zjnS_2} (hc : cjnS_2_1 z) : ajnS_2_1 z 16 16908287 (qjnS_2_1 z 16908287 []) (HjnS_2_1 z []) := by
  refine any_next [17, 20, 25] (by kernel_rfl) (by decide) fun i hi => ?_
  rcases two3 hi with rfl | rfl | rfl
  · exact any_skip (dd := 32) hojnS_2_17 (by kernel_rfl) (.inl (by kernel_rfl)) (by kernel_rfl) (by kernel_rfl) (anjnS_2_201 hc)
  · exact any_skip (dd := 32) hojnS_2_20 (by kernel_rfl) (.inl (by kernel_rfl)) (by kernel_rfl) (by kernel_rfl) (anjnS_2_209 hc)
  · exact any_skip (dd := 32) hojnS_2_25 (by kernel_rfl) (.inl (by kernel_rfl)) (by kernel_rfl) (by kernel_rfl) (anjnS_2_216 hc)
theorem anjnS_2_218 {z : zjnS_2} (hc : cjnS_2_1 z) : ajnS_2_1 z 17 131071 (qjnS_2_1 z 131071 []) (HjnS_2_1 z []) := by
  refine any_next [17, 20, 24] (by kernel_rfl) (by decide) fun i hi => ?_
  rcases two3 hi with rfl | rfl | rfl
  · exact any_skip (dd := 32) hojnS_2_17 (by kernel_rfl) (.inl (by kernel_rfl)) (by kernel_rfl) (by kernel_rfl) (anjnS_2_202 hc)
  · exact any_skip (dd := 32) hojnS_2_20 (by kernel_rfl) (.inl (by kernel_rfl)) (by kernel_rfl) (by kernel_rfl) (anjnS_2_210 hc)
  · exact any_skip (dd := 32) hojnS_2_24 (by kernel_rfl) (.inl (by kernel_rfl)) (by kernel_rfl) (by kernel_rfl) (anjnS_2_217 hc)
theorem anjnS_2_219 {z : zjnS_2} (hc : cjnS_2_1 z) : ajnS_2_1 z 10 2131820543 (qjnS_2_1 z 2131820543 []) (HjnS_2_1 z []) := by
  refine any_next [16] (by kernel_rfl) (by decide) fun i hi => ?_
  obtain rfl := two1 hi
  · exact any_skip (dd := 32) hojnS_2_16 (by kernel_rfl) (.inl (by kernel_rfl)) (by kernel_rfl) (by kernel_rfl) (anjnS_2_203 hc)
theorem anjnS_2_220 {z : zjnS_2} (hc : cjnS_2_1 z) : ajnS_2_1 z 11 1058078719 (qjnS_2_1 z 1058078719 []) (HjnS_2_1 z []) := by
  refine any_next [16, 30] (by kernel_rfl) (by decide) fun i hi => ?_
  rcases two2 hi with rfl | rfl
  · exact any_skip (dd := 32) hojnS_2_16 (by kernel_rfl) (.inl (by kernel_rfl)) (by kernel_rfl) (by kernel_rfl) (anjnS_2_204 hc)
  · exact any_skip (dd := 32) hojnS_2_30 (by kernel_rfl) (.inl (by kernel_rfl)) (by kernel_rfl) (by kernel_rfl) (anjnS_2_219 hc)
theorem anjnS_2_221 {z : zjnS_2} (hc : cjnS_2_1 z) : ajnS_2_1 z 12 521207807 (qjnS_2_1 z 521207807 []) (HjnS_2_1 z []) := by
  refine any_next [16, 29] (by kernel_rfl) (by decide) fun i hi => ?_
  rcases two2 hi with rfl | rfl
  · exact any_skip (dd := 32) hojnS_2_16 (by kernel_rfl) (.inl (by kernel_rfl)) (by kernel_rfl) (by kernel_rfl) (anjnS_2_205 hc)
  · exact any_skip (dd := 32) hojnS_2_29 (by kernel_rfl) (.inl (by kernel_rfl)) (by kernel_rfl) (by kernel_rfl) (anjnS_2_220 hc)
theorem anjnS_2_222 {z : zjnS_2} (hc : cjnS_2_1 z) : ajnS_2_1 z 13 252772351 (qjnS_2_1 z 252772351 []) (HjnS_2_1 z []) := by
  refine any_next [16, 28] (by kernel_rfl) (by decide) fun i hi => ?_
  rcases two2 hi with rfl | rfl
  · exact any_skip (dd := 32) hojnS_2_16 (by kernel_rfl) (.inl (by kernel_rfl)) (by kernel_rfl) (by kernel_rfl) (anjnS_2_206 hc)
  · exact any_skip (dd := 32) hojnS_2_28 (by kernel_rfl) (.inl (by kernel_rfl)) (by kernel_rfl) (by kernel_rfl) (anjnS_2_221 hc)
theorem anjnS_2_223 {z : zjnS_2} (hc : cjnS_2_1 z) : ajnS_2_1 z 14 118554623 (qjnS_2_1 z 118554623 []) (HjnS_2_1 z []) := by
  refine any_next [16, 27] (by kernel_rfl) (by decide) fun i hi => ?_
  rcases two2 hi with rfl | rfl
  · exact any_skip (dd := 32) hojnS_2_16 (by kernel_rfl) (.inl (by kernel_rfl)) (by kernel_rfl) (by kernel_rfl) (anjnS_2_207 hc)
  · exact any_skip (dd := 32) hojnS_2_27 (by kernel_rfl) (.inl (by kernel_rfl)) (by kernel_rfl) (by kernel_rfl) (anjnS_2_222 hc)
theorem anjnS_2_224 {z : zjnS_2} (hc : cjnS_2_1 z) : ajnS_2_1 z 15 51445759 (qjnS_2_1 z 51445759 []) (HjnS_2_1 z []) := by
  refine any_next [16, 26] (by kernel_rfl) (by decide) fun i hi => ?_
  rcases two2 hi with rfl | rfl
  · exact any_skip (dd := 32) hojnS_2_16 (by kernel_rfl) (.inl (by kernel_rfl)) (by kernel_rfl) (by kernel_rfl) (anjnS_2_208 hc)
  · exact any_skip (dd := 32) hojnS_2_26 (by kernel_rfl) (.inl (by kernel_rfl)) (by kernel_rfl) (by kernel_rfl) (anjnS_2_223 hc)
theorem anjnS_2_225 {z : zjnS_2} (hc : cjnS_2_1 z) : ajnS_2_1 z 16 17891327 (qjnS_2_1 z 17891327 []) (HjnS_2_1 z []) := by
  refine any_next [16, 25] (by kernel_rfl) (by decide) fun i hi => ?_
  rcases two2 hi with rfl | rfl
  · exact any_skip (dd := 32) hojnS_2_16 (by kernel_rfl) (.inl (by kernel_rfl)) (by kernel_rfl) (by kernel_rfl) (anjnS_2_209 hc)
  · exact any_skip (dd := 32) hojnS_2_25 (by kernel_rfl) (.inl (by kernel_rfl)) (by kernel_rfl) (by kernel_rfl) (anjnS_2_224 hc)
theorem anjnS_2_226 {z : zjnS_2} (hc : cjnS_2_1 z) : ajnS_2_1 z 17 1114111 (qjnS_2_1 z 1114111 []) (HjnS_2_1 z []) := by
  refine any_next [16, 24] (by kernel_rfl) (by decide) fun i hi => ?_
  rcases two2 hi with rfl | rfl
  · exact any_skip (dd := 32) hojnS_2_16 (by kernel_rfl) (.inl (by kernel_rfl)) (by kernel_rfl) (by kernel_rfl) (anjnS_2_210 hc)
  · exact any_skip (dd := 32) hojnS_2_24 (by kernel_rfl) (.inl (by kernel_rfl)) (by kernel_rfl) (by kernel_rfl) (anjnS_2_225 hc)
theorem anjnS_2_227 {z : zjnS_2} (hc : cjnS_2_1 z) : ajnS_2_1 z 11 2130771967 (qjnS_2_1 z 2130771967 []) (HjnS_2_1 z []) := by
  refine any_next [16, 20] (by kernel_rfl) (by decide) fun i hi => ?_
  rcases two2 hi with rfl | rfl
  · exact any_skip (dd := 32) hojnS_2_16 (by kernel_rfl) (.inl (by kernel_rfl)) (by kernel_rfl) (by kernel_rfl) (anjnS_2_211 hc)
  · exact any_skip (dd := 32) hojnS_2_20 (by kernel_rfl) (.inl (by kernel_rfl)) (by kernel_rfl) (by kernel_rfl) (anjnS_2_219 hc)
theorem anjnS_2_228 {z : zjnS_2} (hc : cjnS_2_1 z) : ajnS_2_1 z 12 1057030143 (qjnS_2_1 z 1057030143 []) (HjnS_2_1 z []) := by
  refine any_next [16, 20, 30] (by kernel_rfl) (by decide) fun i hi => ?_
  rcases two3 hi with rfl | rfl | rfl
  · exact any_skip (dd := 32) hojnS_2_16 (by kernel_rfl) (.inl (by kernel_rfl)) (by kernel_rfl) (by kernel_rfl) (anjnS_2_212 hc)
  · exact any_skip (dd := 32) hojnS_2_20 (by kernel_rfl) (.inl (by kernel_rfl)) (by kernel_rfl) (by kernel_rfl) (anjnS_2_220 hc)
  · exact any_skip (dd := 32) hojnS_2_30 (by kernel_rfl) (.inl (by kernel_rfl)) (by kernel_rfl) (by kernel_rfl) (anjnS_2_227 hc)
theorem anjnS_2_229 {z : zjnS_2} (hc : cjnS_2_1 z) : ajnS_2_1 z 13 520159231 (qjnS_2_1 z 520159231 []) (HjnS_2_1 z []) := by
  refine any_next [16, 20, 29] (by kernel_rfl) (by decide) fun i hi => ?_
  rcases two3 hi with rfl | rfl | rfl
  · exact any_skip (dd := 32) hojnS_2_16 (by kernel_rfl) (.inl (by kernel_rfl)) (by kernel_rfl) (by kernel_rfl) (anjnS_2_213 hc)
  · exact any_skip (dd := 32) hojnS_2_20 (by kernel_rfl) (.inl (by kernel_rfl)) (by kernel_rfl) (by kernel_rfl) (anjnS_2_221 hc)
  · exact any_skip (dd := 32) hojnS_2_29 (by kernel_rfl) (.inl (by kernel_rfl)) (by kernel_rfl) (by kernel_rfl) (anjnS_2_228 hc)
theorem anjnS_2_230 {z : zjnS_2} (hc : cjnS_2_1 z) : ajnS_2_1 z 14 251723775 (qjnS_2_1 z 251723775 []) (HjnS_2_1 z []) := by
  refine any_next [16, 20, 28] (by kernel_rfl) (by decide) fun i hi => ?_
  rcases two3 hi with rfl | rfl | rfl
  · exact any_skip (dd := 32) hojnS_2_16 (by kernel_rfl) (.inl (by kernel_rfl)) (by kernel_rfl) (by kernel_rfl) (anjnS_2_214 hc)
  · exact any_skip (dd := 32) hojnS_2_20 (by kernel_rfl) (.inl (by kernel_rfl)) (by kernel_rfl) (by kernel_rfl) (anjnS_2_222 hc)
  · exact any_skip (dd := 32) hojnS_2_28 (by kernel_rfl) (.inl (by kernel_rfl)) (by kernel_rfl) (by kernel_rfl) (anjnS_2_229 hc)
theorem anjnS_2_231 {z : zjnS_2} (hc : cjnS_2_1 z) : ajnS_2_1 z 15 117506047 (qjnS_2_1 z 117506047 []) (HjnS_2_1 z []) := by
  refine any_next [16, 20, 27] (by kernel_rfl) (by decide) fun i hi => ?_
  rcases two3 hi with rfl | rfl | rfl
  · exact any_skip (dd := 32) hojnS_2_16 (by kernel_rfl) (.inl (by kernel_rfl)) (by kernel_rfl) (by kernel_rfl) (anjnS_2_215 hc)
  · exact any_skip (dd := 32) hojnS_2_20 (by kernel_rfl) (.inl (by kernel_rfl)) (by kernel_rfl) (by kernel_rfl) (anjnS_2_223 hc)
  · exact any_skip (dd := 32) hojnS_2_27 (by kernel_rfl) (.inl (by kernel_rfl)) (by kernel_rfl) (by kernel_rfl) (anjnS_2_230 hc)
theorem anjnS_2_232 {z : zjnS_2} (hc : cjnS_2_1 z) : ajnS_2_1 z 16 50397183 (qjnS_2_1 z 50397183 []) (HjnS_2_1 z []) := by
  refine any_next [16, 20, 26] (by kernel_rfl) (by decide) fun i hi => ?_
  rcases two3 hi with rfl | rfl | rfl
  · exact any_skip (dd := 32) hojnS_2_16 (by kernel_rfl) (.inl (by kernel_rfl)) (by kernel_rfl) (by kernel_rfl) (anjnS_2_216 hc)
  · exact any_skip (dd := 32) hojnS_2_20 (by kernel_rfl) (.inl (by kernel_rfl)) (by kernel_rfl) (by kernel_rfl) (anjnS_2_224 hc)
  · exact any_skip (dd := 32) hojnS_2_26 (by kernel_rfl) (.inl (by kernel_rfl)) (by kernel_rfl) (by kernel_rfl) (anjnS_2_231 hc)
theorem anjnS_2_233 {z : zjnS_2} (hc : cjnS_2_1 z) : ajnS_2_1 z 17 16842751 (qjnS_2_1 z 16842751 []) (HjnS_2_1 z []) := by
  refine any_next [16, 20, 25] (by kernel_rfl) (by decide) fun i hi => ?_
  rcases two3 hi with rfl | rfl | rfl
  · exact any_skip (dd := 32) hojnS_2_16 (by kernel_rfl) (.inl (by kernel_rfl)) (by kernel_rfl) (by kernel_rfl) (anjnS_2_217 hc)
  · exact any_skip (dd := 32) hojnS_2_20 (by kernel_rfl) (.inl (by kernel_rfl)) (by kernel_rfl) (by kernel_rfl) (anjnS_2_225 hc)
  · exact any_skip (dd := 32) hojnS_2_25 (by kernel_rfl) (.inl (by kernel_rfl)) (by kernel_rfl) (by kernel_rfl) (anjnS_2_232 hc)
theorem anjnS_2_234 {z : zjnS_2} (hc : cjnS_2_1 z) : ajnS_2_1 z 18 65535 (qjnS_2_1 z 65535 []) (HjnS_2_1 z []) := by
  refine any_next [16, 20, 24] (by kernel_rfl) (by decide) fun i hi => ?_
  rcases two3 hi with rfl | rfl | rfl
  · exact any_skip (dd := 32) hojnS_2_16 (by kernel_rfl) (.inl (by kernel_rfl)) (by kernel_rfl) (by kernel_rfl) (anjnS_2_218 hc)
  · exact any_skip (dd := 32) hojnS_2_20 (by kernel_rfl) (.inl (by kernel_rfl)) (by kernel_rfl) (by kernel_rfl) (anjnS_2_226 hc)
  · exact any_skip (dd := 32) hojnS_2_24 (by kernel_rfl) (.inl (by kernel_rfl)) (by kernel_rfl) (by kernel_rfl) (anjnS_2_233 hc)
theorem anjnS_2_235 {z : zjnS_2} (hc : cjnS_2_1 z) : ajnS_2_1 z 19 32767 (qjnS_2_1 z 32767 []) (HjnS_2_1 z []) := by
  refine any_next [15] (by kernel_rfl) (by decide) fun i hi => ?_
  obtain rfl := two1 hi
  · exact any_one _ (v := vjnS_2_1 z 15) tabok_jnS hojnS_2_15 (trivial) (by kernel_rfl) (by kernel_rfl) (by kernel_rfl) (anjnS_2_234 hc)
theorem anjnS_2_236 {z : zjnS_2} (hc : cjnS_2_1 z) : ajnS_2_1 z 20 16383 (qjnS_2_1 z 16383 []) (HjnS_2_1 z []) := by
  refine any_next [14] (by kernel_rfl) (by decide) fun i hi => ?_
  obtain rfl := two1 hi
  · exact any_one _ (v := vjnS_2_1 z 14) tabok_jnS hojnS_2_14 (trivial) (by kernel_rfl) (by kernel_rfl) (by kernel_rfl) (anjnS_2_235 hc)
theorem anjnS_2_237 {z : zjnS_2} (hc : cjnS_2_1 z) : ajnS_2_1 z 21 8191 (qjnS_2_1 z 8191 []) (HjnS_2_1 z []) := by
  refine any_next [13] (by kernel_rfl) (by decide) fun i hi => ?_
  obtain rfl := two1 hi
  · exact any_one _ (v := vjnS_2_1 z 13) tabok_jnS hojnS_2_13 (⟨27, by kernel_rfl, by kernel_rfl⟩) (by kernel_rfl) (by kernel_rfl) (by kernel_rfl) (anjnS_2_236 hc)
theorem anjnS_2_238 {z : zjnS_2} (hc : cjnS_2_1 z) : ajnS_2_1 z 22 4095 (qjnS_2_1 z 4095 []) (HjnS_2_1 z []) := by
  refine any_next [12] (by kernel_rfl) (by decide) fun i hi => ?_
  obtain rfl := two1 hi
  · exact any_one _ (v := vjnS_2_1 z 12) tabok_jnS hojnS_2_12 (⟨27, by kernel_rfl, by kernel_rfl⟩) (by
      refine Eq.trans (b := some ((.bool (posB (yjnS_20 z))), [.at (yjnS_22 z) (.as 1 [.sl 2 0 (yjnS_23 z), .sl 3 0 (yjnS_24 z)]), .at (yjnS_25 z) (.as 1 [.sl 4 0 (yjnS_26 z), .sl 5 0 (yjnS_27 z)]), .at (yjnS_28 z) (.fl .f32 (yjnS_29 z)), .at (yjnS_210 z) (.fl .f32 (yjnS_211 z)), .at (yjnS_212 z) (.fl .f32 (yjnS_213 z)), .at (yjnS_214 z) (.fl .f32 (yjnS_215 z)), .at true (.as 1 [.nil, .nil])])) (by kernel_rfl) ?_
      rw [hc.2.2]
      try rfl) (by kernel_rfl) (by kernel_rfl) (anjnS_2_237 hc)
theorem anjnS_2_239 {z : zjnS_2} (hc : cjnS_2_1 z) : ajnS_2_1 z 23 2047 (qjnS_2_1 z 2047 []) (HjnS_2_1 z []) := by
  refine any_next [11] (by kernel_rfl) (by decide) fun i hi => ?_
  obtain rfl := two1 hi
  · exact any_one _ (v := vjnS_2_1 z 11) tabok_jnS hojnS_2_11 (⟨27, by kernel_rfl, by kernel_rfl⟩) (by kernel_rfl) (by kernel_rfl) (by kernel_rfl) (anjnS_2_238 hc)
theorem anjnS_2_240 {z : zjnS_2} (hc : cjnS_2_1 z) : ajnS_2_1 z 24 1023 (qjnS_2_1 z 1023 []) (HjnS_2_1 z []) := by
  refine any_next [10] (by kernel_rfl) (by decide) fun i hi => ?_
  obtain rfl := two1 hi
  · exact any_one _ (v := vjnS_2_1 z 10) tabok_jnS hojnS_2_10 (trivial) (by kernel_rfl) (by kernel_rfl) (by kernel_rfl) (anjnS_2_239 hc)
theorem anjnS_2_241 {z : zjnS_2} (hc : cjnS_2_1 z) : ajnS_2_1 z 25 511 (qjnS_2_1 z 511 []) (HjnS_2_1 z []) := by
  refine any_next [9] (by kernel_rfl) (by decide) fun i hi => ?_
  obtain rfl := two1 hi
  · exact any_one _ (v := vjnS_2_1 z 9) tabok_jnS hojnS_2_9 (trivial) (by kernel_rfl) (by kernel_rfl) (by kernel_rfl) (anjnS_2_240 hc)
theorem anjnS_2_242 {z : zjnS_2} (hc : cjnS_2_1 z) : ajnS_2_1 z 26 255 (qjnS_2_1 z 255 []) (HjnS_2_1 z []) := by
  refine any_next [8] (by kernel_rfl) (by decide) fun i hi => ?_
  obtain rfl := two1 hi
  · exact any_one _ (v := vjnS_2_1 z 8) tabok_jnS hojnS_2_8 (⟨19, by kernel_rfl, by kernel_rfl⟩) (by
      refine Eq.trans (b := some ((.bool ((((yjnS_26 z) : Nat) : Int) == 0)), [.at (yjnS_22 z) (.as 1 [.sl 2 0 (yjnS_23 z), .sl 3 0 (yjnS_24 z)]), .at (yjnS_25 z) (.as 1 [.sl 4 0 (yjnS_26 z), .sl 5 0 (yjnS_27 z)]), .at (yjnS_28 z) (.fl .f32 (yjnS_29 z)), .at (yjnS_210 z) (.fl .f32 (yjnS_211 z)), .at (yjnS_212 z) (.fl .f32 (yjnS_213 z)), .at (yjnS_214 z) (.fl .f32 (yjnS_215 z)), .at true (.as 1 [.nil, .nil])])) (by kernel_rfl) ?_
      rw [hc.2.1]
      try rfl) (by kernel_rfl) (by kernel_rfl) (anjnS_2_241 hc)
theorem anjnS_2_243 {z : zjnS_2} (hc : cjnS_2_1 z) : ajnS_2_1 z 27 127 (qjnS_2_1 z 127 []) (HjnS_2_1 z []) := by
  refine any_next [7] (by kernel_rfl) (by decide) fun i hi => ?_
  obtain rfl := two1 hi
  · exact any_one _ (v := vjnS_2_1 z 7) tabok_jnS hojnS_2_7 (⟨19, by kernel_rfl, by kernel_rfl⟩) (by kernel_rfl) (by kernel_rfl) (by kernel_rfl) (anjnS_2_242 hc)
theorem anjnS_2_244 {z : zjnS_2} (hc : cjnS_2_1 z) : ajnS_2_1 z 28 63 (qjnS_2_1 z 63 []) (HjnS_2_1 z []) := by
  refine any_next [6] (by kernel_rfl) (by decide) fun i hi => ?_
  obtain rfl := two1 hi
  · exact any_one _ (v := vjnS_2_1 z 6) tabok_jnS hojnS_2_6 (⟨19, by kernel_rfl, by kernel_rfl⟩) (by kernel_rfl) (by kernel_rfl) (by kernel_rfl) (anjnS_2_243 hc)
theorem anjnS_2_245 {z : zjnS_2} (hc : cjnS_2_1 z) : ajnS_2_1 z 29 31 (qjnS_2_1 z 31 []) (HjnS_2_1 z []) := by
  refine any_next [5] (by kernel_rfl) (by decide) fun i hi => ?_
  obtain rfl := two1 hi
  · exact any_one _ (v := vjnS_2_1 z 5) tabok_jnS hojnS_2_5 (⟨19, by kernel_rfl, by kernel_rfl⟩) (by kernel_rfl) (by kernel_rfl) (by kernel_rfl) (anjnS_2_244 hc)
theorem anjnS_2_246 {z : zjnS_2} (hc : cjnS_2_1 z) : ajnS_2_1 z 30 15 (qjnS_2_1 z 15 []) (HjnS_2_1 z []) := by
  refine any_next [4] (by kernel_rfl) (by decide) fun i hi => ?_
  obtain rfl := two1 hi
  · exact any_one _ (v := vjnS_2_1 z 4) tabok_jnS hojnS_2_4 (⟨19, by kernel_rfl, by kernel_rfl⟩) (by kernel_rfl) (by kernel_rfl) (by kernel_rfl) (anjnS_2_245 hc)
theorem anjnS_2_247 {z : zjnS_2} (hc : cjnS_2_1 z) : ajnS_2_1 z 31 7 (qjnS_2_1 z 7 []) (HjnS_2_1 z []) := by
  refine any_next [3] (by kernel_rfl) (by decide) fun i hi => ?_
  obtain rfl := two1 hi
  · exact any_one _ (v := vjnS_2_1 z 3) tabok_jnS hojnS_2_3 (⟨19, by kernel_rfl, by kernel_rfl⟩) (by kernel_rfl) (by kernel_rfl) (by kernel_rfl) (anjnS_2_246 hc)
theorem anjnS_2_248 {z : zjnS_2} (hc : cjnS_2_1 z) : ajnS_2_1 z 32 3 (qjnS_2_1 z 3 []) (HjnS_2_1 z []) := by
  refine any_next [2] (by kernel_rfl) (by decide) fun i hi => ?_
  obtain rfl := two1 hi
  · exact any_one _ (v := vjnS_2_1 z 2) tabok_jnS hojnS_2_2 (trivial) (by kernel_rfl) (by kernel_rfl) (by kernel_rfl) (anjnS_2_247 hc)
theorem anjnS_2_249 {z : zjnS_2} (hc : cjnS_2_1 z) : ajnS_2_1 z 33 1 (qjnS_2_1 z 1 []) (HjnS_2_1 z []) := by
  refine any_next [1] (by kernel_rfl) (by decide) fun i hi => ?_
  obtain rfl := two1 hi
  · exact any_one _ (v := vjnS_2_1 z 1) tabok_jnS hojnS_2_1 (trivial) (by
      refine Eq.trans (b := some ((.bool ((yjnS_21 z) == 0)), [.at (yjnS_22 z) (.as 1 [.sl 2 0 (yjnS_23 z), .sl 3 0 (yjnS_24 z)]), .at (yjnS_25 z) (.as 1 [.sl 4 0 (yjnS_26 z), .sl 5 0 (yjnS_27 z)]), .at (yjnS_28 z) (.fl .f32 (yjnS_29 z)), .at (yjnS_210 z) (.fl .f32 (yjnS_211 z)), .at (yjnS_212 z) (.fl .f32 (yjnS_213 z)), .at (yjnS_214 z) (.fl .f32 (yjnS_215 z)), .at true (.as 1 [.nil, .nil])])) (by kernel_rfl) ?_
      rw [hc.1]
      try rfl) (by kernel_rfl) (by kernel_rfl) (anjnS_2_248 hc)
theorem anjnS_2_250 {z : zjnS_2} (hc : cjnS_2_1 z) : ajnS_2_1 z 34 0 (qjnS_2_1 z 0 []) (HjnS_2_1 z []) := by
  refine any_next [0] (by kernel_rfl) (by decide) fun i hi => ?_
  obtain rfl := two1 hi
  · exact any_one _ (v := vjnS_2_1 z 0) tabok_jnS hojnS_2_0 (trivial) (by kernel_rfl) (by kernel_rfl) (by kernel_rfl) (anjnS_2_249 hc)
theorem toljnS_2_1 (z2 : Nat) (z4 : Int) (z5 : Bool) (z7 : Nat) (z9 : Nat) (z10 : Bool) (z12 : Nat) (z14 : Nat) (z15 : Bool) (z16 : List Nat) (z17 : Bool) (z18 : List Nat) (z19 : Bool) (z20 : List Nat) (z21 : Bool) (z22 : List Nat) (hc : cjnS_2_1 (z2, z4, z5, z7, z9, z10, z12, z14, z15, z16, z17, z18, z19, z20, z21, z22)) {st : St} (hl : st.t.length = 111) (et : viewT [0, 1, 2, 6, 8] 111 st.t = (.ptr 0 0 :: .ptr 1 0 :: .fl .f32 z2 :: .any :: .any :: .any :: .ptr 6 0 :: .any :: .int .i64 z4 :: (anys 102 []))) (eh : st.h = [.at z5 (.as 1 [.sl 2 0 z7, .sl 3 0 z9]), .at z10 (.as 1 [.sl 4 0 z12, .sl 5 0 z14]), .at z15 (.fl .f32 z16), .at z17 (.fl .f32 z18), .at z19 (.fl .f32 z20), .at z21 (.fl .f32 z22), .at true (.as 1 [.nil, .nil])]) {μ0 : Mu} {h0 : H} {w0 : World} {Q : Exit → Act → World → Prop} (hQ : ∀ μ a w, Inv μ0 h0 w0 μ (⟨(.ptr 0 0 :: .ptr 1 0 :: .fl .f32 z2 :: .any :: .any :: .any :: .ptr 6 0 :: .any :: .int .i64 z4 :: (anys 41 (.bool true :: (anys 60 [])))), [.at z5 (.as 1 [.sl 2 0 z7, .sl 3 0 z9]), .at z10 (.as 1 [.sl 4 0 z12, .sl 5 0 z14]), .at z15 (.fl .f32 z16), .at z17 (.fl .f32 z18), .at z19 (.fl .f32 z20), .at z21 (.fl .f32 z22), .at true (.as 1 [.nil, .nil])]⟩ : St) a w → Q .normal a w) {μ : Mu} {a : Act} {w : World} (hi : Inv μ0 h0 w0 μ st a w) : (Code.region 2 opsjnS_2 true).wp Try.prog Q a w :=
  told (L0 := bitsA 34 0) (T0 := qjnS_2_1 (z2, z4, z5, z7, z9, z10, z12, z14, z15, z16, z17, z18, z19, z20, z21, z22) 0 []) (H0 := HjnS_2_1 (z2, z4, z5, z7, z9, z10, z12, z14, z15, z16, z17, z18, z19, z20, z21, z22) []) [0, 1, 2, 6, 8, 50] mixed (by kernel_rfl : opsjnS_2.size = 34) (by kernel_rfl) hl (et.trans (by kernel_rfl)) (eh.trans (by kernel_rfl)) rfl (anjnS_2_250 hc) hQ hi
set_option maxRecDepth 100000 in
theorem sndjnS_2 : GSound1 Try.prog 2 opsjnS_2 true gjnS_2 := by
  intro μ0 h0 w0 st st' hg Q hQ μ a w hi
  unfold gjnS_2 at hg
  split at hg
  case h_2 => cases hg
  rename_i hl_
  have hl_ := of_decide_eq_true hl_
  split at hg
  case h_2 => cases hg
  rename_i e0_
  split at hg
  case h_2 => cases hg
  rename_i e1_
  split at hg
  case h_2 => cases hg
  rename_i z2 e2_
  split at hg
  case h_2 => cases hg
  rename_i e6_
  split at hg
  case h_2 => cases hg
  rename_i z4 e8_
  split at hg
  case h_2 => cases hg
  rename_i z5 z7 z9 z10 z12 z14 z15 z16 z17 z18 z19 z20 z21 z22 eh_
  have hg := Option.some.inj hg
  have hc := congrArg Prod.fst hg
  have hg := congrArg Prod.snd hg
  dsimp only at hc hg
  subst hg
  cases hsp : posB z2 with
  | true =>
    rw [hsp] at hc hQ
    simp only [cond_true, cond_false] at hc hQ
    have hc2 := hsp
    obtain ⟨hc, hc7⟩ := Bool.and_eq_true_iff.mp hc
    obtain ⟨hc, hc6⟩ := Bool.and_eq_true_iff.mp hc
    obtain ⟨hc, hc5⟩ := Bool.and_eq_true_iff.mp hc
    obtain ⟨hc, hc4⟩ := Bool.and_eq_true_iff.mp hc
    obtain ⟨hc, hc3⟩ := Bool.and_eq_true_iff.mp hc
    obtain ⟨hc, hc1⟩ := Bool.and_eq_true_iff.mp hc
    have hc0 := hc
    have hc0 := notT hc0
    have hc1 := notT hc1
    exact toljnS_2_0 z2 z4 z5 z7 z9 z10 z12 z14 z15 z16 z17 z18 z19 z20 z21 z22 ⟨hc0, hc1, hc2, hc3, hc4, hc5, hc6, hc7⟩ hl_ ((view_congr (T0 := (.ptr 0 0 :: .ptr 1 0 :: .fl .f32 z2 :: .any :: .any :: .any :: .ptr 6 0 :: .any :: .int .i64 z4 :: (anys 102 []))) (fun i hi => by
    simp only [List.mem_cons, List.not_mem_nil, or_false] at hi
    rcases hi with rfl | rfl | rfl | rfl | rfl
    · exact e0_.trans rfl
    · exact e1_.trans rfl
    · exact e2_.trans rfl
    · exact e6_.trans rfl
    · exact e8_.trans rfl)).trans (by kernel_rfl)) eh_ hQ hi
  | false =>
    rw [hsp] at hc hQ
    simp only [cond_true, cond_false] at hc hQ
    have hc2 := hsp
    obtain ⟨hc, hc1⟩ := Bool.and_eq_true_iff.mp hc
    have hc0 := hc
    have hc0 := notT hc0
    have hc1 := notT hc1
    exact toljnS_2_1 z2 z4 z5 z7 z9 z10 z12 z14 z15 z16 z17 z18 z19 z20 z21 z22 ⟨hc0, hc1, hc2⟩ hl_ ((view_congr (T0 := (.ptr 0 0 :: .ptr 1 0 :: .fl .f32 z2 :: .any :: .any :: .any :: .ptr 6 0 :: .any :: .int .i64 z4 :: (anys 102 []))) (fun i hi => by
    simp only [List.mem_cons, List.not_mem_nil, or_false] at hi
    rcases hi with rfl | rfl | rfl | rfl | rfl
    · exact e0_.trans rfl
    · exact e1_.trans rfl
    · exact e2_.trans rfl
    · exact e6_.trans rfl
    · exact e8_.trans rfl)).trans (by kernel_rfl)) eh_ hQ hi
noncomputable def gs_jnS : GsA := fun i => if i = 2 then some (tu1 gjnS_2) else none
theorem regs_jnS : (regList (codeOf Try.f16)).filter (fun p => (gs_jnS p.1).isSome) = [(2, opsjnS_2, true)] := by kernel_rfl
theorem regOk_jnS : RegOkA Try.prog gs_jnS (codeOf Try.f16) := by
  refine regOk_list _ fun p hp g hg => ?_
  have h : p ∈ (regList (codeOf Try.f16)).filter (fun p => (gs_jnS p.1).isSome) := List.mem_filter.2 ⟨hp, by rw [hg]; rfl⟩
  rw [regs_jnS] at h
  simp only [List.mem_cons, List.not_mem_nil, or_false] at h
  rcases h with rfl
  · cases hg; exact tu1_snd sndjnS_2
def st_jnS7 (more10 : Nat) (i11 : Int) (rw0 : Bool) (b0_0n : Nat) (b0_1n : Nat) (rw1 : Bool) (b1_0n : Nat) (b1_1n : Nat) (rw2 : Bool) (l2 : List Nat) (rw3 : Bool) (l3 : List Nat) (rw4 : Bool) (l4 : List Nat) (rw5 : Bool) (l5 : List Nat) (b7_0n : Nat) (b7_1n : Nat) (l8 : List Nat) (l9 : List Nat) : St := ⟨(.any :: .ptr 1 0 :: .any :: .any :: .any :: .any :: .ptr 6 0 :: .any :: .any :: .ptr 7 0 :: .fl .f32 more10 :: .int .i64 i11 :: (anys 99 [])), [.at rw0 (.as 1 [.sl 2 0 b0_0n, .sl 3 0 b0_1n]), .at rw1 (.as 1 [.sl 4 0 b1_0n, .sl 5 0 b1_1n]), .at rw2 (.fl .f32 l2), .at rw3 (.fl .f32 l3), .at rw4 (.fl .f32 l4), .at rw5 (.fl .f32 l5), .at true (.as 1 [.nil, .nil]), .at true (.as 1 [.sl 8 0 b7_0n, .sl 9 0 b7_1n]), .at true (.fl .f32 l8), .at true (.fl .f32 l9)]⟩
abbrev kp_jnS7 : Option (List Nat × List Nat) := some ([1, 6, 9, 10, 11], [6, 9])
noncomputable def lp_jnS7 {R : Type} (N M : Nat) (s : St) (K : X → St → Option R) : Option R := loopH 6 kp_jnS7 (fun st K => execA ty tab_jnS an_jnS gs_jnS N 6 (atOf [true, true, true, true, true, false, true, false, false] Try.f16) st K) M s K
noncomputable def kt_jnS7 {R : Type} (N : Nat) (K : X → St → Option R) : X → St → Option R := kBlkR 0 (kSeqA tab_jnS an_jnS gs_jnS N 6 (atOf [true, true, true, true, true, true] Try.f16) (K))
def en_jnS7_0 (rw0 : Bool) (b0_0n : Nat) (b0_1n : Nat) (rw1 : Bool) (b1_0n : Nat) (b1_1n : Nat) (rw2 : Bool) (l2 : List Nat) (rw3 : Bool) (l3 : List Nat) (rw4 : Bool) (l4 : List Nat) (rw5 : Bool) (l5 : List Nat) (b7_0n : Nat) (b7_1n : Nat) (l8 : List Nat) (l9 : List Nat) : St := ⟨(anys 6 (.ptr 6 0 :: .any :: .any :: .ptr 7 0 :: (anys 101 []))), [.at rw0 (.as 1 [.sl 2 0 b0_0n, .sl 3 0 b0_1n]), .at rw1 (.as 1 [.sl 4 0 b1_0n, .sl 5 0 b1_1n]), .at rw2 (.fl .f32 l2), .at rw3 (.fl .f32 l3), .at rw4 (.fl .f32 l4), .at rw5 (.fl .f32 l5), .at true (.as 1 [.nil, .nil]), .at true (.as 1 [.sl 8 0 b7_0n, .sl 9 0 b7_1n]), .at true (.fl .f32 l8), .at true (.fl .f32 l9)]⟩
theorem run_jnS (N : Nat) (g : Nat) (ra : Bool) (n : Nat) (m : Nat) (rb : Bool) (q : Nat) (k : Nat) (r0 : Bool) (l0 : List Nat) (r1 : Bool) (l1 : List Nat) (r2 : Bool) (l2 : List Nat) (r3 : Bool) (l3 : List Nat) : runA ty tab_jnS an_jnS gs_jnS N Try.f16 [.ptr 0 0, .ptr 1 0, .fl .f32 g] [.at ra (.as 1 [.sl 2 0 n, .sl 3 0 m]), .at rb (.as 1 [.sl 4 0 q, .sl 5 0 k]), .at r0 (.fl .f32 l0), .at r1 (.fl .f32 l1), .at r2 (.fl .f32 l2), .at r3 (.fl .f32 l3)]
    = (match cond (posB g) ((!(((n : Nat) : Int) == 0)) && (!(((q : Nat) : Int) == 0)) && (decide (0 ≤ (((n : Nat) : Int) : Int) ∧ (((n : Nat) : Int) : Int) < ((m : Nat) : Int))) && ((l1[0 + (((n : Nat) : Int)).toNat * 1]?).isSome) && (decide (0 ≤ (0 : Int) ∧ (0 : Int) < ((k : Nat) : Int))) && ((l3[0]?).isSome) && (decide ((l1[0 + (((n : Nat) : Int)).toNat * 1]?).getD 0 < 4294967296 ∧ (l3[0]?).getD 0 < 4294967296))) ((!(((n : Nat) : Int) == 0)) && (!(((q : Nat) : Int) == 0))) with | true => (match cond (posB g) ((!(sN ((l1[0 + (((n : Nat) : Int)).toNat * 1]?).getD 0) ((l3[0]?).getD 0)))) (true) with | true => some (.tup [.g [.nil, .nil], .a (.bool false)], [.at ra (.as 1 [.sl 2 0 n, .sl 3 0 m]), .at rb (.as 1 [.sl 4 0 q, .sl 5 0 k]), .at r0 (.fl .f32 l0), .at r1 (.fl .f32 l1), .at r2 (.fl .f32 l2), .at r3 (.fl .f32 l3)]) | false => (match decide (l0.length = n ∧ n < 2147483648 ∧ l1.length = m ∧ m < 2147483648) with | true => (match decide (0 ≤ (IntKind.i64.wrap (((n : Nat) : Int) - 1) : Int) ∧ (IntKind.i64.wrap (((n : Nat) : Int) - 1) : Int) < ((n : Nat) : Int)) with | true => (match l0[0 + (IntKind.i64.wrap (((n : Nat) : Int) - 1)).toNat * 1]? with | some e3 => (match decide (0 ≤ (0 : Int) ∧ (0 : Int) < ((q : Nat) : Int)) with | true => (match l2[0]? with | some e4 => lp_jnS7 N N (st_jnS7 (fop .sub .f32 (fop .add .f32 e3 g) e4) 0 ra n m rb q k r0 l0 r1 l1 r2 l2 r3 l3 n m l0 l1) (kt_jnS7 N (kEndA Try.f16 6)) | none => none) | false => none) | none => none) | false => none) | false => none)) | false => none) := by
  kernel_rfl
theorem step_jnS7 {R : Type} (N M : Nat) (K : X → St → Option R) (more10 : Nat) (i11 : Int) (rw0 : Bool) (b0_0n : Nat) (b0_1n : Nat) (rw1 : Bool) (b1_0n : Nat) (b1_1n : Nat) (rw2 : Bool) (l2 : List Nat) (rw3 : Bool) (l3 : List Nat) (rw4 : Bool) (l4 : List Nat) (rw5 : Bool) (l5 : List Nat) (b7_0n : Nat) (b7_1n : Nat) (l8 : List Nat) (l9 : List Nat) : lp_jnS7 N (M + 1) (st_jnS7 more10 i11 rw0 b0_0n b0_1n rw1 b1_0n b1_1n rw2 l2 rw3 l3 rw4 l4 rw5 l5 b7_0n b7_1n l8 l9) K
    = (match decide ((i11 : Int) < ((b1_0n : Nat) : Int)) with | true => (match decide (0 ≤ (i11 : Int) ∧ (i11 : Int) < ((b1_0n : Nat) : Int)) with | true => (match l4[0 + (i11).toNat * 1]? with | some e1 => (match apok true b7_0n 1 l8.length 1 (b7_0n + 1) 4 with | true => (match decide (0 ≤ (IntKind.i64.wrap (i11 + 1) : Int) ∧ (IntKind.i64.wrap (i11 + 1) : Int) < ((b1_1n : Nat) : Int)) with | true => (match l5[0 + (IntKind.i64.wrap (i11 + 1)).toNat * 1]? with | some e2 => (match apok true b7_1n 1 l9.length 1 (b7_1n + 1) 4 with | true => lp_jnS7 N M (st_jnS7 more10 (IntKind.i64.wrap (i11 + 1)) rw0 b0_0n b0_1n rw1 b1_0n b1_1n rw2 l2 rw3 l3 rw4 l4 rw5 l5 (b7_0n + 1) (b7_1n + 1) (l8 ++ [fop .add .f32 e1 more10]) (l9 ++ [e2])) K | false => none) | none => none) | false => none) | false => none) | none => none) | false => none) | false => K (.exit 0) (en_jnS7_0 rw0 b0_0n b0_1n rw1 b1_0n b1_1n rw2 l2 rw3 l3 rw4 l4 rw5 l5 b7_0n b7_1n l8 l9)) := by
  kernel_rfl
theorem end_jnS7_0 (N : Nat) (rw0 : Bool) (b0_0n : Nat) (b0_1n : Nat) (rw1 : Bool) (b1_0n : Nat) (b1_1n : Nat) (rw2 : Bool) (l2 : List Nat) (rw3 : Bool) (l3 : List Nat) (rw4 : Bool) (l4 : List Nat) (rw5 : Bool) (l5 : List Nat) (b7_0n : Nat) (b7_1n : Nat) (l8 : List Nat) (l9 : List Nat) : kt_jnS7 N (kEndA Try.f16 6) (.exit 0) (en_jnS7_0 rw0 b0_0n b0_1n rw1 b1_0n b1_1n rw2 l2 rw3 l3 rw4 l4 rw5 l5 b7_0n b7_1n l8 l9)
    = (match decide (l8.length = b7_0n ∧ b7_0n < 2147483648 ∧ l9.length = b7_1n ∧ b7_1n < 2147483648) with | true => (match vsB l8 l9 with | true => some (.tup [.g [.sl 6 0 b7_0n, .sl 7 0 b7_1n], .a (.bool true)], [.at rw0 (.as 1 [.sl 2 0 b0_0n, .sl 3 0 b0_1n]), .at rw1 (.as 1 [.sl 4 0 b1_0n, .sl 5 0 b1_1n]), .at rw2 (.fl .f32 l2), .at rw3 (.fl .f32 l3), .at rw4 (.fl .f32 l4), .at rw5 (.fl .f32 l5), .at true (.fl .f32 l8), .at true (.fl .f32 l9)]) | false => some (.tup [.g [.nil, .nil], .a (.bool false)], [.at rw0 (.as 1 [.sl 2 0 b0_0n, .sl 3 0 b0_1n]), .at rw1 (.as 1 [.sl 4 0 b1_0n, .sl 5 0 b1_1n]), .at rw2 (.fl .f32 l2), .at rw3 (.fl .f32 l3), .at rw4 (.fl .f32 l4), .at rw5 (.fl .f32 l5)])) | false => none) := by
  kernel_rfl
end Go.Proofs.Ythjncajdognojaa.Ab

namespace Go.Proofs.Ythjncajdognojaa.Ab
set_option linter.unusedVariables false
set_option linter.unusedSimpArgs false
open Go
theorem rounds_two (f h : Nat → Nat) : ∀ k i (a b : List Nat), rounds (fun i (s : List Nat × List Nat) => (s.1 ++ [f i], s.2 ++ [h i])) k i (a, b) = (a ++ (List.range' i k).map f, b ++ (List.range' i k).map h)
  | 0, i, a, b => by simp [rounds]
  | k + 1, i, a, b => by
    show rounds _ k (i + 1) (a ++ [f i], b ++ [h i]) = _
    rw [rounds_two f h k (i + 1)]
    simp [List.range'_succ]
theorem drop_range {l : List Nat} {q : Nat} (h : l.length = q + 1) : (List.range' 0 q).map (fun i => l.getD (i + 1) 0) = l.drop 1 := by
  apply List.ext_getElem?
  intro i
  by_cases hi : i < q
  · rw [List.getElem?_drop]
    have h2 : 1 + i < l.length := by omega
    simp [hi, List.getD_eq_getElem?_getD, Nat.add_comm 1 i, show i + 1 < l.length by omega]
  · rw [List.getElem?_drop]
    simp [hi, show ¬ 1 + i < l.length by omega]
def gJnS : GT := fun vs h => match vs, h with
  | [.ptr 0 0, .ptr 1 0, .fl .f32 g], [.at ra (.as 1 [.sl 2 0 n, .sl 3 0 m]), .at rb (.as 1 [.sl 4 0 q, .sl 5 0 k]), .at r0 (.fl .f32 l0), .at r1 (.fl .f32 l1), .at r2 (.fl .f32 l2), .at r3 (.fl .f32 l3)] =>
    .ite (decide (l0.length = n ∧ l1.length = m ∧ l2.length = q ∧ l3.length = k)) (.ite (jPre l0 l1 l2 l3) (.ite (jOk l0 l1 l2 l3 g) (.ret (.tup [.g [.sl 6 0 (jE l0 l2 g).length, .sl 7 0 (jM l1 l3).length], .a (.bool true)]) [.at ra (.as 1 [.sl 2 0 n, .sl 3 0 m]), .at rb (.as 1 [.sl 4 0 q, .sl 5 0 k]), .at r0 (.fl .f32 l0), .at r1 (.fl .f32 l1), .at r2 (.fl .f32 l2), .at r3 (.fl .f32 l3), .at true (.fl .f32 (jE l0 l2 g)), .at true (.fl .f32 (jM l1 l3))]) (.ret (.tup [.g [.nil, .nil], .a (.bool false)]) [.at ra (.as 1 [.sl 2 0 n, .sl 3 0 m]), .at rb (.as 1 [.sl 4 0 q, .sl 5 0 k]), .at r0 (.fl .f32 l0), .at r1 (.fl .f32 l1), .at r2 (.fl .f32 l2), .at r3 (.fl .f32 l3)])) .no) .no
  | _, _ => .no
theorem ok_jnS : FnT Try.prog 16 gJnS := by
  refine fnA_ok tyOk tabok_jnS mixed Try.func16 rfl rfl an_jnS gs_jnS regOk_jnS fun vs h v h' e => ?_
  unfold gJnS at e
  split at e
  case h_2 => exact (T.no_inv e).elim
  rename_i g ra n m rb q k r0 l0 r1 l1 r2 l2 r3 l3
  obtain ⟨hd, e1⟩ := T.pre_inv e
  obtain ⟨hp, e2⟩ := T.pre_inv e1
  clear e e1
  obtain ⟨rfl, rfl, rfl, rfl⟩ := of_decide_eq_true hd
  clear hd
  obtain ⟨v1, v2, b1, b2, w1, w3⟩ := jPre_of hp
  have a1 := vs_len v1
  have a2 := vs_len v2
  refine ⟨l2.length + 1, Eq.trans (run_jnS _ g ra l0.length l1.length rb l2.length l3.length r0 l0 r1 l1 r2 l2 r3 l3) (Eq.trans ?_ e2)⟩
  clear e2 hp
  show _ = (match jOk l0 l1 l2 l3 g with | true => some (V.tup [.g [.sl 6 0 (jE l0 l2 g).length, .sl 7 0 (jM l1 l3).length], .a (.bool true)], ([.at ra (.as 1 [.sl 2 0 l0.length, .sl 3 0 l1.length]), .at rb (.as 1 [.sl 4 0 l2.length, .sl 5 0 l3.length]), .at r0 (.fl .f32 l0), .at r1 (.fl .f32 l1), .at r2 (.fl .f32 l2), .at r3 (.fl .f32 l3), .at true (.fl .f32 (jE l0 l2 g)), .at true (.fl .f32 (jM l1 l3))] : H)) | false => some (V.tup [.g [.nil, .nil], .a (.bool false)], ([.at ra (.as 1 [.sl 2 0 l0.length, .sl 3 0 l1.length]), .at rb (.as 1 [.sl 4 0 l2.length, .sl 5 0 l3.length]), .at r0 (.fl .f32 l0), .at r1 (.fl .f32 l1), .at r2 (.fl .f32 l2), .at r3 (.fl .f32 l3)] : H)))
  unfold jOk
  have hwl : IntKind.i64.wrap (((l0.length : Nat) : Int) - 1) = ((l0.length - 1 : Nat) : Int) := by rw [wrap_z (by omega) (by omega)]; omega
  have ix1 : 0 + ((l0.length - 1 : Nat) : Int).toNat * 1 = l0.length - 1 := ix
  have n0 : (((l0.length : Nat) : Int) == 0) = false := beq_eq_false_iff_ne.mpr (by omega)
  have q0 : (((l2.length : Nat) : Int) == 0) = false := beq_eq_false_iff_ne.mpr (by omega)
  have hx : l1[0 + (((l0.length : Nat) : Int)).toNat * 1]? = some (l1.getD l0.length 0) := by rw [ix]; exact getD_some' (by omega)
  have hy : l3[0]? = some (l3.getD 0 0) := getD_some' (by omega)
  cases hg : posB g with
  | false =>
    rw [show (cond false ((!(((l0.length : Nat) : Int) == 0)) && (!(((l2.length : Nat) : Int) == 0)) && (decide (0 ≤ (((l0.length : Nat) : Int) : Int) ∧ (((l0.length : Nat) : Int) : Int) < ((l1.length : Nat) : Int))) && ((l1[0 + (((l0.length : Nat) : Int)).toNat * 1]?).isSome) && (decide (0 ≤ (0 : Int) ∧ (0 : Int) < ((l3.length : Nat) : Int))) && ((l3[0]?).isSome) && (decide ((l1[0 + (((l0.length : Nat) : Int)).toNat * 1]?).getD 0 < 4294967296 ∧ (l3[0]?).getD 0 < 4294967296))) ((!(((l0.length : Nat) : Int) == 0)) && (!(((l2.length : Nat) : Int) == 0)))) = true from by rw [n0, q0]; rfl]
    rfl
  | true =>
  rw [show (cond true ((!(((l0.length : Nat) : Int) == 0)) && (!(((l2.length : Nat) : Int) == 0)) && (decide (0 ≤ (((l0.length : Nat) : Int) : Int) ∧ (((l0.length : Nat) : Int) : Int) < ((l1.length : Nat) : Int))) && ((l1[0 + (((l0.length : Nat) : Int)).toNat * 1]?).isSome) && (decide (0 ≤ (0 : Int) ∧ (0 : Int) < ((l3.length : Nat) : Int))) && ((l3[0]?).isSome) && (decide ((l1[0 + (((l0.length : Nat) : Int)).toNat * 1]?).getD 0 < 4294967296 ∧ (l3[0]?).getD 0 < 4294967296))) ((!(((l0.length : Nat) : Int) == 0)) && (!(((l2.length : Nat) : Int) == 0)))) = true from by
    rw [n0, q0, hx, hy, decide_eq_true (show 0 ≤ (((l0.length : Nat) : Int) : Int) ∧ (((l0.length : Nat) : Int) : Int) < ((l1.length : Nat) : Int) by omega), decide_eq_true (show 0 ≤ (0 : Int) ∧ (0 : Int) < ((l3.length : Nat) : Int) by omega), show decide ((some (l1.getD l0.length 0)).getD 0 < 4294967296 ∧ (some (l3.getD 0 0)).getD 0 < 4294967296) = true from decide_eq_true ⟨w32_at w1 (by omega), w32_at w3 (by omega)⟩]
    rfl]
  rw [show (cond true ((!(sN ((l1[0 + (((l0.length : Nat) : Int)).toNat * 1]?).getD 0) ((l3[0]?).getD 0)))) (true)) = !(sN (l1.getD l0.length 0) (l3.getD 0 0)) from by rw [hx, hy]; rfl]
  cases hs : sN (l1.getD l0.length 0) (l3.getD 0 0) with
  | false => rfl
  | true =>
  rw [Bool.not_true, Bool.true_and, Bool.true_and]
  rw [show (decide (l0.length = l0.length ∧ l0.length < 2147483648 ∧ l1.length = l1.length ∧ l1.length < 2147483648)) = true from decide_eq_true (by omega)]
  rw [show (decide (0 ≤ (IntKind.i64.wrap (((l0.length : Nat) : Int) - 1) : Int) ∧ (IntKind.i64.wrap (((l0.length : Nat) : Int) - 1) : Int) < ((l0.length : Nat) : Int))) = true from by rw [hwl]; exact decide_eq_true (by omega)]
  rw [show l0[0 + (IntKind.i64.wrap (((l0.length : Nat) : Int) - 1)).toNat * 1]? = some (l0.getD (l0.length - 1) 0) from by rw [hwl, ix1]; exact getD_some' (by omega)]
  dsimp only
  rw [show (decide (0 ≤ (0 : Int) ∧ (0 : Int) < ((l2.length : Nat) : Int))) = true from decide_eq_true (by omega)]
  rw [show l2[0]? = some (l2.getD 0 0) from by exact getD_some' (by omega)]
  dsimp only
  have hc := count_up l2.length (fun i (o : List Nat × List Nat) => (o.1 ++ [fop .add .f32 (l2.getD i 0) (jBy l0 l2 g)], o.2 ++ [l3.getD (i + 1) 0])) (fun M i o => lp_jnS7 (l2.length + 1) M (st_jnS7 (jBy l0 l2 g) (i : Int) ra l0.length l1.length rb l2.length l3.length r0 l0 r1 l1 r2 l2 r3 l3 o.1.length o.2.length o.1 o.2) (kt_jnS7 (l2.length + 1) (kEndA Try.f16 6)))
    (fun o => match vsB o.1 o.2 with | true => some (.tup [.g [.sl 6 0 o.1.length, .sl 7 0 o.2.length], .a (.bool true)], [.at ra (.as 1 [.sl 2 0 l0.length, .sl 3 0 l1.length]), .at rb (.as 1 [.sl 4 0 l2.length, .sl 5 0 l3.length]), .at r0 (.fl .f32 l0), .at r1 (.fl .f32 l1), .at r2 (.fl .f32 l2), .at r3 (.fl .f32 l3), .at true (.fl .f32 o.1), .at true (.fl .f32 o.2)]) | false => some ((.tup [.g [.nil, .nil], .a (.bool false)]), [.at ra (.as 1 [.sl 2 0 l0.length, .sl 3 0 l1.length]), .at rb (.as 1 [.sl 4 0 l2.length, .sl 5 0 l3.length]), .at r0 (.fl .f32 l0), .at r1 (.fl .f32 l1), .at r2 (.fl .f32 l2), .at r3 (.fl .f32 l3)])) (fun i o => o.1.length = l0.length + i ∧ o.2.length = l1.length + i)
    (fun M i o hi hv => ?_) (fun M o hv => ?_) l2.length 0 (l0, l1) (by omega) (by simp) 0
  · rw [rounds_two, map_range l2 (fun x => fop .add .f32 x (jBy l0 l2 g)), drop_range a2.2, show l2.length + 1 + 0 = l2.length + 1 by omega] at hc
    exact hc
  · refine ⟨?_, by simp; omega⟩
    have hv1 := hv.1
    have hv2 := hv.2
    simp only [step_jnS7, dlt hi, din hi, ix, getD_some' hi, apc (rfl : o.1.length = o.1.length) (show o.1.length < 2147483648 by omega) (show 4 ≤ 16 by omega), apc (rfl : o.2.length = o.2.length) (show o.2.length < 2147483648 by omega) (show 4 ≤ 16 by omega), wr (show i < 2147483648 by omega), din (show i + 1 < l3.length by omega), getD_some' (show i + 1 < l3.length by omega)]
    rw [show o.1.length + 1 = (o.1 ++ [fop .add .f32 (l2.getD i 0) (jBy l0 l2 g)]).length by simp, show o.2.length + 1 = (o.2 ++ [l3.getD (i + 1) 0]).length by simp]
  · have hd : decide (o.1.length = o.1.length ∧ o.1.length < 2147483648 ∧ o.2.length = o.2.length ∧ o.2.length < 2147483648) = true := decide_eq_true ⟨rfl, by omega, rfl, by omega⟩
    rw [step_jnS7, dge (Nat.le_refl _)]
    show kt_jnS7 _ _ (.exit 0) (en_jnS7_0 ra l0.length l1.length rb l2.length l3.length r0 l0 r1 l1 r2 l2 r3 l3 o.1.length o.2.length o.1 o.2) = _
    rw [end_jnS7_0, hd]
    all_goals (cases vsB o.1 o.2 <;> rfl)
end Go.Proofs.Ythjncajdognojaa.Ab

namespace Go.Proofs.Ythjncajdognojaa.Ab
set_option linter.unusedVariables false
set_option linter.unusedSimpArgs false
open Go
def rpN (l0 l1 : List Nat) (g : Nat) : Nat → List Nat → List Nat → Option (List Nat × List Nat)
  | 0, e, m => some (e, m)
  | k + 1, e, m => match jOk e m l0 l1 g with | true => rpN l0 l1 g k (jE e l0 g) (jM m l1) | false => none
def rpG (l0 : List Nat) : Nat := fop .sub .f32 (l0.getD (l0.length - 1) 0) (l0.getD 0 0)
def rpR (l0 l1 : List Nat) (t : Int) : Option (List Nat × List Nat) := rpN l0 l1 (rpG l0) (t - 1).toNat l0 l1
def rpOk (l0 l1 : List Nat) (t : Int) : Bool := vsB l0 l1 && (decide (1 ≤ l0.length) && (inB t 1 5 && (sN (l1.getD 0 0) (l1.getD (l1.length - 1) 0) && (rpR l0 l1 t).isSome)))
def rpE (l0 l1 : List Nat) (t : Int) : List Nat := ((rpR l0 l1 t).getD ([], [])).1
def rpM (l0 l1 : List Nat) (t : Int) : List Nat := ((rpR l0 l1 t).getD ([], [])).2
theorem jPre_next {e m l0 l1 : List Nat} {g : Nat} (h : jPre e m l0 l1 = true) (hk : jOk e m l0 l1 g = true) : jPre (jE e l0 g) (jM m l1) l0 l1 = true := by
  obtain ⟨v1, v2, b1, b2, w1, w3⟩ := jPre_of h
  unfold jOk at hk
  simp only [Bool.and_eq_true] at hk
  unfold jPre
  rw [hk.2.2, v2, decide_eq_true b2, w3, decide_eq_true (show 1 ≤ (jE e l0 g).length by unfold jE; rw [List.length_append]; omega)]
  have hw : w32 (jM m l1) = true := by
    unfold w32 jM at *
    rw [List.all_append, w1, Bool.true_and, List.all_eq_true]
    intro x hx
    exact List.all_eq_true.mp w3 x (List.mem_of_mem_drop hx)
  rw [hw]
  rfl
theorem jPre_first {l0 l1 : List Nat} (h : vsB l0 l1 = true) (hb : 1 ≤ l0.length) (hw : w32 l1 = true) : jPre l0 l1 l0 l1 = true := by
  unfold jPre
  rw [h, decide_eq_true hb, hw]
  rfl
def gRp : GT := fun vs h => match vs, h with
  | [.g [.sl 0 0 n, .sl 1 0 m], .int .i64 t], [.at r0 (.fl .f32 l0), .at r1 (.fl .f32 l1)] =>
    .ite (decide (l0.length = n ∧ n < 2147483648 ∧ l1.length = m ∧ m < 2147483648 ∧ w32 l1 = true)) (.ite (rpOk l0 l1 t) (.ret (.tup [.g [.sl 2 0 (rpE l0 l1 t).length, .sl 3 0 (rpM l0 l1 t).length], .a (.bool true)]) [.at r0 (.fl .f32 l0), .at r1 (.fl .f32 l1), .at true (.fl .f32 (rpE l0 l1 t)), .at true (.fl .f32 (rpM l0 l1 t))]) (.ret (.tup [.g [.nil, .nil], .a (.bool false)]) [.at r0 (.fl .f32 l0), .at r1 (.fl .f32 l1)])) .no
  | _, _ => .no
end Go.Proofs.Ythjncajdognojaa.Ab

/- FnRotors: the two parts. Only lemmas. Printed by gen_rotors.py. -/
import Derived.Test.YtbbggpcbnahgiaaRtT1
import Derived.Test.YtbbggpcbnahgiaaRtW0
import Derived.Test.YtbbggpcbnahgiaaRtW1
import Derived.Test.YtbbggpcbnahgiaaRtW2
import Derived.Test.YtbbggpcbnahgiaaRtW3
import Derived.Test.YtbbggpcbnahgiaaRtX0
import Derived.Test.YtbbggpcbnahgiaaRtX1
import Derived.Test.YtbbggpcbnahgiaaRtX2
import Derived.Test.YtbbggpcbnahgiaaRtX3
import Derived.Test.YtbbggpcbnahgiaaRtT4
namespace Go.Proofs.Ytbbggpcbnahgiaa.Ab
set_option linter.unusedVariables false
set_option linter.unusedSimpArgs false
open Go
theorem T1 : bL.all (fun b => (List.range 12).all (t1 b)) = true := List.all_eq_true.mpr fun b hb => by
  simp only [bL, List.mem_cons, List.not_mem_nil, or_false] at hb
  rcases hb with rfl | rfl | rfl | rfl | rfl | rfl | rfl | rfl | rfl | rfl | rfl | rfl | rfl | rfl | rfl | rfl
  · exact T1_0
  · exact T1_1
  · exact T1_2
  · exact T1_3
  · exact T1_4
  · exact T1_5
  · exact T1_6
  · exact T1_7
  · exact T1_8
  · exact T1_9
  · exact T1_10
  · exact T1_11
  · exact T1_12
  · exact T1_13
  · exact T1_14
  · exact T1_15
theorem T1w : bL.all (fun b => (List.range 12).all (t1w b)) = true := List.all_eq_true.mpr fun b hb => by
  simp only [bL, List.mem_cons, List.not_mem_nil, or_false] at hb
  rcases hb with rfl | rfl | rfl | rfl | rfl | rfl | rfl | rfl | rfl | rfl | rfl | rfl | rfl | rfl | rfl | rfl
  · exact T1w_0
  · exact T1w_1
  · exact T1w_2
  · exact T1w_3
  · exact T1w_4
  · exact T1w_5
  · exact T1w_6
  · exact T1w_7
  · exact T1w_8
  · exact T1w_9
  · exact T1w_10
  · exact T1w_11
  · exact T1w_12
  · exact T1w_13
  · exact T1w_14
  · exact T1w_15
theorem T2 : bL.all (fun b => bL.all fun o => (List.range 12).all (t2 b o)) = true := List.all_eq_true.mpr fun b hb => by
  simp only [bL, List.mem_cons, List.not_mem_nil, or_false] at hb
  rcases hb with rfl | rfl | rfl | rfl | rfl | rfl | rfl | rfl | rfl | rfl | rfl | rfl | rfl | rfl | rfl | rfl
  · exact T2_0
  · exact T2_1
  · exact T2_2
  · exact T2_3
  · exact T2_4
  · exact T2_5
  · exact T2_6
  · exact T2_7
  · exact T2_8
  · exact T2_9
  · exact T2_10
  · exact T2_11
  · exact T2_12
  · exact T2_13
  · exact T2_14
  · exact T2_15
theorem T3 : bL.all (fun b => bL.all fun o => (List.range 12).all (t3 b o)) = true := List.all_eq_true.mpr fun b hb => by
  simp only [bL, List.mem_cons, List.not_mem_nil, or_false] at hb
  rcases hb with rfl | rfl | rfl | rfl | rfl | rfl | rfl | rfl | rfl | rfl | rfl | rfl | rfl | rfl | rfl | rfl
  · exact T3_0
  · exact T3_1
  · exact T3_2
  · exact T3_3
  · exact T3_4
  · exact T3_5
  · exact T3_6
  · exact T3_7
  · exact T3_8
  · exact T3_9
  · exact T3_10
  · exact T3_11
  · exact T3_12
  · exact T3_13
  · exact T3_14
  · exact T3_15
theorem bF_mem {A : Nat} (h : A < 16) : bF (A : Int) ∈ bL := List.contains_iff_mem.mp (List.all_eq_true.mp T0 A (List.mem_range.mpr h))
theorem f1 {b n : Nat} (hb : b ∈ bL) (hn : n < 12) : t1 b n = true := List.all_eq_true.mp (List.all_eq_true.mp T1 b hb) n (List.mem_range.mpr hn)
theorem f1w {b n : Nat} (hb : b ∈ bL) (hn : n < 12) : t1w b n = true := List.all_eq_true.mp (List.all_eq_true.mp T1w b hb) n (List.mem_range.mpr hn)
theorem f2 {b o i : Nat} (hb : b ∈ bL) (ho : o ∈ bL) (hi : i < 12) : t2 b o i = true := List.all_eq_true.mp (List.all_eq_true.mp (List.all_eq_true.mp T2 b hb) o ho) i (List.mem_range.mpr hi)
theorem f3 {b o n : Nat} (hb : b ∈ bL) (ho : o ∈ bL) (hn : n < 12) : t3 b o n = true := List.all_eq_true.mp (List.all_eq_true.mp (List.all_eq_true.mp T3 b hb) o ho) n (List.mem_range.mpr hn)
theorem in40 {n : Nat} (hn : n < 12) : inB ((n + 1 : Nat) : Int) 1 40 = true := by
  unfold inB
  rw [decide_eq_true (show ((n + 1 : Nat) : Int) ≥ 1 by omega), decide_eq_true (show ((n + 1 : Nat) : Int) ≤ 40 by omega)]
  rfl
theorem br_ok {b o n : Nat} (hb : b ∈ bL) (ho : o ∈ bL) (hn : n < 12) {k : Int} (hk : k = 1 ∨ k = -1 ∨ k = 0) : ok_br b o 1120403456 k ((n + 1 : Nat) : Int) = true := by
  have h1 := f1 hb hn
  have h2 := f1 ho hn
  unfold t1 at h1 h2
  simp only [Bool.and_eq_true] at h1 h2
  unfold ok_br
  rw [h1.1, h2.1, in40 hn, show inB k (-1) 1 = true by rcases hk with rfl | rfl | rfl <;> rfl, show finB 1120403456 = true from by decide +kernel]
  simp only [Bool.true_and]
  refine List.all_eq_true.mpr fun x hx => ?_
  unfold li_br at hx
  obtain ⟨i, hi, rfl⟩ := List.mem_map.mp hx
  have hi2 := (List.mem_range'_1.mp hi).2
  have h3 := f2 hb ho (show i < 12 by omega)
  unfold t2 at h3
  simp only [Bool.and_eq_true] at h3
  rcases hk with rfl | rfl | rfl
  · exact h3.1
  · exact h3.2.1
  · exact h3.2.2.1
theorem li_at {f : Nat → Nat} {m i : Nat} (h : i < m) : ((List.range' 0 m).map f)[i]? = some (f i) := by simp [h]
theorem rl_at (b d : Nat) {n i : Nat} (h : i < n + 1) : (li_rl b d ((n + 1 : Nat) : Int))[i]? = some (el_rl b d ((n + 1 : Nat) : Int) i) := by
  unfold li_rl
  exact li_at (by omega)
theorem tl_at (a b : Nat) {n i : Nat} (h : i < n + 2) : (li_tl a b ((n + 1 : Nat) : Int))[i]? = some (el_tl a b ((n + 1 : Nat) : Int) i) := by
  unfold li_tl
  exact li_at (by omega)
theorem br_at (b o g : Nat) (k : Int) {n i : Nat} (h : i < n + 1) : (li_br b o g k ((n + 1 : Nat) : Int))[i]? = some (el_br b o g k ((n + 1 : Nat) : Int) i) := by
  unfold li_br
  exact li_at (by omega)
theorem rotT {b n : Nat} (hb : b ∈ bL) (hn : n < 12) : ∀ i, i < n + 2 → ∃ e1, (li_tl b b ((n + 1 : Nat) : Int))[i]? = some e1 ∧ g23 b ((n + 1 : Nat) : Int) e1 = true := by
  intro i hi
  have h1 := f1 hb hn
  unfold t1 at h1
  simp only [Bool.and_eq_true] at h1
  exact ⟨_, tl_at b b hi, List.all_eq_true.mp h1.2.2.2.2.2 i (List.mem_range.mpr hi)⟩
theorem gapW {b n : Nat} (hb : b ∈ bL) (hn : n < 12) : gtD (gapD (sumW b (n + 1)) 4607182418800017408) 4562254508917369340 = false := by
  have h1 := f1w hb hn
  unfold t1w at h1
  simp only [Bool.and_eq_true, Bool.not_eq_true'] at h1
  exact h1.2.1
theorem rotA {A B n J : Nat} (hA : A < 16) (hB : B < 16) (hn : n < 12) (hJ : J < 8) (hh : H) (k : Nat → Nat → Int → Nat → Nat → List Nat → Option (V × H)) :
    rA (A : Int) (B : Int) (n : Int) (J : Int) hh k = k (bF (A : Int)) (bF (B : Int)) ((n + 1 : Nat) : Int) (n + 2) (sumW (bF (A : Int)) (n + 1)) (li_tl (bF (A : Int)) (bF (A : Int)) ((n + 1 : Nat) : Int)) := by
  have hb := bF_mem hA
  have ho := bF_mem hB
  unfold rA
  rw [nF_nat (show n < 900 by omega), nF_nat (show J < 900 by omega)]
  generalize bF (A : Int) = b at *
  generalize bF (B : Int) = o at *
  have h1 := f1 hb hn
  have h2 := f1w hb hn
  have h3 := f1w ho hn
  unfold t1 at h1
  unfold t1w at h2 h3
  simp only [Bool.and_eq_true, Bool.not_eq_true'] at h1 h2 h3
  have hw1 : IntKind.i64.wrap (((n + 1 : Nat) : Int) - 1) = (n : Int) := by rw [wrap_n (by omega) (by omega)]; omega
  have hw2 : IntKind.i64.wrap (((n + 1 : Nat) : Int) + 1) = ((n + 2 : Nat) : Int) := by rw [wrap_n (by omega) (by omega)]; omega
  rw [show (ok_rl b 0 ((n + 1 : Nat) : Int)) = true from by
    exact h1.2.1]
  rw [show (wOk b 1090519040 ((n + 1 : Nat) : Int)) = true from by
    exact h2.1]
  rw [show (decide ([b, o].length = 2 ∧ 2 < 2147483648)) = true from by
    rfl]
  rw [show (shOk [b, o] 1090519040 ((n + 1 : Nat) : Int) ((J + 1 : Nat) : Int)) = true from by
    unfold shOk
    rw [show inB ((J + 1 : Nat) : Int) 1 8 = true by unfold inB; rw [decide_eq_true (show ((J + 1 : Nat) : Int) ≥ 1 by omega), decide_eq_true (show ((J + 1 : Nat) : Int) ≤ 8 by omega)]; rfl]
    simp only [List.all_cons, List.all_nil, h2.1, h3.1]
    rfl]
  rw [show (ok_tl b b ((n + 1 : Nat) : Int)) = true from by
    exact h1.2.2.1]
  rw [show (ftB b b b) = true from by
    exact h1.2.2.2.1]
  rw [show (((((n + 1 : Nat) : Int).toNat : Nat) : Int) != ((n + 1 : Nat) : Int)) = false from by
    rw [Int.toNat_natCast]; simp]
  rw [show (decide ((wD b 1090519040 (((n + 1 : Nat) : Int).toNat)).length = ((n + 1 : Nat) : Int).toNat ∧ (wD b 1090519040 (((n + 1 : Nat) : Int).toNat)).length = ((n + 1 : Nat) : Int).toNat ∧ ((n + 1 : Nat) : Int).toNat < 2147483648 ∧ ((n + 1 : Nat) : Int).toNat < 2147483648)) = true from by
    exact decide_eq_true ⟨wD_len _ _ _, wD_len _ _ _, by omega, by omega⟩]
  rw [show (!(eqNB (wD b 1090519040 (((n + 1 : Nat) : Int).toNat)) (wD b 1090519040 (((n + 1 : Nat) : Int).toNat)))) = false from by
    rw [eqNB_self]; rfl]
  rw [show (shL [b, o] 1090519040 ((n + 1 : Nat) : Int))[0]? = some (shE 1090519040 ((n + 1 : Nat) : Int) b) from by
    rfl]
  dsimp only
  rw [show (decide (0 ≤ (IntKind.i64.wrap (((n + 1 : Nat) : Int) - 1) : Int) ∧ (IntKind.i64.wrap (((n + 1 : Nat) : Int) - 1) : Int) < ((((n + 1 : Nat) : Int).toNat : Nat) : Int))) = true from by
    rw [hw1]; exact decide_eq_true (by omega)]
  rw [show (wD b 1090519040 (((n + 1 : Nat) : Int).toNat))[0 + (IntKind.i64.wrap (((n + 1 : Nat) : Int) - 1)).toNat * 1]? = some (shE 1090519040 ((n + 1 : Nat) : Int) b) from by
    rw [hw1, ix, Int.toNat_natCast]; exact get_getD (by rw [wD_len]; omega)]
  dsimp only
  rw [show (!(sN (shE 1090519040 ((n + 1 : Nat) : Int) b) (shE 1090519040 ((n + 1 : Nat) : Int) b))) = false from by
    rw [sN_self]; rfl]
  rw [show ((((((n + 1 : Nat) : Int) + 1).toNat : Nat) : Int) != (IntKind.i64.wrap (((n + 1 : Nat) : Int) + 1))) = false from by
    rw [hw2, show (((n + 1 : Nat) : Int) + 1).toNat = n + 2 by omega]; simp]
  rw [show (FloatKind.f32.format.order (fop .add .f32 b b) (fop .mul .f32 1073741824 b) != some .eq) = false from by
    show (!eqB _ _) = false
    rw [h1.2.2.2.2.1]; rfl]
  rw [Int.toNat_natCast, show (((n + 1 : Nat) : Int) + 1).toNat = n + 2 by omega]
  exact lp16 b o _ _ _ _ _ _ _ k (n + 1) (by omega) fun i hi => ⟨_, _, rl_at b 0 hi, get_getD (d := 0) (by rw [wD_len]; exact hi), List.all_eq_true.mp h2.2.2 i (List.mem_range.mpr hi)⟩
theorem rotC {b o n Y Z su : Nat} (hb : b ∈ bL) (ho : o ∈ bL) (hn : n < 12) (hY : Y < 6) (hZ : Z < 200) (hs : gtD (gapD su 4607182418800017408) 4562254508917369340 = false) (hh : H) :
    rC (Y : Int) (Z : Int) b o ((n + 1 : Nat) : Int) su hh = some (.bool true, hh) := by
  unfold rC
  rw [nF_nat (show Y < 900 by omega)]
  have h3 := f3 hb ho hn
  unfold t3 at h3
  simp only [Bool.and_eq_true, decide_eq_true_eq] at h3
  have h4 := h3.1
  rw [show (ok_br b o 1120403456 1 ((n + 1 : Nat) : Int)) = true from by
    exact br_ok hb ho hn (by omega)]
  rw [show (ok_br b o 1120403456 (-1) ((n + 1 : Nat) : Int)) = true from by
    exact br_ok hb ho hn (by omega)]
  rw [show (ok_br b o 1120403456 0 ((n + 1 : Nat) : Int)) = true from by
    exact br_ok hb ho hn (by omega)]
  rw [show (rsB ((Y + 1 : Nat) : Int) (Z : Int)) = true from by
    unfold rsB inB
    rw [decide_eq_true (show ((Y + 1 : Nat) : Int) ≥ 1 by omega), decide_eq_true (show ((Y + 1 : Nat) : Int) ≤ 6 by omega), decide_eq_true (show (Z : Int) ≥ 0 by omega), decide_eq_true (show (Z : Int) ≤ 199 by omega)]
    rfl]
  rw [show (((((n + 1 : Nat) : Int).toNat : Nat) : Int) != ((n + 1 : Nat) : Int)) = false from by
    rw [Int.toNat_natCast]; simp]
  rw [show (decide ((((hdI b o 1120403456 ((n + 1 : Nat) : Int) : Nat) : Int) : Int) < 0)) = false from by
    exact decide_eq_false (by omega)]
  rw [show (decide ((((hdI b o 1120403456 ((n + 1 : Nat) : Int) : Nat) : Int) : Int) ≥ ((n + 1 : Nat) : Int))) = false from by
    exact decide_eq_false (by omega)]
  rw [show (decide (0 ≤ (((hdI b o 1120403456 ((n + 1 : Nat) : Int) : Nat) : Int) : Int) ∧ (((hdI b o 1120403456 ((n + 1 : Nat) : Int) : Nat) : Int) : Int) < ((((n + 1 : Nat) : Int).toNat : Nat) : Int))) = true from by
    exact decide_eq_true (by omega)]
  rw [show (li_br b o 1120403456 1 ((n + 1 : Nat) : Int))[0 + (((hdI b o 1120403456 ((n + 1 : Nat) : Int) : Nat) : Int)).toNat * 1]? = some (hdX b o 1120403456 ((n + 1 : Nat) : Int)) from by
    rw [ix]; exact get_getD (by rw [len_br]; omega)]
  dsimp only
  rw [show (FloatKind.f32.format.order (hdX b o 1120403456 ((n + 1 : Nat) : Int)) (hdX b o 1120403456 ((n + 1 : Nat) : Int)) != some .eq) = false from by
    show (!eqB _ _) = false
    rw [h3.2.1]; rfl]
  rw [show (gtD (gapD su 4607182418800017408) 4562254508917369340) = false from by
    exact hs]
  rw [Int.toNat_natCast]
  refine Eq.trans (lp38 b o _ _ _ _ _ _ _ _ _ _ (n + 1) (by omega) fun i hi => ?_) ?_
  · have h5 := f2 hb ho (show i < 12 by omega)
    unfold t2 at h5
    simp only [Bool.and_eq_true] at h5
    exact ⟨_, _, _, br_at b o _ 1 hi, br_at b o _ (-1) hi, br_at b o _ 0 hi, h5.2.2.2, List.all_eq_true.mp h3.2.2 i (List.mem_range.mpr hi)⟩
  · exact Eq.trans (lp45 hY hZ _) rfl
end Go.Proofs.Ytbbggpcbnahgiaa.Ab

/- What the proof names: lemmas and words, merged by a program from its parts. No condition. -/
import Derived.Test.YtpjoapgfdjfbdaaZ4
import Derived.Test.YtpjoapgfdjfbdaaZ5
namespace Go.Proofs.Ytpjoapgfdjfbdaa.Ab
set_option linter.unusedVariables false
set_option linter.unusedSimpArgs false
open Go
structure TZ (e : Nat) (q : Int) : Prop where
  f0 : (isS (qC 1 e true [0])) = true
  f1 : (isS (tZ 1 true [0])) = true
  f2 : (isS (qC ((dV 1 true [0]).1) e true ((dV 1 true [0]).2))) = true
  f3 : (isS (tZ ((dV 1 true [0]).1) true ((dV 1 true [0]).2))) = true
  f4 : (isS (uV 1 e true [0])) = true
  f5 : (isS (zN 1 e true [0])) = true
  f6 : (!(yO 1 e true [0])) = false
  f7 : (isS (qB 1 true [0])) = true
  f8 : (!(pJ 1 true [0])) = false
  f9 : (isS (KQ ((dV ((dV 1 true [0]).1) true ((dV 1 true [0]).2)).1) 1 true ((dV ((dV 1 true [0]).1) true ((dV 1 true [0]).2)).2) true [0])) = true
  f10 : (!(BR ((dV ((dV 1 true [0]).1) true ((dV 1 true [0]).2)).1) 1 true ((dV ((dV 1 true [0]).1) true ((dV 1 true [0]).2)).2) true [0])) = false
  f11 : ((((fG 1 e true [0]).1 : Nat) : Int) != (IntKind.i64.wrap ((0 : Int) + 1))) = false
  f12 : (ltB ((eX 1 e true [0]).1) 0) = false
  f13 : (ltB ((eX 1 e true [0]).2) 0) = false
  f14 : (gtD (r8G (fop .add .f32 ((eX 1 e true [0]).1) ((eX 1 e true [0]).2)) 1065353216) 4562254508917369340) = false
  f15 : (gtD (r8G ((eX 1 e true [0]).1) ((eX ((dV 1 true [0]).1) e true ((dV 1 true [0]).2)).1)) 4562254508917369340) = false
  f16 : (gtD (r8G ((eX 1 e true [0]).2) ((eX ((dV 1 true [0]).1) e true ((dV 1 true [0]).2)).2)) 4562254508917369340) = false
  f17 : (FloatKind.f32.format.order ((eX 1 e true [0]).1) 1065353216 != some .eq) = false
  f18 : (pwB 0 0) = true
  f19 : (pwB 1065353216 0) = true
  f20 : (gtD (r8G (pwN 0 0) (fop .mul .f32 ((eX 1 e true [0]).2) (pwN 1065353216 0))) (fop .mul .f64 4562254508917369340 (up (fop .add .f32 1065353216 (pwN 1065353216 0))))) = false
  f21 : (isS (qZ 1 2 q true [0] true [e, fop .add .f32 e 1073741824])) = true
  f22 : (isS (KZ 1 e (e2W e) true [0])) = true
  f23 : ((((fC 1 2 q true [0] true [e, fop .add .f32 e 1073741824]).1 : Nat) : Int) != 2) = false
  f24 : (decide (0 ≤ (0 : Int) ∧ (0 : Int) < (((fC 1 2 q true [0] true [e, fop .add .f32 e 1073741824]).1 : Nat) : Int))) = true
  f25 : (decide (((fC 1 2 q true [0] true [e, fop .add .f32 e 1073741824]).2)[0]? = some (((fC 1 2 q true [0] true [e, fop .add .f32 e 1073741824]).2).getD 0 0))) = true
  f26 : (FloatKind.f32.format.order (((fC 1 2 q true [0] true [e, fop .add .f32 e 1073741824]).2).getD 0 0) (eX 1 e true [0]).1 != some .eq) = false
  f27 : (ltB ((lZ 1 e (e2W e) true [0]).2) (eX 1 e true [0]).1) = false
  f28 : (decide (0 ≤ (1 : Int) ∧ (1 : Int) < (((fC 1 2 q true [0] true [e, fop .add .f32 e 1073741824]).1 : Nat) : Int))) = true
  f29 : (decide (((fC 1 2 q true [0] true [e, fop .add .f32 e 1073741824]).2)[1]? = some (((fC 1 2 q true [0] true [e, fop .add .f32 e 1073741824]).2).getD 1 0))) = true
  f30 : (ltB ((lZ 1 e (e2W e) true [0]).2) (((fC 1 2 q true [0] true [e, fop .add .f32 e 1073741824]).2).getD 1 0)) = false
  f31 : (ltB ((lZ 1 e (e2W e) true [0]).1) e) = false
  f32 : (gtB ((lZ 1 e (e2W e) true [0]).1) (e2W e)) = false
  f33 : (decide (0 ≤ ((0 : Nat) : Int) ∧ ((0 : Nat) : Int) < (((fG 1 e true [0]).1 : Nat) : Int))) = true
  f34 : (decide (0 < (fG 1 e true [0]).2.length)) = true
  f35 : (ltB 0 e) = true
  f36 : (FloatKind.f32.format.order ((fG 1 e true [0]).2.getD 0 zz).2 0 != some .eq) = false
  f37 : (gtD (r8G (fop .mul .f32 ((fG 1 e true [0]).2.getD 0 zz).1 ((fG 1 e true [0]).2.getD 0 zz).1) (fop .sub .f32 e 0)) 4562254508917369340) = false
  f38 : (gtB 0 e) = false
noncomputable def tzB (e : Nat) (q : Int) : Bool := ((isS (qC 1 e true [0])) == true) && (((isS (tZ 1 true [0])) == true) && (((isS (qC ((dV 1 true [0]).1) e true ((dV 1 true [0]).2))) == true) && (((isS (tZ ((dV 1 true [0]).1) true ((dV 1 true [0]).2))) == true) && (((isS (uV 1 e true [0])) == true) && (((isS (zN 1 e true [0])) == true) && (((!(yO 1 e true [0])) == false) && (((isS (qB 1 true [0])) == true) && (((!(pJ 1 true [0])) == false) && (((isS (KQ ((dV ((dV 1 true [0]).1) true ((dV 1 true [0]).2)).1) 1 true ((dV ((dV 1 true [0]).1) true ((dV 1 true [0]).2)).2) true [0])) == true) && (((!(BR ((dV ((dV 1 true [0]).1) true ((dV 1 true [0]).2)).1) 1 true ((dV ((dV 1 true [0]).1) true ((dV 1 true [0]).2)).2) true [0])) == false) && ((((((fG 1 e true [0]).1 : Nat) : Int) != (IntKind.i64.wrap ((0 : Int) + 1))) == false) && (((ltB ((eX 1 e true [0]).1) 0) == false) && (((ltB ((eX 1 e true [0]).2) 0) == false) && (((gtD (r8G (fop .add .f32 ((eX 1 e true [0]).1) ((eX 1 e true [0]).2)) 1065353216) 4562254508917369340) == false) && (((gtD (r8G ((eX 1 e true [0]).1) ((eX ((dV 1 true [0]).1) e true ((dV 1 true [0]).2)).1)) 4562254508917369340) == false) && (((gtD (r8G ((eX 1 e true [0]).2) ((eX ((dV 1 true [0]).1) e true ((dV 1 true [0]).2)).2)) 4562254508917369340) == false) && (((FloatKind.f32.format.order ((eX 1 e true [0]).1) 1065353216 != some .eq) == false) && (((pwB 0 0) == true) && (((pwB 1065353216 0) == true) && (((gtD (r8G (pwN 0 0) (fop .mul .f32 ((eX 1 e true [0]).2) (pwN 1065353216 0))) (fop .mul .f64 4562254508917369340 (up (fop .add .f32 1065353216 (pwN 1065353216 0))))) == false) && (((isS (qZ 1 2 q true [0] true [e, fop .add .f32 e 1073741824])) == true) && (((isS (KZ 1 e (e2W e) true [0])) == true) && ((((((fC 1 2 q true [0] true [e, fop .add .f32 e 1073741824]).1 : Nat) : Int) != 2) == false) && (((decide (0 ≤ (0 : Int) ∧ (0 : Int) < (((fC 1 2 q true [0] true [e, fop .add .f32 e 1073741824]).1 : Nat) : Int))) == true) && (((decide (((fC 1 2 q true [0] true [e, fop .add .f32 e 1073741824]).2)[0]? = some (((fC 1 2 q true [0] true [e, fop .add .f32 e 1073741824]).2).getD 0 0))) == true) && (((FloatKind.f32.format.order (((fC 1 2 q true [0] true [e, fop .add .f32 e 1073741824]).2).getD 0 0) (eX 1 e true [0]).1 != some .eq) == false) && (((ltB ((lZ 1 e (e2W e) true [0]).2) (eX 1 e true [0]).1) == false) && (((decide (0 ≤ (1 : Int) ∧ (1 : Int) < (((fC 1 2 q true [0] true [e, fop .add .f32 e 1073741824]).1 : Nat) : Int))) == true) && (((decide (((fC 1 2 q true [0] true [e, fop .add .f32 e 1073741824]).2)[1]? = some (((fC 1 2 q true [0] true [e, fop .add .f32 e 1073741824]).2).getD 1 0))) == true) && (((ltB ((lZ 1 e (e2W e) true [0]).2) (((fC 1 2 q true [0] true [e, fop .add .f32 e 1073741824]).2).getD 1 0)) == false) && (((ltB ((lZ 1 e (e2W e) true [0]).1) e) == false) && (((gtB ((lZ 1 e (e2W e) true [0]).1) (e2W e)) == false) && (((decide (0 ≤ ((0 : Nat) : Int) ∧ ((0 : Nat) : Int) < (((fG 1 e true [0]).1 : Nat) : Int))) == true) && (((decide (0 < (fG 1 e true [0]).2.length)) == true) && (((ltB 0 e) == true) && (((FloatKind.f32.format.order ((fG 1 e true [0]).2.getD 0 zz).2 0 != some .eq) == false) && (((gtD (r8G (fop .mul .f32 ((fG 1 e true [0]).2.getD 0 zz).1 ((fG 1 e true [0]).2.getD 0 zz).1) (fop .sub .f32 e 0)) 4562254508917369340) == false) && (((gtB 0 e) == false)))))))))))))))))))))))))))))))))))))))
theorem TZ.of {e : Nat} {q : Int} (h : tzB e q = true) : TZ e q := by
  unfold tzB at h
  simp only [Bool.and_eq_true, beq_iff_eq] at h
  obtain ⟨h0, h1, h2, h3, h4, h5, h6, h7, h8, h9, h10, h11, h12, h13, h14, h15, h16, h17, h18, h19, h20, h21, h22, h23, h24, h25, h26, h27, h28, h29, h30, h31, h32, h33, h34, h35, h36, h37, h38⟩ := h
  exact ⟨h0, h1, h2, h3, h4, h5, h6, h7, h8, h9, h10, h11, h12, h13, h14, h15, h16, h17, h18, h19, h20, h21, h22, h23, h24, h25, h26, h27, h28, h29, h30, h31, h32, h33, h34, h35, h36, h37, h38⟩
theorem aQN {R : Type} (K : X → St → Option R) (more1n : Nat) (rw0 : Bool) (l0 : List Int) (rw1 : Bool) (l1 : List Int) {e : Nat} {q : Int} (F : TZ e q) :
    sD 40 40 (rZ more1n 0 e (eX 1 e true [0]).1 (fG 1 e true [0]).1 0 rw0 l0 rw1 l1 (fG 1 e true [0]).2) K = K (.exit 0) (LJ more1n 0 e (eX 1 e true [0]).1 rw0 l0 rw1 l1) := by
  have hL := of_decide_eq_true F.f34
  have g := abZ hL
  have h2 := F.f36
  have h3 := F.f37
  rw [show (40 : Nat) = 39 + 1 from rfl, abC, show decide ((0 : Int) ≤ 0) = true from rfl, show decide (0 ≤ (0 : Int) ∧ (0 : Int) < 1) = true from rfl, show [0][0 + (0 : Int).toNat * 1]? = some 0 from rfl, show decide (0 ≤ (0 : Int) ∧ (0 : Int) < (((fG 1 e true [0]).1 : Nat) : Int)) = true from F.f33, show 0 + (0 : Int).toNat * 1 = 0 from rfl, g]
  dsimp only
  generalize (fG 1 e true [0]).2.getD 0 zz = z at *
  obtain ⟨z1, z2⟩ := z
  dsimp only at h2 h3 ⊢
  rw [F.f35, h2, h3, F.f38, show decide ((0 : Int) > 0) = false from rfl, show IntKind.i64.wrap (0 + 1) = 1 from by decide]
  dsimp only
  rw [show (39 : Nat) = 38 + 1 from rfl, abC, show decide ((1 : Int) ≤ 0) = false from rfl]
theorem aWG (n : Nat) (m : Nat) (r : Bool) (l : List Int) (q : Bool) (l' : List Int) (hn : l.length = n ∧ n < 2147483648) (hm : l'.length = m ∧ m < 2147483648) (h0 : dn l' = 0) (F : TZ (dE l') (dq l')) : uQ ty zY NG vM 40 Try.f3 [.sl 0 0 n, .sl 1 0 m] [.at r (.int .u8 l), .at q (.int .u8 l')] = some (.bool true, [.at r (.int .u8 l), .at q (.int .u8 l')]) := by
  refine Eq.trans (aI9 40 n m r l q l') ?_
  cases qG n m
  case true => rfl
  have a40 : atOk m l' 40 = true := decide_eq_true ⟨hm.1, hm.2, by decide, by decide⟩
  have a41 : atOk m l' 41 = true := decide_eq_true ⟨hm.1, hm.2, by decide, by decide⟩
  have a42 : atOk m l' 42 = true := decide_eq_true ⟨hm.1, hm.2, by decide, by decide⟩
  have cl : decide (l.length = n ∧ n < 2147483648) = true := decide_eq_true hn
  generalize hye : dE l' = ye at *
  generalize hyq : dq l' = yq at *
  rw [h0]
  have n00 : decide ((0 : Int) = 0) = true := rfl
  have n01 : ((0 : Int) == 0) = true := rfl
  first | rw [a40] | skip
  first | rw [cl] | skip
  first | rw [n00] | skip
  first | rw [a41] | skip
  first | rw [F.f0] | skip
  first | rw [F.f1] | skip
  first | rw [F.f2] | skip
  first | rw [F.f3] | skip
  first | rw [F.f4] | skip
  first | rw [F.f5] | skip
  first | rw [F.f6] | skip
  first | rw [F.f7] | skip
  first | rw [F.f8] | skip
  first | rw [F.f9] | skip
  first | rw [F.f10] | skip
  first | rw [F.f11] | skip
  first | rw [F.f12] | skip
  first | rw [F.f13] | skip
  first | rw [F.f14] | skip
  first | rw [F.f15] | skip
  first | rw [F.f16] | skip
  first | rw [n01] | skip
  first | rw [F.f17] | skip
  first | rw [F.f18] | skip
  first | rw [F.f19] | skip
  first | rw [F.f19] | skip
  first | rw [lU] | skip
  dsimp only
  first | rw [F.f20] | skip
  refine Eq.trans (aQN (NI 40 (oM Try.f3 2)) m r l q l' F) ?_
  rw [alA]
  try rw [hyq]
  first | rw [a42] | skip
  first | rw [F.f21] | skip
  first | rw [F.f22] | skip
  first | rw [F.f23] | skip
  first | rw [F.f24] | skip
  first | rw [of_decide_eq_true F.f25] | skip
  dsimp only
  first | rw [F.f26] | skip
  first | rw [F.f27] | skip
  first | rw [F.f28] | skip
  first | rw [of_decide_eq_true F.f29] | skip
  dsimp only
  first | rw [F.f30] | skip
  first | rw [F.f31] | skip
  first | rw [F.f32] | skip
  first | rw [n01] | skip
  try rfl
end Go.Proofs.Ytpjoapgfdjfbdaa.Ab

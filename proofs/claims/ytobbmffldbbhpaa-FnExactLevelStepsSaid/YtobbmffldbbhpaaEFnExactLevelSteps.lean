/- 'laws.FnExactLevelSteps' returns true whatever the input, and what it reads is left as it was. No condition. -/
import Derived.Test.YtobbmffldbbhpaaRows
import Derived.Test.YtobbmffldbbhpaaAbEnd
import Derived.Test.YtobbmffldbbhpaaOpen
import Derived.Test.YtobbmffldbbhpaaLsD
import Derived.WalkKit
import Derived.ProofKit
import Derived.OpenShut
import Derived.Laws.Cover2
import Derived.Carry
namespace Go.Proofs.Ytobbmffldbbhpaa.fnExactLevelSteps
open Go Go.ChangeShapes Go.WideShapes Go.ChangeAt Go.RowKit
set_option linter.unusedSimpArgs false
set_option linter.unusedVariables false

theorem own : ownKnob Try.prog.godebug = none := by kernel_rfl
theorem laidOut : laidOutB Try.prog = true := by kernel_rfl

set_option maxRecDepth 100000 in
theorem lifted (os : Os) (started : os.Started) (H : Type) (enc : TypeId × Value → H) :
    ReturnsInHanded {} Try.checked os 4 .any (Rows.fnExactLevelStepsSpec.pre6 enc Try.prog Try.f4 Rows.fnExactLevelStepsRow.domain false) (Rows.fnExactLevelStepsSpec.post enc Try.prog Try.f4 false true false false) := by
  refine returnsInHanded_of_change (C := Try.checked) own started (by kernel_rfl) Try.func4
    (ChangeSpec.witness6 (enc := enc) (C := Try.checked) false ⟨#[], #[.int .i64 0, .slice none 0 0, .slice none 0 0, .float .f32 0, .int .i64 0], []⟩ 8 (by kernel_rfl) (by kernel_rfl) (by kernel_rfl) (by kernel_rfl)) ?_
  intro W base args ds gs before hval0 hW hcnd _
  have hval : ∀ (j : Nat) t v, Try.f4.params[j]? = some t → args[j]? = some v → Value.okWide Try.prog W .any base t v := hval0
  have hW' := hW
  obtain ⟨p, q, hA0, hV, rfl, hfz, hnd⟩ := hW
  have hA : DataW.TrodAll enc Try.prog W 0 (fun _ => true) true Try.f4.params.toList args.toList ds p := hA0
  rw [Try.params4] at hA hval
  obtain ⟨v0, vs0, d0, ds0, p0, q0, hargs, rfl, rfl, h0, r0⟩ := trodAll_cons hA
  obtain ⟨v1, vs1, d1, ds1, p1, q1, rfl, rfl, rfl, h1, r1⟩ := trodAll_cons r0
  obtain ⟨v2, vs2, d2, ds2, p2, q2, rfl, rfl, rfl, h2, r2⟩ := trodAll_cons r1
  obtain ⟨v3, vs3, d3, ds3, p3, q3, rfl, rfl, rfl, h3, r3⟩ := trodAll_cons r2
  obtain ⟨v4, vs4, d4, ds4, p4, q4, rfl, rfl, rfl, h4, r4⟩ := trodAll_cons r3
  obtain ⟨rfl, rfl, rfl⟩ := trodAll_nil r4
  obtain rfl : args = #[v0, v1, v2, v3, v4] := by cases args; simp_all
  obtain ⟨rfl, rfl⟩ := trodVars_none hV
  obtain ⟨a0, rfl, rfl, rfl, w0⟩ := open_int Try.underlying2 (hval 0 2 v0 rfl rfl) h0
  have hk1 := h1
  have hlt1 : ∀ x ∈ p1, x.block < W.heap.size := fun x hx => hW'.lt x (by simp [hx])
  have hk2 := h2
  have hlt2 : ∀ x ∈ p2, x.block < W.heap.size := fun x hx => hW'.lt x (by simp [hx])
  obtain ⟨a3, rfl, rfl, rfl, w3⟩ := open_float Try.underlying26 (hval 3 26 v3 rfl rfl) h3
  obtain ⟨a4, rfl, rfl, rfl, w4⟩ := open_int Try.underlying2 (hval 4 2 v4 rfl rfl) h4
  clear hA0 hval0
  rcases Ab.open_fls Try.underlying25 Try.underlying26 (by kernel_rfl) (hval 1 25 v1 rfl rfl) h1 with rfl | ⟨m1, l1, ro1, rp1⟩
  · rcases Ab.open_fls Try.underlying25 Try.underlying26 (by kernel_rfl) (hval 2 25 v2 rfl rfl) h2 with rfl | ⟨m2, l2, ro2, rp2⟩
    · refine (Ab.law_calls Ab.ok_lawLevelSteps Try.func4 rfl rfl (vs := [.int .i64 a0, .nil, .nil, .fl .f32 (Ab.canon .f32 a3), .int .i64 a4]) (cvs := [.int .i64 a0, .slice none 0 0, .slice none 0 0, .float .f32 a3, .int .i64 a4]) (h := []) (μ := ⟨Ab.noZ, []⟩) (rfl) (Ab.Rel.ro (h := []) trivial) ⟨rfl, rfl, rfl, ⟨a3, rfl, rfl⟩, rfl, trivial⟩ (Ab.not_wr_ro (h := []) (w := W) trivial)).mono fun e W' ⟨he, hg⟩ => ?_
      subst he
      exact ⟨_, rfl, Ab.post_of_below (pv := []) hW' (fun _ _ _ => (trodAll_cons_mk (shut_bool Try.underlying4 _) trodAll_mk0)) (fun sp hsp => (trodAll_cons_mk (shut_int Try.underlying2 w0) (trodAll_cons_mk (Go.WideElems.Trod_stays laidOut (by kernel_rfl) (of_decide_eq_true (by kernel_rfl)) hk1 (fun x hx => hg.same (hlt1 x hx)) (fun x hx => hsp x (by simp [hx]))) (trodAll_cons_mk (Go.WideElems.Trod_stays laidOut (by kernel_rfl) (of_decide_eq_true (by kernel_rfl)) hk2 (fun x hx => hg.same (hlt2 x hx)) (fun x hx => hsp x (by simp [hx]))) (trodAll_cons_mk (shut_float Try.underlying26 w3) (trodAll_cons_mk (shut_int Try.underlying2 w4) trodAll_mk0)))))) (fun _ _ => rfl) (by simp)
        hg (ok_one (by kernel_rfl) rfl (okWide_bool_mk Try.underlying4 _))⟩
    · refine (Ab.law_calls Ab.ok_lawLevelSteps Try.func4 rfl rfl (vs := [.int .i64 a0, .nil, .sl 0 0 l2.length, .fl .f32 (Ab.canon .f32 a3), .int .i64 a4]) (cvs := [.int .i64 a0, .slice none 0 0, v2, .float .f32 a3, .int .i64 a4]) (h := [.at false (.fl .f32 l2)]) (μ := ⟨Ab.noZ, [m2]⟩) (if_pos rfl) (Ab.Rel.ro (h := [.at false (.fl .f32 l2)]) ⟨ro2, trivial⟩) ⟨rfl, rfl, rp2 _ 0 rfl, ⟨a3, rfl, rfl⟩, rfl, trivial⟩ (Ab.not_wr_ro (h := [.at false (.fl .f32 l2)]) (w := W) ⟨ro2, trivial⟩)).mono fun e W' ⟨he, hg⟩ => ?_
      subst he
      exact ⟨_, rfl, Ab.post_of_below (pv := []) hW' (fun _ _ _ => (trodAll_cons_mk (shut_bool Try.underlying4 _) trodAll_mk0)) (fun sp hsp => (trodAll_cons_mk (shut_int Try.underlying2 w0) (trodAll_cons_mk (Go.WideElems.Trod_stays laidOut (by kernel_rfl) (of_decide_eq_true (by kernel_rfl)) hk1 (fun x hx => hg.same (hlt1 x hx)) (fun x hx => hsp x (by simp [hx]))) (trodAll_cons_mk (Go.WideElems.Trod_stays laidOut (by kernel_rfl) (of_decide_eq_true (by kernel_rfl)) hk2 (fun x hx => hg.same (hlt2 x hx)) (fun x hx => hsp x (by simp [hx]))) (trodAll_cons_mk (shut_float Try.underlying26 w3) (trodAll_cons_mk (shut_int Try.underlying2 w4) trodAll_mk0)))))) (fun _ _ => rfl) (by simp)
        hg (ok_one (by kernel_rfl) rfl (okWide_bool_mk Try.underlying4 _))⟩
  · rcases Ab.open_fls Try.underlying25 Try.underlying26 (by kernel_rfl) (hval 2 25 v2 rfl rfl) h2 with rfl | ⟨m2, l2, ro2, rp2⟩
    · refine (Ab.law_calls Ab.ok_lawLevelSteps Try.func4 rfl rfl (vs := [.int .i64 a0, .sl 0 0 l1.length, .nil, .fl .f32 (Ab.canon .f32 a3), .int .i64 a4]) (cvs := [.int .i64 a0, v1, .slice none 0 0, .float .f32 a3, .int .i64 a4]) (h := [.at false (.fl .f32 l1)]) (μ := ⟨Ab.noZ, [m1]⟩) (if_pos rfl) (Ab.Rel.ro (h := [.at false (.fl .f32 l1)]) ⟨ro1, trivial⟩) ⟨rfl, rp1 _ 0 rfl, rfl, ⟨a3, rfl, rfl⟩, rfl, trivial⟩ (Ab.not_wr_ro (h := [.at false (.fl .f32 l1)]) (w := W) ⟨ro1, trivial⟩)).mono fun e W' ⟨he, hg⟩ => ?_
      subst he
      exact ⟨_, rfl, Ab.post_of_below (pv := []) hW' (fun _ _ _ => (trodAll_cons_mk (shut_bool Try.underlying4 _) trodAll_mk0)) (fun sp hsp => (trodAll_cons_mk (shut_int Try.underlying2 w0) (trodAll_cons_mk (Go.WideElems.Trod_stays laidOut (by kernel_rfl) (of_decide_eq_true (by kernel_rfl)) hk1 (fun x hx => hg.same (hlt1 x hx)) (fun x hx => hsp x (by simp [hx]))) (trodAll_cons_mk (Go.WideElems.Trod_stays laidOut (by kernel_rfl) (of_decide_eq_true (by kernel_rfl)) hk2 (fun x hx => hg.same (hlt2 x hx)) (fun x hx => hsp x (by simp [hx]))) (trodAll_cons_mk (shut_float Try.underlying26 w3) (trodAll_cons_mk (shut_int Try.underlying2 w4) trodAll_mk0)))))) (fun _ _ => rfl) (by simp)
        hg (ok_one (by kernel_rfl) rfl (okWide_bool_mk Try.underlying4 _))⟩
    · refine (Ab.law_calls Ab.ok_lawLevelSteps Try.func4 rfl rfl (vs := [.int .i64 a0, .sl 0 0 l1.length, .sl 1 0 l2.length, .fl .f32 (Ab.canon .f32 a3), .int .i64 a4]) (cvs := [.int .i64 a0, v1, v2, .float .f32 a3, .int .i64 a4]) (h := [.at false (.fl .f32 l1), .at false (.fl .f32 l2)]) (μ := ⟨Ab.noZ, [m1, m2]⟩) (if_pos ⟨rfl, rfl⟩) (Ab.Rel.ro (h := [.at false (.fl .f32 l1), .at false (.fl .f32 l2)]) ⟨ro1, ro2, trivial⟩) ⟨rfl, rp1 _ 0 rfl, rp2 _ 1 rfl, ⟨a3, rfl, rfl⟩, rfl, trivial⟩ (Ab.not_wr_ro (h := [.at false (.fl .f32 l1), .at false (.fl .f32 l2)]) (w := W) ⟨ro1, ro2, trivial⟩)).mono fun e W' ⟨he, hg⟩ => ?_
      subst he
      exact ⟨_, rfl, Ab.post_of_below (pv := []) hW' (fun _ _ _ => (trodAll_cons_mk (shut_bool Try.underlying4 _) trodAll_mk0)) (fun sp hsp => (trodAll_cons_mk (shut_int Try.underlying2 w0) (trodAll_cons_mk (Go.WideElems.Trod_stays laidOut (by kernel_rfl) (of_decide_eq_true (by kernel_rfl)) hk1 (fun x hx => hg.same (hlt1 x hx)) (fun x hx => hsp x (by simp [hx]))) (trodAll_cons_mk (Go.WideElems.Trod_stays laidOut (by kernel_rfl) (of_decide_eq_true (by kernel_rfl)) hk2 (fun x hx => hg.same (hlt2 x hx)) (fun x hx => hsp x (by simp [hx]))) (trodAll_cons_mk (shut_float Try.underlying26 w3) (trodAll_cons_mk (shut_int Try.underlying2 w4) trodAll_mk0)))))) (fun _ _ => rfl) (by simp)
        hg (ok_one (by kernel_rfl) rfl (okWide_bool_mk Try.underlying4 _))⟩

theorem over : Rows.fnExactLevelStepsRow.holds Try.pinned (OpenSpec.ofChange Rows.fnExactLevelStepsSpec) :=
  OpenClaim.holds_of_wide 4 Try.f4 rfl rfl rfl rfl rfl rfl rfl ⟨rfl, rfl, rfl, rfl, rfl⟩ rfl rfl rfl rfl rfl (by kernel_rfl) Try.func4 (by kernel_rfl)
    (of_decide_eq_true (by kernel_rfl)) (by unfold Func.isWrapper; first | (rw [if_pos (by decide +kernel)]; kernel_rfl) | (rw [if_neg (by decide +kernel)]; exact ⟨rfl, rfl⟩))
    (fun os started H enc _ => lifted os started H enc)

theorem proved : Rows.FnExactLevelStepsSaid :=
  over
#print axioms proved
end Go.Proofs.Ytobbmffldbbhpaa.fnExactLevelSteps

/- 'laws.FnExactRepeatSteps' returns true whatever the input, and what it reads is left as it was. No condition. -/
import Derived.Test.YthjncajdognojaaRows
import Derived.Test.YthjncajdognojaaZ15
import Derived.WalkKit
import Derived.ProofKit
import Derived.OpenShut
import Derived.Laws.Cover2
import Derived.Carry
namespace Go.Proofs.Ythjncajdognojaa.fnExactRepeatSteps
open Go Go.ChangeShapes Go.WideShapes Go.ChangeAt Go.RowKit
set_option linter.unusedSimpArgs false
set_option linter.unusedVariables false

theorem own : ownKnob Try.prog.godebug = none := by kernel_rfl
theorem laidOut : laidOutB Try.prog = true := by kernel_rfl

set_option maxRecDepth 100000 in
theorem lifted (os : Os) (started : os.Started) (H : Type) (enc : TypeId × Value → H) :
    ReturnsInHanded {} Try.checked os 3 .any (Rows.fnExactRepeatStepsSpec.pre6 enc Try.prog Try.f3 Rows.fnExactRepeatStepsRow.domain false) (Rows.fnExactRepeatStepsSpec.post enc Try.prog Try.f3 false true false false) := by
  refine returnsInHanded_of_change (C := Try.checked) own started (by kernel_rfl) Try.func3
    (ChangeSpec.witness6 (enc := enc) (C := Try.checked) false ⟨#[], #[.agg #[.slice none 0 0, .slice none 0 0], .int .i64 0], []⟩ 8 (by kernel_rfl) (by kernel_rfl) (by kernel_rfl) (by kernel_rfl)) ?_
  intro W base args ds gs before hval0 hW hcnd _
  have hval : ∀ (j : Nat) t v, Try.f3.params[j]? = some t → args[j]? = some v → Value.okWide Try.prog W .any base t v := hval0
  have hW' := hW
  obtain ⟨p, q, hA0, hV, rfl, hfz, hnd⟩ := hW
  have hA : DataW.TrodAll enc Try.prog W 0 (fun _ => true) true Try.f3.params.toList args.toList ds p := hA0
  rw [Try.params3] at hA hval
  obtain ⟨v0, vs0, d0, ds0, p0, q0, hargs, rfl, rfl, h0, r0⟩ := trodAll_cons hA
  obtain ⟨v1, vs1, d1, ds1, p1, q1, rfl, rfl, rfl, h1, r1⟩ := trodAll_cons r0
  obtain ⟨rfl, rfl, rfl⟩ := trodAll_nil r1
  obtain rfl : args = #[v0, v1] := by cases args; simp_all
  obtain ⟨rfl, rfl⟩ := trodVars_none hV
  have hk0 := h0
  have hlt0 : ∀ x ∈ p0, x.block < W.heap.size := fun x hx => hW'.lt x (by simp [hx])
  obtain ⟨v00, v01, y00, y01, rfl, hv00, hv01, h00, h01⟩ := Ab.open_st2 Try.underlying24 (by kernel_rfl) (by kernel_rfl) (by kernel_rfl) Try.underlying22 Try.underlying22 rfl rfl (hval 0 24 v0 rfl rfl) h0
  obtain ⟨a1, rfl, rfl, rfl, w1⟩ := open_int Try.underlying2 (hval 1 2 v1 rfl rfl) h1
  clear hA0 hval0
  rcases Ab.open_fls Try.underlying22 Try.underlying40 (by kernel_rfl) (hv00) h00 with rfl | ⟨m00, l00, ro00, rp00⟩
  · rcases Ab.open_fls32 Try.underlying22 Try.underlying40 (by kernel_rfl) (hv01) h01 with rfl | ⟨m01, l01, ro01, wf01, rp01⟩
    · refine (Ab.law_calls Ab.ok_lawRp Try.func3 rfl rfl (vs := [.g [.nil, .nil], .int .i64 a1]) (cvs := [.agg #[.slice none 0 0, .slice none 0 0], .int .i64 a1]) (h := []) (μ := ⟨Ab.noZ, []⟩) (rfl) (Ab.Rel.ro (h := []) trivial) ⟨⟨_, rfl, rfl, rfl, trivial⟩, rfl, trivial⟩ (Ab.not_wr_ro (h := []) (w := W) trivial)).mono fun e W' ⟨he, hg⟩ => ?_
      subst he
      exact ⟨_, rfl, Ab.post_of_below (pv := []) hW' (fun _ _ _ => (trodAll_cons_mk (shut_bool Try.underlying4 _) trodAll_mk0)) (fun sp hsp => (trodAll_cons_mk (Go.WideElems.Trod_stays laidOut (by kernel_rfl) (of_decide_eq_true (by kernel_rfl)) hk0 (fun x hx => hg.same (hlt0 x hx)) (fun x hx => hsp x (by simp [hx]))) (trodAll_cons_mk (shut_int Try.underlying2 w1) trodAll_mk0))) (fun _ _ => rfl) (by simp)
        hg (ok_one (by kernel_rfl) rfl (okWide_bool_mk Try.underlying4 _))⟩
    · refine (Ab.law_calls Ab.ok_lawRp Try.func3 rfl rfl (vs := [.g [.nil, .sl 0 0 l01.length], .int .i64 a1]) (cvs := [.agg #[.slice none 0 0, v01], .int .i64 a1]) (h := [.at false (.fl .f32 l01)]) (μ := ⟨Ab.noZ, [m01]⟩) (if_pos ⟨rfl, Ab.len_le rp01, Ab.w32_of wf01⟩) (Ab.Rel.ro (h := [.at false (.fl .f32 l01)]) ⟨ro01, trivial⟩) ⟨⟨_, rfl, rfl, rp01 _ 0 rfl, trivial⟩, rfl, trivial⟩ (Ab.not_wr_ro (h := [.at false (.fl .f32 l01)]) (w := W) ⟨ro01, trivial⟩)).mono fun e W' ⟨he, hg⟩ => ?_
      subst he
      exact ⟨_, rfl, Ab.post_of_below (pv := []) hW' (fun _ _ _ => (trodAll_cons_mk (shut_bool Try.underlying4 _) trodAll_mk0)) (fun sp hsp => (trodAll_cons_mk (Go.WideElems.Trod_stays laidOut (by kernel_rfl) (of_decide_eq_true (by kernel_rfl)) hk0 (fun x hx => hg.same (hlt0 x hx)) (fun x hx => hsp x (by simp [hx]))) (trodAll_cons_mk (shut_int Try.underlying2 w1) trodAll_mk0))) (fun _ _ => rfl) (by simp)
        hg (ok_one (by kernel_rfl) rfl (okWide_bool_mk Try.underlying4 _))⟩
  · rcases Ab.open_fls32 Try.underlying22 Try.underlying40 (by kernel_rfl) (hv01) h01 with rfl | ⟨m01, l01, ro01, wf01, rp01⟩
    · refine (Ab.law_calls Ab.ok_lawRp Try.func3 rfl rfl (vs := [.g [.sl 0 0 l00.length, .nil], .int .i64 a1]) (cvs := [.agg #[v00, .slice none 0 0], .int .i64 a1]) (h := [.at false (.fl .f32 l00)]) (μ := ⟨Ab.noZ, [m00]⟩) (if_pos ⟨rfl, Ab.len_le rp00⟩) (Ab.Rel.ro (h := [.at false (.fl .f32 l00)]) ⟨ro00, trivial⟩) ⟨⟨_, rfl, rp00 _ 0 rfl, rfl, trivial⟩, rfl, trivial⟩ (Ab.not_wr_ro (h := [.at false (.fl .f32 l00)]) (w := W) ⟨ro00, trivial⟩)).mono fun e W' ⟨he, hg⟩ => ?_
      subst he
      exact ⟨_, rfl, Ab.post_of_below (pv := []) hW' (fun _ _ _ => (trodAll_cons_mk (shut_bool Try.underlying4 _) trodAll_mk0)) (fun sp hsp => (trodAll_cons_mk (Go.WideElems.Trod_stays laidOut (by kernel_rfl) (of_decide_eq_true (by kernel_rfl)) hk0 (fun x hx => hg.same (hlt0 x hx)) (fun x hx => hsp x (by simp [hx]))) (trodAll_cons_mk (shut_int Try.underlying2 w1) trodAll_mk0))) (fun _ _ => rfl) (by simp)
        hg (ok_one (by kernel_rfl) rfl (okWide_bool_mk Try.underlying4 _))⟩
    · refine (Ab.law_calls Ab.ok_lawRp Try.func3 rfl rfl (vs := [.g [.sl 0 0 l00.length, .sl 1 0 l01.length], .int .i64 a1]) (cvs := [.agg #[v00, v01], .int .i64 a1]) (h := [.at false (.fl .f32 l00), .at false (.fl .f32 l01)]) (μ := ⟨Ab.noZ, [m00, m01]⟩) (if_pos ⟨rfl, rfl, Ab.len_le rp00, Ab.len_le rp01, Ab.w32_of wf01⟩) (Ab.Rel.ro (h := [.at false (.fl .f32 l00), .at false (.fl .f32 l01)]) ⟨ro00, ro01, trivial⟩) ⟨⟨_, rfl, rp00 _ 0 rfl, rp01 _ 1 rfl, trivial⟩, rfl, trivial⟩ (Ab.not_wr_ro (h := [.at false (.fl .f32 l00), .at false (.fl .f32 l01)]) (w := W) ⟨ro00, ro01, trivial⟩)).mono fun e W' ⟨he, hg⟩ => ?_
      subst he
      exact ⟨_, rfl, Ab.post_of_below (pv := []) hW' (fun _ _ _ => (trodAll_cons_mk (shut_bool Try.underlying4 _) trodAll_mk0)) (fun sp hsp => (trodAll_cons_mk (Go.WideElems.Trod_stays laidOut (by kernel_rfl) (of_decide_eq_true (by kernel_rfl)) hk0 (fun x hx => hg.same (hlt0 x hx)) (fun x hx => hsp x (by simp [hx]))) (trodAll_cons_mk (shut_int Try.underlying2 w1) trodAll_mk0))) (fun _ _ => rfl) (by simp)
        hg (ok_one (by kernel_rfl) rfl (okWide_bool_mk Try.underlying4 _))⟩

theorem over : Rows.fnExactRepeatStepsRow.holds Try.pinned (OpenSpec.ofChange Rows.fnExactRepeatStepsSpec) :=
  OpenClaim.holds_of_wide 3 Try.f3 rfl rfl rfl rfl rfl rfl rfl ⟨rfl, rfl, rfl, rfl, rfl⟩ rfl rfl rfl rfl rfl (by kernel_rfl) Try.func3 (by kernel_rfl)
    (of_decide_eq_true (by kernel_rfl)) (by unfold Func.isWrapper; first | (rw [if_pos (by decide +kernel)]; kernel_rfl) | (rw [if_neg (by decide +kernel)]; exact ⟨rfl, rfl⟩))
    (fun os started H enc _ => lifted os started H enc)

theorem proved : Rows.FnExactRepeatStepsSaid :=
  over
#print axioms proved
end Go.Proofs.Ythjncajdognojaa.fnExactRepeatSteps

/- 'laws.FnWeightsSharedOfAll' returns true whatever the input, and what it reads is left as it was. No condition. -/
import Derived.Test.YtobbmffldbbhpaaRows
import Derived.Test.YtobbmffldbbhpaaAbEnd
import Derived.Test.YtobbmffldbbhpaaOpen
import Derived.Test.YtobbmffldbbhpaaWAll
import Derived.WalkKit
import Derived.ProofKit
import Derived.OpenShut
import Derived.Laws.Cover2
import Derived.Carry
namespace Go.Proofs.Ytobbmffldbbhpaa.fnWeightsSharedOfAll
open Go Go.ChangeShapes Go.WideShapes Go.ChangeAt Go.RowKit
set_option linter.unusedSimpArgs false
set_option linter.unusedVariables false

theorem own : ownKnob Try.prog.godebug = none := by kernel_rfl
theorem laidOut : laidOutB Try.prog = true := by kernel_rfl

set_option maxRecDepth 100000 in
theorem lifted (os : Os) (started : os.Started) (H : Type) (enc : TypeId × Value → H) :
    ReturnsInHanded {} Try.checked os 6 .any (Rows.fnWeightsSharedOfAllSpec.pre6 enc Try.prog Try.f6 Rows.fnWeightsSharedOfAllRow.domain false) (Rows.fnWeightsSharedOfAllSpec.post enc Try.prog Try.f6 false true false false) := by
  refine returnsInHanded_of_change (C := Try.checked) own started (by kernel_rfl) Try.func6
    (ChangeSpec.witness6 (enc := enc) (C := Try.checked) false ⟨#[], #[.slice none 0 0, .float .f32 0, .int .i64 0, .int .i64 0, .int .i64 0], []⟩ 8 (by kernel_rfl) (by kernel_rfl) (by kernel_rfl) (by kernel_rfl)) ?_
  intro W base args ds gs before hval0 hW hcnd _
  have hval : ∀ (j : Nat) t v, Try.f6.params[j]? = some t → args[j]? = some v → Value.okWide Try.prog W .any base t v := hval0
  have hW' := hW
  obtain ⟨p, q, hA0, hV, rfl, hfz, hnd⟩ := hW
  have hA : DataW.TrodAll enc Try.prog W 0 (fun _ => true) true Try.f6.params.toList args.toList ds p := hA0
  rw [Try.params6] at hA hval
  obtain ⟨v0, vs0, d0, ds0, p0, q0, hargs, rfl, rfl, h0, r0⟩ := trodAll_cons hA
  obtain ⟨v1, vs1, d1, ds1, p1, q1, rfl, rfl, rfl, h1, r1⟩ := trodAll_cons r0
  obtain ⟨v2, vs2, d2, ds2, p2, q2, rfl, rfl, rfl, h2, r2⟩ := trodAll_cons r1
  obtain ⟨v3, vs3, d3, ds3, p3, q3, rfl, rfl, rfl, h3, r3⟩ := trodAll_cons r2
  obtain ⟨v4, vs4, d4, ds4, p4, q4, rfl, rfl, rfl, h4, r4⟩ := trodAll_cons r3
  obtain ⟨rfl, rfl, rfl⟩ := trodAll_nil r4
  obtain rfl : args = #[v0, v1, v2, v3, v4] := by cases args; simp_all
  obtain ⟨rfl, rfl⟩ := trodVars_none hV
  have hk0 := h0
  have hlt0 : ∀ x ∈ p0, x.block < W.heap.size := fun x hx => hW'.lt x (by simp [hx])
  obtain ⟨a1, rfl, rfl, rfl, w1⟩ := open_float Try.underlying26 (hval 1 26 v1 rfl rfl) h1
  obtain ⟨a2, rfl, rfl, rfl, w2⟩ := open_int Try.underlying2 (hval 2 2 v2 rfl rfl) h2
  obtain ⟨a3, rfl, rfl, rfl, w3⟩ := open_int Try.underlying2 (hval 3 2 v3 rfl rfl) h3
  obtain ⟨a4, rfl, rfl, rfl, w4⟩ := open_int Try.underlying2 (hval 4 2 v4 rfl rfl) h4
  clear hA0 hval0
  rcases Ab.open_fls Try.underlying25 Try.underlying26 (by kernel_rfl) (hval 0 25 v0 rfl rfl) h0 with rfl | ⟨m0, l0, ro0, rp0⟩
  · refine (Ab.law_calls Ab.ok_lawSharedOfAll Try.func6 rfl rfl (vs := [.nil, .fl .f32 (Ab.canon .f32 a1), .int .i64 a2, .int .i64 a3, .int .i64 a4]) (cvs := [.slice none 0 0, .float .f32 a1, .int .i64 a2, .int .i64 a3, .int .i64 a4]) (h := []) (μ := []) (rfl) (Ab.Rel.ro (h := []) trivial) ⟨rfl, ⟨a1, rfl, rfl⟩, rfl, rfl, rfl, trivial⟩ (Ab.not_wr_ro (h := []) (w := W) trivial)).mono fun e W' ⟨he, hg⟩ => ?_
    subst he
    exact ⟨_, rfl, Ab.post_of_below (pv := []) hW' (fun _ _ _ => (trodAll_cons_mk (shut_bool Try.underlying4 _) trodAll_mk0)) (fun sp hsp => (trodAll_cons_mk (Go.WideElems.Trod_stays laidOut (by kernel_rfl) (of_decide_eq_true (by kernel_rfl)) hk0 (fun x hx => hg.same (hlt0 x hx)) (fun x hx => hsp x (by simp [hx]))) (trodAll_cons_mk (shut_float Try.underlying26 w1) (trodAll_cons_mk (shut_int Try.underlying2 w2) (trodAll_cons_mk (shut_int Try.underlying2 w3) (trodAll_cons_mk (shut_int Try.underlying2 w4) trodAll_mk0)))))) (fun _ _ => rfl) (by simp)
      hg (ok_one (by kernel_rfl) rfl (okWide_bool_mk Try.underlying4 _))⟩
  · refine (Ab.law_calls Ab.ok_lawSharedOfAll Try.func6 rfl rfl (vs := [.sl 0 0 l0.length, .fl .f32 (Ab.canon .f32 a1), .int .i64 a2, .int .i64 a3, .int .i64 a4]) (cvs := [v0, .float .f32 a1, .int .i64 a2, .int .i64 a3, .int .i64 a4]) (h := [.at false (.fl .f32 l0)]) (μ := [m0]) (if_pos rfl) (Ab.Rel.ro (h := [.at false (.fl .f32 l0)]) ⟨ro0, trivial⟩) ⟨rp0 _ 0 rfl, ⟨a1, rfl, rfl⟩, rfl, rfl, rfl, trivial⟩ (Ab.not_wr_ro (h := [.at false (.fl .f32 l0)]) (w := W) ⟨ro0, trivial⟩)).mono fun e W' ⟨he, hg⟩ => ?_
    subst he
    exact ⟨_, rfl, Ab.post_of_below (pv := []) hW' (fun _ _ _ => (trodAll_cons_mk (shut_bool Try.underlying4 _) trodAll_mk0)) (fun sp hsp => (trodAll_cons_mk (Go.WideElems.Trod_stays laidOut (by kernel_rfl) (of_decide_eq_true (by kernel_rfl)) hk0 (fun x hx => hg.same (hlt0 x hx)) (fun x hx => hsp x (by simp [hx]))) (trodAll_cons_mk (shut_float Try.underlying26 w1) (trodAll_cons_mk (shut_int Try.underlying2 w2) (trodAll_cons_mk (shut_int Try.underlying2 w3) (trodAll_cons_mk (shut_int Try.underlying2 w4) trodAll_mk0)))))) (fun _ _ => rfl) (by simp)
      hg (ok_one (by kernel_rfl) rfl (okWide_bool_mk Try.underlying4 _))⟩

theorem over : Rows.fnWeightsSharedOfAllRow.holds Try.pinned (OpenSpec.ofChange Rows.fnWeightsSharedOfAllSpec) :=
  OpenClaim.holds_of_wide 6 Try.f6 rfl rfl rfl rfl rfl rfl rfl ⟨rfl, rfl, rfl, rfl, rfl⟩ rfl rfl rfl rfl rfl (by kernel_rfl) Try.func6 (by kernel_rfl)
    (of_decide_eq_true (by kernel_rfl)) (by unfold Func.isWrapper; first | (rw [if_pos (by decide +kernel)]; kernel_rfl) | (rw [if_neg (by decide +kernel)]; exact ⟨rfl, rfl⟩))
    (fun os started H enc _ => lifted os started H enc)

theorem proved : Rows.FnWeightsSharedOfAllSaid :=
  over
#print axioms proved
end Go.Proofs.Ytobbmffldbbhpaa.fnWeightsSharedOfAll

/- 'laws.FnThrough' returns true whatever the input, and what it reads is left as it was. No condition. -/
import Derived.Test.YtpjoapgfdjfbdaaRows
import Derived.Test.YtpjoapgfdjfbdaaZ31
import Derived.WalkKit
import Derived.ProofKit
import Derived.OpenShut
import Derived.Laws.Cover2
import Derived.Carry
namespace Go.Proofs.Ytpjoapgfdjfbdaa.fnThrough
open Go Go.ChangeShapes Go.WideShapes Go.ChangeAt Go.RowKit
set_option linter.unusedSimpArgs false
set_option linter.unusedVariables false

theorem own : ownKnob Try.prog.godebug = none := by kernel_rfl
theorem laidOut : laidOutB Try.prog = true := by kernel_rfl

set_option maxRecDepth 100000 in
theorem lifted (os : Os) (started : os.Started) (H : Type) (enc : TypeId × Value → H) :
    ReturnsInHanded {} Try.checked os 3 .any (Rows.fnThroughSpec.pre6 enc Try.prog Try.f3 Rows.fnThroughRow.domain false) (Rows.fnThroughSpec.post enc Try.prog Try.f3 false true false false) := by
  refine returnsInHanded_of_change (C := Try.checked) own started (by kernel_rfl) Try.func3
    (ChangeSpec.witness6 (enc := enc) (C := Try.checked) false ⟨#[], #[.slice none 0 0, .slice none 0 0], []⟩ 8 (by kernel_rfl) (by kernel_rfl) (by kernel_rfl) (by kernel_rfl)) ?_
  intro W base args ds gs before hval0 hW hcnd _
  have hval : ∀ (j : Nat) t v, Try.f3.params[j]? = some t → args[j]? = some v → Value.okWide Try.prog W .any base t v := hval0
  have hW' := hW
  obtain ⟨p, q, hA0, hV, rfl, hfz, hnd⟩ := hW
  have hA : DataW.TrodAll enc Try.prog W 0 (fun _ => true) true Try.f3.params.toList args.toList ds p := hA0
  rw [Try.params3] at hA hval
  obtain ⟨v0, vs0, d0, ds0, p0, q0, hargs, rfl, rfl, h0, r0⟩ := trodAll_cons hA
  obtain ⟨v1, vs1, d1, ds1, p1, q1, rfl, rfl, rfl, h1, r1⟩ := trodAll_cons r0
  obtain ⟨rfl, rfl, rfl⟩ := trodAll_nil r1
  obtain rfl : args = #[v0, v1] := by cases args; simp_all
  obtain ⟨rfl, rfl⟩ := trodVars_none hV
  have hk0 := h0
  have hlt0 : ∀ x ∈ p0, x.block < W.heap.size := fun x hx => hW'.lt x (by simp [hx])
  have hk1 := h1
  have hlt1 : ∀ x ∈ p1, x.block < W.heap.size := fun x hx => hW'.lt x (by simp [hx])
  clear hA0 hval0
  rcases Ab.open_ints' Try.underlying22 Try.underlying5 (by kernel_rfl) (hval 0 22 v0 rfl rfl) h0 with rfl | ⟨m0, l0, ro0, wf0, rp0⟩
  · rcases Ab.open_ints' Try.underlying22 Try.underlying5 (by kernel_rfl) (hval 1 22 v1 rfl rfl) h1 with rfl | ⟨m1, l1, ro1, wf1, rp1⟩
    · refine (Ab.law_calls Ab.ok_lawThrough Try.func3 rfl rfl (vs := [.nil, .nil]) (cvs := [.slice none 0 0, .slice none 0 0]) (h := []) (μ := ⟨Ab.noZ, []⟩) (rfl) (Ab.Rel.ro (h := []) trivial) ⟨rfl, rfl, trivial⟩ (Ab.not_wr_ro (h := []) (w := W) trivial)).mono fun e W' ⟨he, hg⟩ => ?_
      subst he
      exact ⟨_, rfl, Ab.post_of_below (pv := []) hW' (fun _ _ _ => (trodAll_cons_mk (shut_bool Try.underlying4 _) trodAll_mk0)) (fun sp hsp => (trodAll_cons_mk (Go.WideElems.Trod_stays laidOut (by kernel_rfl) (of_decide_eq_true (by kernel_rfl)) hk0 (fun x hx => hg.same (hlt0 x hx)) (fun x hx => hsp x (by simp [hx]))) (trodAll_cons_mk (Go.WideElems.Trod_stays laidOut (by kernel_rfl) (of_decide_eq_true (by kernel_rfl)) hk1 (fun x hx => hg.same (hlt1 x hx)) (fun x hx => hsp x (by simp [hx]))) trodAll_mk0))) (fun _ _ => rfl) (by simp)
        hg (ok_one (by kernel_rfl) rfl (okWide_bool_mk Try.underlying4 _))⟩
    · refine (Ab.law_calls Ab.ok_lawThrough Try.func3 rfl rfl (vs := [.nil, .sl 0 0 l1.length]) (cvs := [.slice none 0 0, v1]) (h := [.at false (.int .u8 l1)]) (μ := ⟨Ab.noZ, [m1]⟩) (if_pos ⟨rfl, Ab.bytes_wf wf1⟩) (Ab.Rel.ro (h := [.at false (.int .u8 l1)]) ⟨ro1, trivial⟩) ⟨rfl, rp1 _ 0 rfl, trivial⟩ (Ab.not_wr_ro (h := [.at false (.int .u8 l1)]) (w := W) ⟨ro1, trivial⟩)).mono fun e W' ⟨he, hg⟩ => ?_
      subst he
      exact ⟨_, rfl, Ab.post_of_below (pv := []) hW' (fun _ _ _ => (trodAll_cons_mk (shut_bool Try.underlying4 _) trodAll_mk0)) (fun sp hsp => (trodAll_cons_mk (Go.WideElems.Trod_stays laidOut (by kernel_rfl) (of_decide_eq_true (by kernel_rfl)) hk0 (fun x hx => hg.same (hlt0 x hx)) (fun x hx => hsp x (by simp [hx]))) (trodAll_cons_mk (Go.WideElems.Trod_stays laidOut (by kernel_rfl) (of_decide_eq_true (by kernel_rfl)) hk1 (fun x hx => hg.same (hlt1 x hx)) (fun x hx => hsp x (by simp [hx]))) trodAll_mk0))) (fun _ _ => rfl) (by simp)
        hg (ok_one (by kernel_rfl) rfl (okWide_bool_mk Try.underlying4 _))⟩
  · rcases Ab.open_ints' Try.underlying22 Try.underlying5 (by kernel_rfl) (hval 1 22 v1 rfl rfl) h1 with rfl | ⟨m1, l1, ro1, wf1, rp1⟩
    · refine (Ab.law_calls Ab.ok_lawThrough Try.func3 rfl rfl (vs := [.sl 0 0 l0.length, .nil]) (cvs := [v0, .slice none 0 0]) (h := [.at false (.int .u8 l0)]) (μ := ⟨Ab.noZ, [m0]⟩) (if_pos ⟨rfl, Ab.bytes_wf wf0⟩) (Ab.Rel.ro (h := [.at false (.int .u8 l0)]) ⟨ro0, trivial⟩) ⟨rp0 _ 0 rfl, rfl, trivial⟩ (Ab.not_wr_ro (h := [.at false (.int .u8 l0)]) (w := W) ⟨ro0, trivial⟩)).mono fun e W' ⟨he, hg⟩ => ?_
      subst he
      exact ⟨_, rfl, Ab.post_of_below (pv := []) hW' (fun _ _ _ => (trodAll_cons_mk (shut_bool Try.underlying4 _) trodAll_mk0)) (fun sp hsp => (trodAll_cons_mk (Go.WideElems.Trod_stays laidOut (by kernel_rfl) (of_decide_eq_true (by kernel_rfl)) hk0 (fun x hx => hg.same (hlt0 x hx)) (fun x hx => hsp x (by simp [hx]))) (trodAll_cons_mk (Go.WideElems.Trod_stays laidOut (by kernel_rfl) (of_decide_eq_true (by kernel_rfl)) hk1 (fun x hx => hg.same (hlt1 x hx)) (fun x hx => hsp x (by simp [hx]))) trodAll_mk0))) (fun _ _ => rfl) (by simp)
        hg (ok_one (by kernel_rfl) rfl (okWide_bool_mk Try.underlying4 _))⟩
    · refine (Ab.law_calls Ab.ok_lawThrough Try.func3 rfl rfl (vs := [.sl 0 0 l0.length, .sl 1 0 l1.length]) (cvs := [v0, v1]) (h := [.at false (.int .u8 l0), .at false (.int .u8 l1)]) (μ := ⟨Ab.noZ, [m0, m1]⟩) (if_pos ⟨rfl, rfl, Ab.bytes_wf wf0, Ab.bytes_wf wf1⟩) (Ab.Rel.ro (h := [.at false (.int .u8 l0), .at false (.int .u8 l1)]) ⟨ro0, ro1, trivial⟩) ⟨rp0 _ 0 rfl, rp1 _ 1 rfl, trivial⟩ (Ab.not_wr_ro (h := [.at false (.int .u8 l0), .at false (.int .u8 l1)]) (w := W) ⟨ro0, ro1, trivial⟩)).mono fun e W' ⟨he, hg⟩ => ?_
      subst he
      exact ⟨_, rfl, Ab.post_of_below (pv := []) hW' (fun _ _ _ => (trodAll_cons_mk (shut_bool Try.underlying4 _) trodAll_mk0)) (fun sp hsp => (trodAll_cons_mk (Go.WideElems.Trod_stays laidOut (by kernel_rfl) (of_decide_eq_true (by kernel_rfl)) hk0 (fun x hx => hg.same (hlt0 x hx)) (fun x hx => hsp x (by simp [hx]))) (trodAll_cons_mk (Go.WideElems.Trod_stays laidOut (by kernel_rfl) (of_decide_eq_true (by kernel_rfl)) hk1 (fun x hx => hg.same (hlt1 x hx)) (fun x hx => hsp x (by simp [hx]))) trodAll_mk0))) (fun _ _ => rfl) (by simp)
        hg (ok_one (by kernel_rfl) rfl (okWide_bool_mk Try.underlying4 _))⟩

theorem over : Rows.fnThroughRow.holds Try.pinned (OpenSpec.ofChange Rows.fnThroughSpec) :=
  OpenClaim.holds_of_wide 3 Try.f3 rfl rfl rfl rfl rfl rfl rfl ⟨rfl, rfl, rfl, rfl, rfl⟩ rfl rfl rfl rfl rfl (by kernel_rfl) Try.func3 (by kernel_rfl)
    (of_decide_eq_true (by kernel_rfl)) (by unfold Func.isWrapper; first | (rw [if_pos (by decide +kernel)]; kernel_rfl) | (rw [if_neg (by decide +kernel)]; exact ⟨rfl, rfl⟩))
    (fun os started H enc _ => lifted os started H enc)

theorem proved : Rows.FnThroughSaid :=
  over
#print axioms proved
end Go.Proofs.Ytpjoapgfdjfbdaa.fnThrough

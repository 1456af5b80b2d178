/- 'laws.FnExactSamePulse' returns true whatever the input, and what it reads is left as it was. No condition. -/
import Derived.Test.YtjjdfeemkkeokaaRows
import Derived.Test.YtjjdfeemkkeokaaAbEnd
import Derived.Test.YtjjdfeemkkeokaaSameP
import Derived.WalkKit
import Derived.ProofKit
import Derived.OpenShut
import Derived.Laws.Cover2
import Derived.Lib.SmallJoins
namespace Go.Proofs.Ytjjdfeemkkeokaa.fnExactSamePulse
open Go Go.ChangeShapes Go.WideShapes Go.ChangeAt Go.RowKit
set_option linter.unusedSimpArgs false
set_option linter.unusedVariables false

section
variable {H : Type} {enc : TypeId × Value → H} {P : Program} {w : World} {base : Nat} {spare : Nat → Bool} {held : Bool} {fuel : Nat} {t : TypeId} {cs : List Value} {x : DataW H × List MemPlace}
theorem trod_fl {k : FloatKind} (ht : P.underlying t = some (.float k)) (h : DataW.trod enc P w base spare held fuel t cs = some x) : ∃ n, cs = [.float k n] ∧ x = (.lit (.float k n), []) ∧ (Lit.float k n).wf = true := by
  cases fuel with
  | zero => simp [DataW.trod] at h
  | succ m =>
    unfold DataW.trod at h
    rw [ht] at h
    split at h <;> simp_all
theorem fl_trod {k : FloatKind} {b : Nat} (ht : P.underlying t = some (.float k)) (hw : (Lit.float k b).wf = true) : DataW.trod enc P w base spare held 1 t [.float k b] = some (.lit (.float k b), []) := by
  simp [DataW.trod, ht, hw]
end

theorem own : ownKnob Try.prog.godebug = none := by kernel_rfl

theorem walk (a0w : Nat) (a0x : Nat) (a0y : Nat) (a0z : Nat) (a1w : Nat) (a1x : Nat) (a1y : Nat) (a1z : Nat) (ha0w : (Lit.float .f32 a0w).wf = true) (ha0x : (Lit.float .f32 a0x).wf = true) (ha0y : (Lit.float .f32 a0y).wf = true) (ha0z : (Lit.float .f32 a0z).wf = true) (ha1w : (Lit.float .f32 a1w).wf = true) (ha1x : (Lit.float .f32 a1x).wf = true) (ha1y : (Lit.float .f32 a1y).wf = true) (ha1z : (Lit.float .f32 a1z).wf = true) (w : World) :
    Calls Try.prog 7 #[.agg #[.float .f32 a0w, .float .f32 a0x, .float .f32 a0y, .float .f32 a0z], .agg #[.float .f32 a1w, .float .f32 a1x, .float .f32 a1y, .float .f32 a1z]] w fun e w' => e = .returned (.bool true) ∧ Below w.heap.size w w' :=
  Ab.law_calls Ab.ok_lawSamePulse Try.func7 rfl rfl (vs := [.g [.fl .f32 (Ab.canon .f32 a0w), .fl .f32 (Ab.canon .f32 a0x), .fl .f32 (Ab.canon .f32 a0y), .fl .f32 (Ab.canon .f32 a0z)], .g [.fl .f32 (Ab.canon .f32 a1w), .fl .f32 (Ab.canon .f32 a1x), .fl .f32 (Ab.canon .f32 a1y), .fl .f32 (Ab.canon .f32 a1z)]]) (h := []) (if_pos ⟨Ab.canon_lt ha0w, Ab.canon_lt ha0x, Ab.canon_lt ha0y, Ab.canon_lt ha0z, Ab.canon_lt ha1w, Ab.canon_lt ha1x, Ab.canon_lt ha1y, Ab.canon_lt ha1z⟩) (Ab.Rel.none w) ⟨⟨_, rfl, ⟨a0w, rfl, rfl⟩, ⟨a0x, rfl, rfl⟩, ⟨a0y, rfl, rfl⟩, ⟨a0z, rfl, rfl⟩, trivial⟩, ⟨_, rfl, ⟨a1w, rfl, rfl⟩, ⟨a1x, rfl, rfl⟩, ⟨a1y, rfl, rfl⟩, ⟨a1z, rfl, rfl⟩, trivial⟩, trivial⟩ Ab.not_wr_none

set_option maxRecDepth 100000 in
theorem lifted (os : Os) (started : os.Started) (H : Type) (enc : TypeId × Value → H) :
    ReturnsInHanded {} Try.checked os 7 .any (Rows.fnExactSamePulseSpec.pre6 enc Try.prog Try.f7 Rows.fnExactSamePulseRow.domain false) (Rows.fnExactSamePulseSpec.post enc Try.prog Try.f7 false true false false) := by
  refine returnsInHanded_of_change (C := Try.checked) own started (by kernel_rfl) Try.func7
    (ChangeSpec.witness6 (enc := enc) (C := Try.checked) false ⟨#[], #[.agg #[.float .f32 0, .float .f32 0, .float .f32 0, .float .f32 0], .agg #[.float .f32 0, .float .f32 0, .float .f32 0, .float .f32 0]], []⟩ 8 (by kernel_rfl) (by kernel_rfl) (by kernel_rfl) (by kernel_rfl)) ?_
  intro W base args ds gs before hval0 hW hcnd _
  have hval : ∀ (j : Nat) t v, Try.f7.params[j]? = some t → args[j]? = some v → Value.okWide Try.prog W .any base t v := hval0
  have hW' := hW
  obtain ⟨p, q, hA0, hV, rfl, hfz, hnd⟩ := hW
  have hA : DataW.TrodAll enc Try.prog W 0 (fun _ => true) true Try.f7.params.toList args.toList ds p := hA0
  rw [Try.params7] at hA hval
  obtain ⟨v0, vs0, d0, ds0, p0, q0, hargs, rfl, rfl, h0, r0⟩ := trodAll_cons hA
  obtain ⟨v1, vs1, d1, ds1, p1, q1, rfl, rfl, rfl, h1, r1⟩ := trodAll_cons r0
  obtain ⟨rfl, rfl, rfl⟩ := trodAll_nil r1
  obtain rfl : args = #[v0, v1] := by cases args; simp_all
  obtain ⟨rfl, rfl⟩ := trodVars_none hV
  obtain ⟨ua0w, ua0x, ua0y, ua0z, ya0w, ya0x, ya0y, ya0z, n0, rfl, rfl, rfl, ta0w, ta0x, ta0y, ta0z⟩ := Go.Joins.open_agg4 Try.underlying27 (by kernel_rfl) (by kernel_rfl) (hval 0 27 v0 rfl rfl) h0
  obtain ⟨a0w, ea0w, rfl, ha0w⟩ := trod_fl Try.underlying25 ta0w
  obtain rfl : ua0w = .float .f32 a0w := by simpa using ea0w
  obtain ⟨a0x, ea0x, rfl, ha0x⟩ := trod_fl Try.underlying25 ta0x
  obtain rfl : ua0x = .float .f32 a0x := by simpa using ea0x
  obtain ⟨a0y, ea0y, rfl, ha0y⟩ := trod_fl Try.underlying25 ta0y
  obtain rfl : ua0y = .float .f32 a0y := by simpa using ea0y
  obtain ⟨a0z, ea0z, rfl, ha0z⟩ := trod_fl Try.underlying25 ta0z
  obtain rfl : ua0z = .float .f32 a0z := by simpa using ea0z
  obtain ⟨ua1w, ua1x, ua1y, ua1z, ya1w, ya1x, ya1y, ya1z, n1, rfl, rfl, rfl, ta1w, ta1x, ta1y, ta1z⟩ := Go.Joins.open_agg4 Try.underlying27 (by kernel_rfl) (by kernel_rfl) (hval 1 27 v1 rfl rfl) h1
  obtain ⟨a1w, ea1w, rfl, ha1w⟩ := trod_fl Try.underlying25 ta1w
  obtain rfl : ua1w = .float .f32 a1w := by simpa using ea1w
  obtain ⟨a1x, ea1x, rfl, ha1x⟩ := trod_fl Try.underlying25 ta1x
  obtain rfl : ua1x = .float .f32 a1x := by simpa using ea1x
  obtain ⟨a1y, ea1y, rfl, ha1y⟩ := trod_fl Try.underlying25 ta1y
  obtain rfl : ua1y = .float .f32 a1y := by simpa using ea1y
  obtain ⟨a1z, ea1z, rfl, ha1z⟩ := trod_fl Try.underlying25 ta1z
  obtain rfl : ua1z = .float .f32 a1z := by simpa using ea1z
  clear hA0 hval0
  simp only [List.append_nil] at hW'
  refine (walk a0w a0x a0y a0z a1w a1x a1y a1z ha0w ha0x ha0y ha0z ha1w ha1x ha1y ha1z W).mono fun e W' ⟨he, hg⟩ => ?_
  subst he
  exact ⟨_, rfl, Ab.post_of_below (pa := []) (pv := []) hW' (fun _ _ _ => (trodAll_cons_mk (shut_bool Try.underlying4 _) trodAll_mk0)) (fun sp _ => (trodAll_cons_mk (Go.Joins.shut_agg4 Try.underlying27 (by kernel_rfl) (by kernel_rfl) ⟨1, fl_trod Try.underlying25 ha0w⟩ ⟨1, fl_trod Try.underlying25 ha0x⟩ ⟨1, fl_trod Try.underlying25 ha0y⟩ ⟨1, fl_trod Try.underlying25 ha0z⟩) (trodAll_cons_mk (Go.Joins.shut_agg4 Try.underlying27 (by kernel_rfl) (by kernel_rfl) ⟨1, fl_trod Try.underlying25 ha1w⟩ ⟨1, fl_trod Try.underlying25 ha1x⟩ ⟨1, fl_trod Try.underlying25 ha1y⟩ ⟨1, fl_trod Try.underlying25 ha1z⟩) trodAll_mk0))) (fun _ _ => rfl) rfl
    hg (ok_one (by kernel_rfl) rfl (okWide_bool_mk Try.underlying4 _))⟩

theorem over : Rows.fnExactSamePulseRow.holds Try.pinned (OpenSpec.ofChange Rows.fnExactSamePulseSpec) :=
  OpenClaim.holds_of_wide 7 Try.f7 rfl rfl rfl rfl rfl rfl rfl ⟨rfl, rfl, rfl, rfl, rfl⟩ rfl rfl rfl rfl rfl (by kernel_rfl) Try.func7 (by kernel_rfl)
    (of_decide_eq_true (by kernel_rfl)) (by unfold Func.isWrapper; first | (rw [if_pos (by decide +kernel)]; kernel_rfl) | (rw [if_neg (by decide +kernel)]; exact ⟨rfl, rfl⟩))
    (fun os started H enc _ => lifted os started H enc)

theorem proved : Rows.FnExactSamePulseSaid :=
  over
#print axioms proved
end Go.Proofs.Ytjjdfeemkkeokaa.fnExactSamePulse

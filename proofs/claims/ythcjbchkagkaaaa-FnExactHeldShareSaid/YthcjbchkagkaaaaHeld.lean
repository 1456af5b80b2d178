/- 'HeldShare': what it computes, and its law. Only lemmas. Written by gen_held.py. -/
import Derived.Test.YthcjbchkagkaaaaDamp
namespace Go.Proofs.Ythcjbchkagkaaaa.Ab
set_option linter.unusedVariables false
set_option linter.unusedSimpArgs false
open Go

def heldN (r o s q : Nat) : Nat := fop .mul .f32 1056964608 (fop .sub .f32 1065353216 (dZ r o s q))
def heldOk (r o s q : Nat) : Bool := dampOk r o s q && finB (heldN r o s q)
def gHeld : G := fun vs h => match vs, h with
  | [.fl .f32 r, .fl .f32 o, .fl .f32 s, .fl .f32 q], [] => some (pairV (heldOk r o s q) (cond (heldOk r o s q) (heldN r o s q) 0), [])
  | _, _ => none

theorem hrun_spec (r o s q : Nat) : run ty (tab [(51, gDamp), (52, gNum)]) ann0 0 Try.f15 [.fl .f32 r, .fl .f32 o, .fl .f32 s, .fl .f32 q] [] = callK (tab [(51, gDamp), (52, gNum)]) 51 [.fl .f32 r, .fl .f32 o, .fl .f32 s, .fl .f32 q] [] (kOp (tab [(51, gDamp), (52, gNum)]) ann0 0 0 Try.f15 1 4 17 [.fl .f32 r, .fl .f32 o, .fl .f32 s, .fl .f32 q, V.no, V.no, V.no, V.no, .fl .f32 0, .bool false, V.no, V.no, V.no, .fl .f32 r, .fl .f32 o, .fl .f32 s, .fl .f32 q, V.no, V.no, V.no, V.no, V.no, V.no, V.no, V.no, V.no, V.no, V.no, V.no, V.no] (aftOf 1 Try.f15)) := by kernel_rfl
theorem hcall_spec_true (r o s q : Nat) (ht : dampOk r o s q = true) (K : V → H → Option (V × H)) : callK (tab [(51, gDamp), (52, gNum)]) 51 [.fl .f32 r, .fl .f32 o, .fl .f32 s, .fl .f32 q] [] K = K (.tup [.a (.sl 0 0 3), .a (.bool true)]) [(.at true (.fl .f32 (damp r o s q)))] := by
  refine Eq.trans (b := match (match dampOk r o s q with | true => some (V.tup [.a (.sl 0 0 3), .a (.bool true)], ([(.at true (.fl .f32 (damp r o s q)))] : H)) | false => some (nilF, ([] : H))) with
    | none => none
    | some (v, g') => K (v.up (back [] 0)) (layBack (back [] 0) [] [] g')) (by kernel_rfl) ?_
  rw [ht]
  kernel_rfl
theorem hcall_spec_false (r o s q : Nat) (ht : dampOk r o s q = false) (K : V → H → Option (V × H)) : callK (tab [(51, gDamp), (52, gNum)]) 51 [.fl .f32 r, .fl .f32 o, .fl .f32 s, .fl .f32 q] [] K = K nilF [] := by
  refine Eq.trans (b := match (match dampOk r o s q with | true => some (V.tup [.a (.sl 0 0 3), .a (.bool true)], ([(.at true (.fl .f32 (damp r o s q)))] : H)) | false => some (nilF, ([] : H))) with
    | none => none
    | some (v, g') => K (v.up (back [] 0)) (layBack (back [] 0) [] [] g')) (by kernel_rfl) ?_
  rw [ht]
  kernel_rfl
theorem hend_spec_true (r o s q : Nat) : (kOp (tab [(51, gDamp), (52, gNum)]) ann0 0 0 Try.f15 1 4 17 [.fl .f32 r, .fl .f32 o, .fl .f32 s, .fl .f32 q, V.no, V.no, V.no, V.no, .fl .f32 0, .bool false, V.no, V.no, V.no, .fl .f32 r, .fl .f32 o, .fl .f32 s, .fl .f32 q, V.no, V.no, V.no, V.no, V.no, V.no, V.no, V.no, V.no, V.no, V.no, V.no, V.no] (aftOf 1 Try.f15)) (.tup [.a (.sl 0 0 3), .a (.bool true)]) [(.at true (.fl .f32 (damp r o s q)))] = some (pairV (finB (heldN r o s q)) (cond (finB (heldN r o s q)) (heldN r o s q) 0), []) := by kernel_rfl
theorem hend_spec_false (r o s q : Nat) : (kOp (tab [(51, gDamp), (52, gNum)]) ann0 0 0 Try.f15 1 4 17 [.fl .f32 r, .fl .f32 o, .fl .f32 s, .fl .f32 q, V.no, V.no, V.no, V.no, .fl .f32 0, .bool false, V.no, V.no, V.no, .fl .f32 r, .fl .f32 o, .fl .f32 s, .fl .f32 q, V.no, V.no, V.no, V.no, V.no, V.no, V.no, V.no, V.no, V.no, V.no, V.no, V.no] (aftOf 1 Try.f15)) nilF [] = some (pairV false 0, []) := by kernel_rfl
theorem ok_specHeld : FnOk Try.prog 15 gHeld := by
  refine fnOk (tab_cons (k := 51) ok_specDamp (tab_cons (k := 52) ok_l02Number tab_nil)) Try.func15 rfl rfl ann0 fun vs h v h' e => ⟨0, ?_⟩
  unfold gHeld at e
  split at e
  · cases e
    rename_i r o s q
    rw [hrun_spec]
    unfold heldOk
    cases hd : dampOk r o s q with
    | true => rw [hcall_spec_true r o s q hd, hend_spec_true, Bool.true_and]
    | false => rw [hcall_spec_false r o s q hd, hend_spec_false, Bool.false_and]; rfl
  · cases e
theorem hrun_impl (r o s q : Nat) : run ty (tab [(19, gDamp), (53, gNum)]) ann0 0 Try.f16 [.fl .f32 r, .fl .f32 o, .fl .f32 s, .fl .f32 q] [] = callK (tab [(19, gDamp), (53, gNum)]) 19 [.fl .f32 r, .fl .f32 o, .fl .f32 s, .fl .f32 q] [] (kOp (tab [(19, gDamp), (53, gNum)]) ann0 0 0 Try.f16 1 4 17 [.fl .f32 r, .fl .f32 o, .fl .f32 s, .fl .f32 q, V.no, V.no, V.no, V.no, .fl .f32 0, .bool false, V.no, V.no, V.no, .fl .f32 r, .fl .f32 o, .fl .f32 s, .fl .f32 q, V.no, V.no, V.no, V.no, V.no, V.no, V.no, V.no, V.no, V.no, V.no, V.no, V.no] (aftOf 1 Try.f16)) := by kernel_rfl
theorem hcall_impl_true (r o s q : Nat) (ht : dampOk r o s q = true) (K : V → H → Option (V × H)) : callK (tab [(19, gDamp), (53, gNum)]) 19 [.fl .f32 r, .fl .f32 o, .fl .f32 s, .fl .f32 q] [] K = K (.tup [.a (.sl 0 0 3), .a (.bool true)]) [(.at true (.fl .f32 (damp r o s q)))] := by
  refine Eq.trans (b := match (match dampOk r o s q with | true => some (V.tup [.a (.sl 0 0 3), .a (.bool true)], ([(.at true (.fl .f32 (damp r o s q)))] : H)) | false => some (nilF, ([] : H))) with
    | none => none
    | some (v, g') => K (v.up (back [] 0)) (layBack (back [] 0) [] [] g')) (by kernel_rfl) ?_
  rw [ht]
  kernel_rfl
theorem hcall_impl_false (r o s q : Nat) (ht : dampOk r o s q = false) (K : V → H → Option (V × H)) : callK (tab [(19, gDamp), (53, gNum)]) 19 [.fl .f32 r, .fl .f32 o, .fl .f32 s, .fl .f32 q] [] K = K nilF [] := by
  refine Eq.trans (b := match (match dampOk r o s q with | true => some (V.tup [.a (.sl 0 0 3), .a (.bool true)], ([(.at true (.fl .f32 (damp r o s q)))] : H)) | false => some (nilF, ([] : H))) with
    | none => none
    | some (v, g') => K (v.up (back [] 0)) (layBack (back [] 0) [] [] g')) (by kernel_rfl) ?_
  rw [ht]
  kernel_rfl
theorem hend_impl_true (r o s q : Nat) : (kOp (tab [(19, gDamp), (53, gNum)]) ann0 0 0 Try.f16 1 4 17 [.fl .f32 r, .fl .f32 o, .fl .f32 s, .fl .f32 q, V.no, V.no, V.no, V.no, .fl .f32 0, .bool false, V.no, V.no, V.no, .fl .f32 r, .fl .f32 o, .fl .f32 s, .fl .f32 q, V.no, V.no, V.no, V.no, V.no, V.no, V.no, V.no, V.no, V.no, V.no, V.no, V.no] (aftOf 1 Try.f16)) (.tup [.a (.sl 0 0 3), .a (.bool true)]) [(.at true (.fl .f32 (damp r o s q)))] = some (pairV (finB (heldN r o s q)) (cond (finB (heldN r o s q)) (heldN r o s q) 0), []) := by kernel_rfl
theorem hend_impl_false (r o s q : Nat) : (kOp (tab [(19, gDamp), (53, gNum)]) ann0 0 0 Try.f16 1 4 17 [.fl .f32 r, .fl .f32 o, .fl .f32 s, .fl .f32 q, V.no, V.no, V.no, V.no, .fl .f32 0, .bool false, V.no, V.no, V.no, .fl .f32 r, .fl .f32 o, .fl .f32 s, .fl .f32 q, V.no, V.no, V.no, V.no, V.no, V.no, V.no, V.no, V.no, V.no, V.no, V.no, V.no] (aftOf 1 Try.f16)) nilF [] = some (pairV false 0, []) := by kernel_rfl
theorem ok_implHeld : FnOk Try.prog 16 gHeld := by
  refine fnOk (tab_cons (k := 19) ok_implDamp (tab_cons (k := 53) ok_checked tab_nil)) Try.func16 rfl rfl ann0 fun vs h v h' e => ⟨0, ?_⟩
  unfold gHeld at e
  split at e
  · cases e
    rename_i r o s q
    rw [hrun_impl]
    unfold heldOk
    cases hd : dampOk r o s q with
    | true => rw [hcall_impl_true r o s q hd, hend_impl_true, Bool.true_and]
    | false => rw [hcall_impl_false r o s q hd, hend_impl_false, Bool.false_and]; rfl
  · cases e
def gLawHeld : G := fun vs h => match vs, h with | [.fl .f32 _, .fl .f32 _, .fl .f32 _, .fl .f32 _], [] => some (.bool true, []) | _, _ => none
theorem ok_lawHeld : FnOk Try.prog 3 gLawHeld := by
  refine fnOk (tab_cons (k := 15) ok_specHeld (tab_cons (k := 16) ok_implHeld (tab_cons (k := 17) ok_sameFloat tab_nil))) Try.func3 rfl rfl ann0 fun vs h v h' e => ⟨0, ?_⟩
  unfold gLawHeld at e
  split at e
  · cases e
    rename_i r o s q
    exact Eq.trans (b := pairLaw (cond (heldOk r o s q) (heldN r o s q) 0) (heldOk r o s q)) (by kernel_rfl) (pairLaw_eq _ _)
  · cases e
end Go.Proofs.Ythcjbchkagkaaaa.Ab

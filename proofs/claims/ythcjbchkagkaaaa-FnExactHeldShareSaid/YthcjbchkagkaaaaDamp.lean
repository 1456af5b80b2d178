/- 'DampRest': what it computes. Only lemmas. Written by gen_damp.py. -/
import Derived.Test.YthcjbchkagkaaaaMid
namespace Go.Proofs.Ythcjbchkagkaaaa.Ab
set_option linter.unusedVariables false
set_option linter.unusedSimpArgs false
open Go

/-! ### 'spec.l02Finite', 'spec.l02List' -/

def annLf : Ann := ⟨fun r => if r = 2 then some ([0, 3], [2]) else none, fun _ _ => .quiet⟩
abbrev kpLf : Option (List Nat × List Nat) := some ([0, 3], [2])
def stLf (n : Nat) (i : Int) (h : H) : St := ⟨[.sl 0 0 n, .any, .any, .int .i64 i, .any, .any, .any, .any, .any, .any, .any, .any, .any, .any, .any, .any], h⟩
def enLf (v : V) (h : H) : St := ⟨[.any, .any, v, .any, .any, .any, .any, .any, .any, .any, .any, .any, .any, .any, .any, .any], h⟩
theorem step_Lf {R : Type} (N M n : Nat) (i : Int) (rw : Bool) (l : List Nat) (K : X → St → Option R) :
    loopH 1 kpLf (fun st K => exec ty tabLs annLf N 1 (loopOf 2 Try.f100) st K) (M + 1) (stLf n i (hLs rw l)) K
    = idxTree finB l n i (K .ret (enLf (.bool false) (hLs rw l))) (K (.exit 0) (enLf .any (hLs rw l))) (loopH 1 kpLf (fun st K => exec ty tabLs annLf N 1 (loopOf 2 Try.f100) st K) M (stLf n (IntKind.i64.wrap (i + 1)) (hLs rw l)) K) := by
  kernel_rfl
theorem run_Lf (N n : Nat) (rw : Bool) (l : List Nat) : run ty tabLs annLf N Try.f100 [.sl 0 0 n] (hLs rw l)
    = loopH 1 kpLf (fun st K => exec ty tabLs annLf N 1 (loopOf 2 Try.f100) st K) N (stLf n 0 (hLs rw l)) (kBlk 0 (kSeq tabLs annLf N 1 (tailOf 2 Try.f100) (kEnd Try.f100 1))) := by
  kernel_rfl
theorem retLf (N : Nat) (rw : Bool) (l : List Nat) : kBlk 0 (kSeq tabLs annLf N 1 (tailOf 2 Try.f100) (kEnd Try.f100 1)) .ret (enLf (.bool false) (hLs rw l)) = some (.bool false, hLs rw l) := by kernel_rfl
theorem exitLf (N : Nat) (rw : Bool) (l : List Nat) : kBlk 0 (kSeq tabLs annLf N 1 (tailOf 2 Try.f100) (kEnd Try.f100 1)) (.exit 0) (enLf .any (hLs rw l)) = some (.bool true, hLs rw l) := by kernel_rfl
theorem ok_l02Finite : FnOk Try.prog 100 (gAll finB) := by
  refine fnOk (tab_cons (k := 76) ok_l01Finite tab_nil) Try.func100 rfl rfl annLf fun vs h v h' e => ?_
  obtain ⟨n, rw, l, rfl, rfl, hd, rfl, rfl⟩ := gAll_inv e
  refine ⟨n + 1, Eq.trans (run_Lf (n + 1) n rw l) ?_⟩
  have hp := lst_plain finB l n hd.1 hd.2 (fun M i => loopH 1 kpLf (fun st K => exec ty tabLs annLf (n + 1) 1 (loopOf 2 Try.f100) st K) M (stLf n i (hLs rw l)) (kBlk 0 (kSeq tabLs annLf (n + 1) 1 (tailOf 2 Try.f100) (kEnd Try.f100 1)))) _ _ (fun M i => step_Lf (n + 1) M n i rw l _) l [] rfl 0
  rw [show l.length + 1 + 0 = n + 1 by omega] at hp
  refine Eq.trans hp ?_
  rw [retLf, exitLf]
  unfold hLs
  cases l.all finB <;> rfl
theorem ok_l02List : FnOk Try.prog 78 gLs := by
  refine fnOk (tab_cons (k := 100) ok_l02Finite tab_nil) Try.func78 rfl rfl ann0 fun vs h v h' e => ⟨0, ?_⟩
  obtain ⟨n, rw, l, rfl, rfl, h1, hb, he⟩ := gLs_inv e
  have hc : tab [(100, gAll finB)] 100 [.sl 0 0 n] [.at rw (.fl .f32 l)] = some (.bool (l.all finB), [.at rw (.fl .f32 l)]) := gAll_eq ⟨h1, hb⟩
  unfold hLs
  conv => lhs; whnf
  simp only [hc]
  unfold hLs at he
  cases ha : l.all finB with
  | true =>
    rw [ha] at he
    refine Eq.trans ?_ he
    kernel_rfl
  | false =>
    rw [ha] at he
    refine Eq.trans ?_ he
    kernel_rfl

def dA (o q : Nat) : Nat := fop .quo .f32 o q
def dB (r s q : Nat) : Nat := fop .quo .f32 (fop .mul .f32 r r) (fop .mul .f32 s q)
def dW (o q : Nat) : Nat := fop .add .f32 1065353216 (fop .mul .f32 (dA o q) (dA o q))
def dZ (r o s q : Nat) : Nat := fop .quo .f32 (dW o q) (fop .add .f32 (dW o q) (dB r s q))
def dY (r o s q : Nat) : Nat := fop .sub .f32 0 (fop .quo .f32 (fop .mul .f32 (fop .quo .f32 r q) (dZ r o s q)) (dW o q))
def dX (r o s q : Nat) : Nat := fop .sub .f32 0 (fop .mul .f32 (dA o q) (dY r o s q))
def damp (r o s q : Nat) : List Nat := [dX r o s q, dY r o s q, dZ r o s q]
def dampOk (r o s q : Nat) : Bool := finB r && (finB o && (posB s && (posB q && (damp r o s q).all finB)))
def gDamp : G := fun vs h => match vs, h with
  | [.fl .f32 r, .fl .f32 o, .fl .f32 s, .fl .f32 q], [] => match dampOk r o s q with
    | true => some (.tup [.a (.sl 0 0 3), .a (.bool true)], [.at true (.fl .f32 (damp r o s q))])
    | false => some (nilF, [])
  | _, _ => none
theorem gDamp_inv {vs : List V} {h : H} {v : V} {h' : H} (e : gDamp vs h = some (v, h')) : ∃ r o s q, vs = [.fl .f32 r, .fl .f32 o, .fl .f32 s, .fl .f32 q] ∧ h = [] ∧ (match dampOk r o s q with
    | true => some (.tup [.a (.sl 0 0 3), .a (.bool true)], [.at true (.fl .f32 (damp r o s q))])
    | false => some (nilF, [])) = some (v, h') := by
  unfold gDamp at e
  split at e
  · exact ⟨_, _, _, _, rfl, rfl, e⟩
  · cases e

theorem ls_spec_true (r o s q : Nat) (ht : (damp r o s q).all finB = true) (K : V → H → Option (V × H)) : callK (tab [(76, gF1 finB), (58, gF1 posB), (78, gLs)]) 78 [.sl 0 0 3] [(.at true (.fl .f32 (damp r o s q)))] K = K (.tup [.a (.sl 0 0 3), .a (.bool true)]) [(.at true (.fl .f32 (damp r o s q)))] := by
  refine Eq.trans (b := match (match (damp r o s q).all finB with | true => some (V.tup [.a (.sl 0 0 3), .a (.bool true)], ([(.at true (.fl .f32 (damp r o s q)))] : H)) | false => some (V.tup [.a .nil, .a (.bool false)], ([(.at true (.fl .f32 (damp r o s q)))] : H))) with
    | none => none
    | some (v, g') => K (v.up (back [0] 1)) (layBack (back [0] 1) [(.at true (.fl .f32 (damp r o s q)))] [0] g')) (by kernel_rfl) ?_
  rw [ht]
  kernel_rfl
theorem ls_spec_false (r o s q : Nat) (ht : (damp r o s q).all finB = false) (K : V → H → Option (V × H)) : callK (tab [(76, gF1 finB), (58, gF1 posB), (78, gLs)]) 78 [.sl 0 0 3] [(.at true (.fl .f32 (damp r o s q)))] K = K (.tup [.a .nil, .a (.bool false)]) [(.at true (.fl .f32 (damp r o s q)))] := by
  refine Eq.trans (b := match (match (damp r o s q).all finB with | true => some (V.tup [.a (.sl 0 0 3), .a (.bool true)], ([(.at true (.fl .f32 (damp r o s q)))] : H)) | false => some (V.tup [.a .nil, .a (.bool false)], ([(.at true (.fl .f32 (damp r o s q)))] : H))) with
    | none => none
    | some (v, g') => K (v.up (back [0] 1)) (layBack (back [0] 1) [(.at true (.fl .f32 (damp r o s q)))] [0] g')) (by kernel_rfl) ?_
  rw [ht]
  kernel_rfl
theorem run_specDamp (r o s q : Nat) : run ty (tab [(76, gF1 finB), (58, gF1 posB), (78, gLs)]) ann0 0 Try.f51 [.fl .f32 r, .fl .f32 o, .fl .f32 s, .fl .f32 q] []
    = match !finB r with
      | true => some (nilF, [])
      | false => match !finB o with
      | true => some (nilF, [])
      | false => match !posB s with
      | true => some (nilF, [])
      | false => match !posB q with
      | true => some (nilF, [])
      | false => callK (tab [(76, gF1 finB), (58, gF1 posB), (78, gLs)]) 78 [.sl 0 0 3] [(.at true (.fl .f32 (damp r o s q)))] (kOp (tab [(76, gF1 finB), (58, gF1 posB), (78, gLs)]) ann0 0 0 Try.f51 9 4 69 [.fl .f32 (r), .fl .f32 (o), .fl .f32 (s), .fl .f32 (q), V.no, V.no, V.no, V.no, .nil, .bool false, .fl .f32 (dA o q), .fl .f32 (dB r s q), .fl .f32 (dW o q), .fl .f32 (dZ r o s q), .fl .f32 (dY r o s q), .fl .f32 (dX r o s q), .fl .f32 (r), .bool (finB r), .bool (!finB r), .bool false, .fl .f32 (o), .bool (finB o), .bool (!finB o), .bool (!finB o), .bool false, .fl .f32 (s), .bool (posB s), .bool (!posB s), .bool (!posB s), .bool false, .fl .f32 (q), .bool (posB q), .bool (!posB q), .bool (!posB q), .fl .f32 (o), .fl .f32 (q), .fl .f32 (dA o q), .fl .f32 (r), .fl .f32 (r), .fl .f32 (fop .mul .f32 r r), .fl .f32 (s), .fl .f32 (q), .fl .f32 (fop .mul .f32 s q), .fl .f32 (dB r s q), .fl .f32 (dA o q), .fl .f32 (dA o q), .fl .f32 (fop .mul .f32 (dA o q) (dA o q)), .fl .f32 (dW o q), .fl .f32 (dW o q), .fl .f32 (dW o q), .fl .f32 (dB r s q), .fl .f32 (fop .add .f32 (dW o q) (dB r s q)), .fl .f32 (dZ r o s q), .fl .f32 (r), .fl .f32 (q), .fl .f32 (fop .quo .f32 r q), .fl .f32 (dZ r o s q), .fl .f32 (fop .mul .f32 (fop .quo .f32 r q) (dZ r o s q)), .fl .f32 (dW o q), .fl .f32 (fop .quo .f32 (fop .mul .f32 (fop .quo .f32 r q) (dZ r o s q)) (dW o q)), .fl .f32 (dY r o s q), .fl .f32 (dA o q), .fl .f32 (dY r o s q), .fl .f32 (fop .mul .f32 (dA o q) (dY r o s q)), .fl .f32 (dX r o s q), .fl .f32 (dX r o s q), .fl .f32 (dY r o s q), .fl .f32 (dZ r o s q), .sl 0 0 3, V.no, V.no, V.no] .ret) := by
  kernel_rfl
theorem end_specDamp_true (r o s q : Nat) : (kOp (tab [(76, gF1 finB), (58, gF1 posB), (78, gLs)]) ann0 0 0 Try.f51 9 4 69 [.fl .f32 (r), .fl .f32 (o), .fl .f32 (s), .fl .f32 (q), V.no, V.no, V.no, V.no, .nil, .bool false, .fl .f32 (dA o q), .fl .f32 (dB r s q), .fl .f32 (dW o q), .fl .f32 (dZ r o s q), .fl .f32 (dY r o s q), .fl .f32 (dX r o s q), .fl .f32 (r), .bool (finB r), .bool (!finB r), .bool false, .fl .f32 (o), .bool (finB o), .bool (!finB o), .bool (!finB o), .bool false, .fl .f32 (s), .bool (posB s), .bool (!posB s), .bool (!posB s), .bool false, .fl .f32 (q), .bool (posB q), .bool (!posB q), .bool (!posB q), .fl .f32 (o), .fl .f32 (q), .fl .f32 (dA o q), .fl .f32 (r), .fl .f32 (r), .fl .f32 (fop .mul .f32 r r), .fl .f32 (s), .fl .f32 (q), .fl .f32 (fop .mul .f32 s q), .fl .f32 (dB r s q), .fl .f32 (dA o q), .fl .f32 (dA o q), .fl .f32 (fop .mul .f32 (dA o q) (dA o q)), .fl .f32 (dW o q), .fl .f32 (dW o q), .fl .f32 (dW o q), .fl .f32 (dB r s q), .fl .f32 (fop .add .f32 (dW o q) (dB r s q)), .fl .f32 (dZ r o s q), .fl .f32 (r), .fl .f32 (q), .fl .f32 (fop .quo .f32 r q), .fl .f32 (dZ r o s q), .fl .f32 (fop .mul .f32 (fop .quo .f32 r q) (dZ r o s q)), .fl .f32 (dW o q), .fl .f32 (fop .quo .f32 (fop .mul .f32 (fop .quo .f32 r q) (dZ r o s q)) (dW o q)), .fl .f32 (dY r o s q), .fl .f32 (dA o q), .fl .f32 (dY r o s q), .fl .f32 (fop .mul .f32 (dA o q) (dY r o s q)), .fl .f32 (dX r o s q), .fl .f32 (dX r o s q), .fl .f32 (dY r o s q), .fl .f32 (dZ r o s q), .sl 0 0 3, V.no, V.no, V.no] .ret) (.tup [.a (.sl 0 0 3), .a (.bool true)]) [(.at true (.fl .f32 (damp r o s q)))] = some (.tup [.a (.sl 0 0 3), .a (.bool true)], [(.at true (.fl .f32 (damp r o s q)))]) := by kernel_rfl
theorem end_specDamp_false (r o s q : Nat) : (kOp (tab [(76, gF1 finB), (58, gF1 posB), (78, gLs)]) ann0 0 0 Try.f51 9 4 69 [.fl .f32 (r), .fl .f32 (o), .fl .f32 (s), .fl .f32 (q), V.no, V.no, V.no, V.no, .nil, .bool false, .fl .f32 (dA o q), .fl .f32 (dB r s q), .fl .f32 (dW o q), .fl .f32 (dZ r o s q), .fl .f32 (dY r o s q), .fl .f32 (dX r o s q), .fl .f32 (r), .bool (finB r), .bool (!finB r), .bool false, .fl .f32 (o), .bool (finB o), .bool (!finB o), .bool (!finB o), .bool false, .fl .f32 (s), .bool (posB s), .bool (!posB s), .bool (!posB s), .bool false, .fl .f32 (q), .bool (posB q), .bool (!posB q), .bool (!posB q), .fl .f32 (o), .fl .f32 (q), .fl .f32 (dA o q), .fl .f32 (r), .fl .f32 (r), .fl .f32 (fop .mul .f32 r r), .fl .f32 (s), .fl .f32 (q), .fl .f32 (fop .mul .f32 s q), .fl .f32 (dB r s q), .fl .f32 (dA o q), .fl .f32 (dA o q), .fl .f32 (fop .mul .f32 (dA o q) (dA o q)), .fl .f32 (dW o q), .fl .f32 (dW o q), .fl .f32 (dW o q), .fl .f32 (dB r s q), .fl .f32 (fop .add .f32 (dW o q) (dB r s q)), .fl .f32 (dZ r o s q), .fl .f32 (r), .fl .f32 (q), .fl .f32 (fop .quo .f32 r q), .fl .f32 (dZ r o s q), .fl .f32 (fop .mul .f32 (fop .quo .f32 r q) (dZ r o s q)), .fl .f32 (dW o q), .fl .f32 (fop .quo .f32 (fop .mul .f32 (fop .quo .f32 r q) (dZ r o s q)) (dW o q)), .fl .f32 (dY r o s q), .fl .f32 (dA o q), .fl .f32 (dY r o s q), .fl .f32 (fop .mul .f32 (dA o q) (dY r o s q)), .fl .f32 (dX r o s q), .fl .f32 (dX r o s q), .fl .f32 (dY r o s q), .fl .f32 (dZ r o s q), .sl 0 0 3, V.no, V.no, V.no] .ret) (.tup [.a .nil, .a (.bool false)]) [(.at true (.fl .f32 (damp r o s q)))] = some (nilF, []) := by kernel_rfl
theorem ok_specDamp : FnOk Try.prog 51 gDamp := by
  refine fnOk (tab_cons (k := 76) ok_l01Finite (tab_cons (k := 58) ok_l02Above (tab_cons (k := 78) ok_l02List tab_nil))) Try.func51 rfl rfl ann0 fun vs h v h' e => ⟨0, ?_⟩
  obtain ⟨r, o, s, q, rfl, rfl, he⟩ := gDamp_inv e
  clear e
  refine Eq.trans (run_specDamp r o s q) (Eq.trans ?_ he)
  clear he
  unfold dampOk
  cases hl : (damp r o s q).all finB with
  | true =>
    rw [ls_spec_true r o s q hl, end_specDamp_true]
    generalize finB r = b1
    generalize finB o = b2
    generalize posB s = b3
    generalize posB q = b4
    cases b1 <;> cases b2 <;> cases b3 <;> cases b4 <;> rfl
  | false =>
    rw [ls_spec_false r o s q hl, end_specDamp_false]
    generalize finB r = b1
    generalize finB o = b2
    generalize posB s = b3
    generalize posB q = b4
    cases b1 <;> cases b2 <;> cases b3 <;> cases b4 <;> rfl
theorem ls_impl_true (r o s q : Nat) (ht : (damp r o s q).all finB = true) (K : V → H → Option (V × H)) : callK (tab [(54, gAll finB), (55, gAll posB), (56, gLs)]) 56 [.sl 2 0 3] [(.at true (.fl .f32 [r, o])), (.at true (.fl .f32 [s, q])), (.at true (.fl .f32 (damp r o s q)))] K = K (.tup [.a (.sl 2 0 3), .a (.bool true)]) [(.at true (.fl .f32 [r, o])), (.at true (.fl .f32 [s, q])), (.at true (.fl .f32 (damp r o s q)))] := by
  refine Eq.trans (b := match (match (damp r o s q).all finB with | true => some (V.tup [.a (.sl 0 0 3), .a (.bool true)], ([(.at true (.fl .f32 (damp r o s q)))] : H)) | false => some (V.tup [.a .nil, .a (.bool false)], ([(.at true (.fl .f32 (damp r o s q)))] : H))) with
    | none => none
    | some (v, g') => K (v.up (back [2] 3)) (layBack (back [2] 3) [(.at true (.fl .f32 [r, o])), (.at true (.fl .f32 [s, q])), (.at true (.fl .f32 (damp r o s q)))] [2] g')) (by kernel_rfl) ?_
  rw [ht]
  kernel_rfl
theorem ls_impl_false (r o s q : Nat) (ht : (damp r o s q).all finB = false) (K : V → H → Option (V × H)) : callK (tab [(54, gAll finB), (55, gAll posB), (56, gLs)]) 56 [.sl 2 0 3] [(.at true (.fl .f32 [r, o])), (.at true (.fl .f32 [s, q])), (.at true (.fl .f32 (damp r o s q)))] K = K (.tup [.a .nil, .a (.bool false)]) [(.at true (.fl .f32 [r, o])), (.at true (.fl .f32 [s, q])), (.at true (.fl .f32 (damp r o s q)))] := by
  refine Eq.trans (b := match (match (damp r o s q).all finB with | true => some (V.tup [.a (.sl 0 0 3), .a (.bool true)], ([(.at true (.fl .f32 (damp r o s q)))] : H)) | false => some (V.tup [.a .nil, .a (.bool false)], ([(.at true (.fl .f32 (damp r o s q)))] : H))) with
    | none => none
    | some (v, g') => K (v.up (back [2] 3)) (layBack (back [2] 3) [(.at true (.fl .f32 [r, o])), (.at true (.fl .f32 [s, q])), (.at true (.fl .f32 (damp r o s q)))] [2] g')) (by kernel_rfl) ?_
  rw [ht]
  kernel_rfl
theorem run_implDamp (r o s q : Nat) : run ty (tab [(54, gAll finB), (55, gAll posB), (56, gLs)]) ann0 0 Try.f19 [.fl .f32 r, .fl .f32 o, .fl .f32 s, .fl .f32 q] []
    = match !(finB r && (finB o && true)) with
      | true => some (nilF, [])
      | false => match !(posB s && (posB q && true)) with
      | true => some (nilF, [])
      | false => callK (tab [(54, gAll finB), (55, gAll posB), (56, gLs)]) 56 [.sl 2 0 3] [(.at true (.fl .f32 [r, o])), (.at true (.fl .f32 [s, q])), (.at true (.fl .f32 (damp r o s q)))] (kOp (tab [(54, gAll finB), (55, gAll posB), (56, gLs)]) ann0 0 0 Try.f19 9 4 63 [.fl .f32 (r), .fl .f32 (o), .fl .f32 (s), .fl .f32 (q), V.no, V.no, V.no, V.no, .nil, .bool false, .fl .f32 (dA o q), .fl .f32 (dB r s q), .fl .f32 (dW o q), .fl .f32 (dZ r o s q), .fl .f32 (dY r o s q), .fl .f32 (dX r o s q), .fl .f32 (r), .fl .f32 (o), .sl 0 0 2, .bool (finB r && (finB o && true)), .bool (!(finB r && (finB o && true))), .bool false, .fl .f32 (s), .fl .f32 (q), .sl 1 0 2, .bool (posB s && (posB q && true)), .bool (!(posB s && (posB q && true))), .bool (!(posB s && (posB q && true))), .fl .f32 (o), .fl .f32 (q), .fl .f32 (dA o q), .fl .f32 (r), .fl .f32 (r), .fl .f32 (fop .mul .f32 r r), .fl .f32 (s), .fl .f32 (q), .fl .f32 (fop .mul .f32 s q), .fl .f32 (dB r s q), .fl .f32 (dA o q), .fl .f32 (dA o q), .fl .f32 (fop .mul .f32 (dA o q) (dA o q)), .fl .f32 (dW o q), .fl .f32 (dW o q), .fl .f32 (dW o q), .fl .f32 (dB r s q), .fl .f32 (fop .add .f32 (dW o q) (dB r s q)), .fl .f32 (dZ r o s q), .fl .f32 (r), .fl .f32 (q), .fl .f32 (fop .quo .f32 r q), .fl .f32 (dZ r o s q), .fl .f32 (fop .mul .f32 (fop .quo .f32 r q) (dZ r o s q)), .fl .f32 (dW o q), .fl .f32 (fop .quo .f32 (fop .mul .f32 (fop .quo .f32 r q) (dZ r o s q)) (dW o q)), .fl .f32 (dY r o s q), .fl .f32 (dA o q), .fl .f32 (dY r o s q), .fl .f32 (fop .mul .f32 (dA o q) (dY r o s q)), .fl .f32 (dX r o s q), .fl .f32 (dX r o s q), .fl .f32 (dY r o s q), .fl .f32 (dZ r o s q), .sl 2 0 3, V.no, V.no, V.no] .ret) := by
  kernel_rfl
theorem end_implDamp_true (r o s q : Nat) : (kOp (tab [(54, gAll finB), (55, gAll posB), (56, gLs)]) ann0 0 0 Try.f19 9 4 63 [.fl .f32 (r), .fl .f32 (o), .fl .f32 (s), .fl .f32 (q), V.no, V.no, V.no, V.no, .nil, .bool false, .fl .f32 (dA o q), .fl .f32 (dB r s q), .fl .f32 (dW o q), .fl .f32 (dZ r o s q), .fl .f32 (dY r o s q), .fl .f32 (dX r o s q), .fl .f32 (r), .fl .f32 (o), .sl 0 0 2, .bool (finB r && (finB o && true)), .bool (!(finB r && (finB o && true))), .bool false, .fl .f32 (s), .fl .f32 (q), .sl 1 0 2, .bool (posB s && (posB q && true)), .bool (!(posB s && (posB q && true))), .bool (!(posB s && (posB q && true))), .fl .f32 (o), .fl .f32 (q), .fl .f32 (dA o q), .fl .f32 (r), .fl .f32 (r), .fl .f32 (fop .mul .f32 r r), .fl .f32 (s), .fl .f32 (q), .fl .f32 (fop .mul .f32 s q), .fl .f32 (dB r s q), .fl .f32 (dA o q), .fl .f32 (dA o q), .fl .f32 (fop .mul .f32 (dA o q) (dA o q)), .fl .f32 (dW o q), .fl .f32 (dW o q), .fl .f32 (dW o q), .fl .f32 (dB r s q), .fl .f32 (fop .add .f32 (dW o q) (dB r s q)), .fl .f32 (dZ r o s q), .fl .f32 (r), .fl .f32 (q), .fl .f32 (fop .quo .f32 r q), .fl .f32 (dZ r o s q), .fl .f32 (fop .mul .f32 (fop .quo .f32 r q) (dZ r o s q)), .fl .f32 (dW o q), .fl .f32 (fop .quo .f32 (fop .mul .f32 (fop .quo .f32 r q) (dZ r o s q)) (dW o q)), .fl .f32 (dY r o s q), .fl .f32 (dA o q), .fl .f32 (dY r o s q), .fl .f32 (fop .mul .f32 (dA o q) (dY r o s q)), .fl .f32 (dX r o s q), .fl .f32 (dX r o s q), .fl .f32 (dY r o s q), .fl .f32 (dZ r o s q), .sl 2 0 3, V.no, V.no, V.no] .ret) (.tup [.a (.sl 2 0 3), .a (.bool true)]) [(.at true (.fl .f32 [r, o])), (.at true (.fl .f32 [s, q])), (.at true (.fl .f32 (damp r o s q)))] = some (.tup [.a (.sl 0 0 3), .a (.bool true)], [(.at true (.fl .f32 (damp r o s q)))]) := by kernel_rfl
theorem end_implDamp_false (r o s q : Nat) : (kOp (tab [(54, gAll finB), (55, gAll posB), (56, gLs)]) ann0 0 0 Try.f19 9 4 63 [.fl .f32 (r), .fl .f32 (o), .fl .f32 (s), .fl .f32 (q), V.no, V.no, V.no, V.no, .nil, .bool false, .fl .f32 (dA o q), .fl .f32 (dB r s q), .fl .f32 (dW o q), .fl .f32 (dZ r o s q), .fl .f32 (dY r o s q), .fl .f32 (dX r o s q), .fl .f32 (r), .fl .f32 (o), .sl 0 0 2, .bool (finB r && (finB o && true)), .bool (!(finB r && (finB o && true))), .bool false, .fl .f32 (s), .fl .f32 (q), .sl 1 0 2, .bool (posB s && (posB q && true)), .bool (!(posB s && (posB q && true))), .bool (!(posB s && (posB q && true))), .fl .f32 (o), .fl .f32 (q), .fl .f32 (dA o q), .fl .f32 (r), .fl .f32 (r), .fl .f32 (fop .mul .f32 r r), .fl .f32 (s), .fl .f32 (q), .fl .f32 (fop .mul .f32 s q), .fl .f32 (dB r s q), .fl .f32 (dA o q), .fl .f32 (dA o q), .fl .f32 (fop .mul .f32 (dA o q) (dA o q)), .fl .f32 (dW o q), .fl .f32 (dW o q), .fl .f32 (dW o q), .fl .f32 (dB r s q), .fl .f32 (fop .add .f32 (dW o q) (dB r s q)), .fl .f32 (dZ r o s q), .fl .f32 (r), .fl .f32 (q), .fl .f32 (fop .quo .f32 r q), .fl .f32 (dZ r o s q), .fl .f32 (fop .mul .f32 (fop .quo .f32 r q) (dZ r o s q)), .fl .f32 (dW o q), .fl .f32 (fop .quo .f32 (fop .mul .f32 (fop .quo .f32 r q) (dZ r o s q)) (dW o q)), .fl .f32 (dY r o s q), .fl .f32 (dA o q), .fl .f32 (dY r o s q), .fl .f32 (fop .mul .f32 (dA o q) (dY r o s q)), .fl .f32 (dX r o s q), .fl .f32 (dX r o s q), .fl .f32 (dY r o s q), .fl .f32 (dZ r o s q), .sl 2 0 3, V.no, V.no, V.no] .ret) (.tup [.a .nil, .a (.bool false)]) [(.at true (.fl .f32 [r, o])), (.at true (.fl .f32 [s, q])), (.at true (.fl .f32 (damp r o s q)))] = some (nilF, []) := by kernel_rfl
theorem ok_implDamp : FnOk Try.prog 19 gDamp := by
  refine fnOk (tab_cons (k := 54) ok_areFinite (tab_cons (k := 55) ok_arePositive (tab_cons (k := 56) ok_checkedNumbers tab_nil))) Try.func19 rfl rfl ann0 fun vs h v h' e => ⟨0, ?_⟩
  obtain ⟨r, o, s, q, rfl, rfl, he⟩ := gDamp_inv e
  clear e
  refine Eq.trans (run_implDamp r o s q) (Eq.trans ?_ he)
  clear he
  unfold dampOk
  cases hl : (damp r o s q).all finB with
  | true =>
    rw [ls_impl_true r o s q hl, end_implDamp_true]
    generalize finB r = b1
    generalize finB o = b2
    generalize posB s = b3
    generalize posB q = b4
    cases b1 <;> cases b2 <;> cases b3 <;> cases b4 <;> rfl
  | false =>
    rw [ls_impl_false r o s q hl, end_implDamp_false]
    generalize finB r = b1
    generalize finB o = b2
    generalize posB s = b3
    generalize posB q = b4
    cases b1 <;> cases b2 <;> cases b3 <;> cases b4 <;> rfl
theorem run_wrap (r o s q : Nat) : run ty (tab [(51, gDamp)]) ann0 0 Try.f18 [.fl .f32 r, .fl .f32 o, .fl .f32 s, .fl .f32 q] [] = callK (tab [(51, gDamp)]) 51 [.fl .f32 r, .fl .f32 o, .fl .f32 s, .fl .f32 q] [] (kOp (tab [(51, gDamp)]) ann0 0 0 Try.f18 1 4 14 [.fl .f32 (r), .fl .f32 (o), .fl .f32 (s), .fl .f32 (q), V.no, V.no, V.no, V.no, .nil, .bool false, .fl .f32 (r), .fl .f32 (o), .fl .f32 (s), .fl .f32 (q), V.no, V.no, V.no] .ret) := by kernel_rfl
theorem wr_true (r o s q : Nat) (ht : dampOk r o s q = true) (K : V → H → Option (V × H)) : callK (tab [(51, gDamp)]) 51 [.fl .f32 r, .fl .f32 o, .fl .f32 s, .fl .f32 q] [] K = K (.tup [.a (.sl 0 0 3), .a (.bool true)]) [(.at true (.fl .f32 (damp r o s q)))] := by
  refine Eq.trans (b := match (match dampOk r o s q with | true => some (V.tup [.a (.sl 0 0 3), .a (.bool true)], ([(.at true (.fl .f32 (damp r o s q)))] : H)) | false => some (nilF, ([] : H))) with
    | none => none
    | some (v, g') => K (v.up (back [] 0)) (layBack (back [] 0) [] [] g')) (by kernel_rfl) ?_
  rw [ht]
  kernel_rfl
theorem wr_false (r o s q : Nat) (ht : dampOk r o s q = false) (K : V → H → Option (V × H)) : callK (tab [(51, gDamp)]) 51 [.fl .f32 r, .fl .f32 o, .fl .f32 s, .fl .f32 q] [] K = K nilF [] := by
  refine Eq.trans (b := match (match dampOk r o s q with | true => some (V.tup [.a (.sl 0 0 3), .a (.bool true)], ([(.at true (.fl .f32 (damp r o s q)))] : H)) | false => some (nilF, ([] : H))) with
    | none => none
    | some (v, g') => K (v.up (back [] 0)) (layBack (back [] 0) [] [] g')) (by kernel_rfl) ?_
  rw [ht]
  kernel_rfl
theorem we_true (r o s q : Nat) : (kOp (tab [(51, gDamp)]) ann0 0 0 Try.f18 1 4 14 [.fl .f32 (r), .fl .f32 (o), .fl .f32 (s), .fl .f32 (q), V.no, V.no, V.no, V.no, .nil, .bool false, .fl .f32 (r), .fl .f32 (o), .fl .f32 (s), .fl .f32 (q), V.no, V.no, V.no] .ret) (.tup [.a (.sl 0 0 3), .a (.bool true)]) [(.at true (.fl .f32 (damp r o s q)))] = some (.tup [.a (.sl 0 0 3), .a (.bool true)], [(.at true (.fl .f32 (damp r o s q)))]) := by kernel_rfl
theorem we_false (r o s q : Nat) : (kOp (tab [(51, gDamp)]) ann0 0 0 Try.f18 1 4 14 [.fl .f32 (r), .fl .f32 (o), .fl .f32 (s), .fl .f32 (q), V.no, V.no, V.no, V.no, .nil, .bool false, .fl .f32 (r), .fl .f32 (o), .fl .f32 (s), .fl .f32 (q), V.no, V.no, V.no] .ret) nilF [] = some (nilF, []) := by kernel_rfl
theorem ok_wrapDamp : FnOk Try.prog 18 gDamp := by
  refine fnOk (tab_cons (k := 51) ok_specDamp tab_nil) Try.func18 rfl rfl ann0 fun vs h v h' e => ⟨0, ?_⟩
  obtain ⟨r, o, s, q, rfl, rfl, he⟩ := gDamp_inv e
  clear e
  refine Eq.trans (run_wrap r o s q) (Eq.trans ?_ he)
  cases hd : dampOk r o s q with
  | true => rw [wr_true r o s q hd, we_true]
  | false => rw [wr_false r o s q hd, we_false]
end Go.Proofs.Ythcjbchkagkaaaa.Ab

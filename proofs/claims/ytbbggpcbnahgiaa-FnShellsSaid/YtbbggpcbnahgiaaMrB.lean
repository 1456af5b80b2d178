/- Regions that touch a map: the operations. Only lemmas. Printed by gen_mapr.py. -/
import Derived.Test.YtbbggpcbnahgiaaMrA
namespace Go.Proofs.Ytbbggpcbnahgiaa.Ab
set_option linter.unusedVariables false
set_option linter.unusedSimpArgs false
open Go
theorem put_getD (a : Act) (d j : Nat) (v : Value) : (a.put (some d) v).tmps.getD j undef = if d = j ∧ d < a.tmps.size then v else a.tmps.getD j undef := by
  show (a.tmps.setIfInBounds d v).getD j undef = _
  rw [Array.getD_eq_getD_getElem?, Array.getD_eq_getD_getElem?, Array.getElem?_setIfInBounds]
  by_cases e : d = j
  · subst e
    by_cases h : d < a.tmps.size
    · simp [h]
    · simp [h]
  · simp [e]
theorem put_size (a : Act) (d : Nat) (v : Value) : (a.put (some d) v).tmps.size = a.tmps.size := by show (a.tmps.setIfInBounds d v).size = _; simp
theorem put_defers (a : Act) (d : Nat) (v : Value) : (a.put (some d) v).defers = a.defers := rfl
section
variable {P : Program} {ops : Array Oper} {Q : Exit → Act → World → Prop} {a : Act} {w : World} {o : Oper}
theorem run_move {s : Nat} {v : Value} (ho : o.op = .move (.tmp s)) (he : a.tmps.getD s undef = v) (w : World) : (execOp a.eval o).run P w = .ok (.value v) w := by
  subst he
  unfold execOp
  rw [ho]
  rfl
theorem run_assign {s : Nat} {v : Value} (ho : o.op = .assign (.tmp s)) (he : a.tmps.getD s undef = v) (w : World) : (execOp a.eval o).run P w = .ok (.value v) w := by
  subst he
  unfold execOp
  rw [ho]
  rfl
theorem run_bld {s t : Nat} {x y : Int} (ho : o.op = .build 72 #[(0, .tmp s), (1, .tmp t)]) (hx : a.tmps.getD s undef = .int .i64 x) (hy : a.tmps.getD t undef = .int .i64 y) (w : World) : (execOp a.eval o).run Try.prog w = .ok (.value (keyV (x, y))) w := by
  have h := run_key x y w
  have e1 : a.eval (.tmp s) = .int .i64 x := hx
  have e2 : a.eval (.tmp t) = .int .i64 y := hy
  unfold execOp
  rw [ho]
  simp only [List.map_toArray, List.map_cons, List.map_nil, e1, e2, Sem.run_bind, h, Result.andThen_ok]
  rfl
theorem run_lk {s t : Nat} {b : Nat} {L : ML} {q : Int × Int} (ho : o.op = .lookup 71 (.tmp s) (.tmp t) false) (hs : a.tmps.getD s undef = .map (some b)) (ht : a.tmps.getD t undef = keyV q) (hb : w.heap[b]? = some (mapObj L)) :
    (execOp a.eval o).run Try.prog w = .ok (.value (.int .i64 (lookL L q))) w := by
  have e1 : a.eval (.tmp s) = .map (some b) := hs
  have e2 : a.eval (.tmp t) = keyV q := ht
  unfold execOp
  rw [ho]
  simp only [e1, e2, Sem.run_bind, run_lookup mapTy q hb, Result.andThen_ok]
  rfl
theorem run_me {s t : Nat} {b : Nat} {L : ML} {q : Int × Int} (ho : o.op = .mapEntry 71 (.tmp s) (.tmp t)) (hs : a.tmps.getD s undef = .map (some b)) (ht : a.tmps.getD t undef = keyV q) (hb : w.heap[b]? = some (mapObj L)) :
    (execOp a.eval o).run Try.prog w = .ok (.value (.tuple #[.int .i64 (lookL L q), .int .i64 (((idxL L q).getD L.length : Nat) : Int)])) (setB w b (mapObj (putL L q (lookL L q)))) := by
  have e1 : a.eval (.tmp s) = .map (some b) := hs
  have e2 : a.eval (.tmp t) = keyV q := ht
  unfold execOp
  rw [ho]
  simp only [e1, e2, Sem.run_bind, run_mapEntry mapTy q hb, Result.andThen_ok]
  rfl
theorem run_ex {s : Nat} {x y : Value} (ho : o.op = .extract (.tmp s) 1) (hs : a.tmps.getD s undef = .tuple #[x, y]) (w : World) : (execOp a.eval o).run P w = .ok (.value y) w := by
  have e1 : a.eval (.tmp s) = .tuple #[x, y] := hs
  unfold execOp
  rw [ho]
  simp only [e1]
  rfl
theorem run_es {s t u : Nat} {b : Nat} {L : ML} {q : Int × Int} {n : Nat} {v : Int} (ho : o.op = .entryStore 71 (.tmp s) (.tmp t) (.tmp u)) (hs : a.tmps.getD s undef = .map (some b)) (ht : a.tmps.getD t undef = .int .i64 ((n : Nat) : Int)) (hu : a.tmps.getD u undef = .int .i64 v)
    (hq : idxL L q = some n) (hb : w.heap[b]? = some (mapObj L)) : (execOp a.eval o).run Try.prog w = .ok .skip (setB w b (mapObj (putL L q v))) := by
  have e1 : a.eval (.tmp s) = .map (some b) := hs
  have e2 : a.eval (.tmp t) = .int .i64 ((n : Nat) : Int) := ht
  have e3 : a.eval (.tmp u) = .int .i64 v := hu
  unfold execOp
  rw [ho]
  simp only [e1, e2, e3, Sem.run_bind, run_entryStore (t := 71) v hq hb, Result.andThen_ok]
  rfl
theorem run_add1 {s : Nat} {x : Int} {xt yt : TypeId} (hx' : Try.prog.underlying xt = some (.int .i64)) (ho : o.op = .binOp .add xt (.tmp s) (.const (.int .i64 1)) yt) (hs : a.tmps.getD s undef = .int .i64 x) (w : World) :
    (execOp a.eval o).run Try.prog w = .ok (.value (.int .i64 (IntKind.i64.wrap (x + 1)))) w := by
  have e1 : a.eval (.tmp s) = .int .i64 x := hs
  unfold execOp
  rw [ho]
  simp only [e1]
  rfl
theorem run_sub {s u : Nat} {x y : Int} {xt yt : TypeId} (ho : o.op = .binOp .sub xt (.tmp s) (.tmp u) yt) (hs : a.tmps.getD s undef = .int .i64 x) (hu : a.tmps.getD u undef = .int .i64 y) (w : World) :
    (execOp a.eval o).run Try.prog w = .ok (.value (.int .i64 (IntKind.i64.wrap (x - y)))) w := by
  have e1 : a.eval (.tmp s) = .int .i64 x := hs
  have e2 : a.eval (.tmp u) = .int .i64 y := hu
  unfold execOp
  rw [ho]
  simp only [e1, e2]
  rfl
theorem run_mk (ho : o.op = .makeMap 71 none) : (execOp a.eval o).run P w = .ok (.value (.map (some w.heap.size))) (w.alloc (.map #[] 0)) := by
  unfold execOp
  rw [ho]
  rfl
end
end Go.Proofs.Ytbbggpcbnahgiaa.Ab

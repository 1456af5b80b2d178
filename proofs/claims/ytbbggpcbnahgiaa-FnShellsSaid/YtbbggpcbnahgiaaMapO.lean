/- What the operations on a map do, from pairs of whole numbers to whole numbers. Only lemmas. -/
import Derived.Test.YtbbggpcbnahgiaaMapE
import Derived.WideKeyEntry
import Derived.ChangeKeysEq
import Derived.MapKept
namespace Go.Proofs.Ytbbggpcbnahgiaa.Ab
set_option linter.unusedVariables false
set_option linter.unusedSimpArgs false
open Go

/-- The types of such a map. -/
structure MapTy (P : Program) (t kt it : TypeId) : Prop where
  map : P.underlying t = some (.map kt it)
  key : P.underlying kt = some (.array 2 it)
  int : P.underlying it = some (.int .i64)
  size : ∃ i, P.info? it = some i ∧ i.size = 1 ∧ i.zero = some (.int .i64 0)
  cells : P.cellsOf it = 1

section
variable {P : Program} {t kt it : TypeId}
theorem MapTy.plain (T : MapTy P t kt it) : P.plainKey it = true := by unfold Program.plainKey; rw [T.int]
theorem run_part_int (T : MapTy P t kt it) (xs : Array Value) (j : Nat) (k : IntKind) (n : Int) (h : xs[j]? = some (.int k n)) (w : World) : (part it xs j).run P w = .ok (.int k n) w := run_part_plain w T.plain h
theorem run_eq_int (T : MapTy P t kt it) (n : Nat) (x y : Int) (w : World) : (Op.equalIn (n + 1) it (.int .i64 x) (.int .i64 y)).run P w = .ok (x == y) w := by
  simp only [Op.equalIn, Sem.run_bind, run_underlying T.int, Result.andThen]
  simp
theorem run_equalN (T : MapTy P t kt it) (n : Nat) (q q' : Int × Int) (w : World) : (Op.equalIn (n + 2) kt (keyV q) (keyV q')).run P w = .ok (decide (q = q')) w := by
  obtain ⟨i, hi, hs, hz⟩ := T.size
  obtain ⟨a, b⟩ := q
  obtain ⟨c, d⟩ := q'
  unfold keyV
  rw [run_equalIn_array w (n + 1) _ _ T.key hi, T.cells]
  simp only [List.range, List.range.loop, Op.eqItems, Sem.run_bind, Nat.zero_mul, Nat.one_mul]
  rw [run_part_int T _ 0 .i64 a rfl, Result.andThen_ok, run_part_int T _ 0 .i64 c rfl, Result.andThen_ok, run_eq_int T n a c, Result.andThen_ok]
  by_cases h1 : a = c
  · subst h1
    simp only [beq_self_eq_true, Bool.not_true, Bool.false_eq_true, if_false, Sem.run_bind]
    rw [run_part_int T _ 1 .i64 b rfl, Result.andThen_ok, run_part_int T _ 1 .i64 d rfl, Result.andThen_ok, run_eq_int T n b d, Result.andThen_ok]
    by_cases h2 : b = d
    · subst h2; simp
    · simp [h2]
  · simp [h1]
theorem run_equal (T : MapTy P t kt it) (q q' : Int × Int) (w : World) : (Op.equal kt (keyV q) (keyV q')).run P w = .ok (decide (q = q')) w := run_equalN T 9998 q q' w
theorem run_checkI (T : MapTy P t kt it) (n : Nat) (x : Int) (em : Bool) (w : World) : (Instr.checkKey em (n + 1) it (.int .i64 x)).run P w = .ok () w := by
  simp only [Instr.checkKey, Sem.run_bind, run_underlying T.int, Result.andThen]
  rfl
theorem run_checkN (T : MapTy P t kt it) (n : Nat) (q : Int × Int) (em : Bool) (w : World) : (Instr.checkKey em (n + 2) kt (keyV q)).run P w = .ok () w := by
  obtain ⟨i, hi, hs, hz⟩ := T.size
  have e := fun x w => run_checkI T n x em w
  unfold keyV
  generalize hm : n + 1 = m at e
  rw [show n + 2 = m + 1 by omega]
  simp only [Instr.checkKey, Sem.run_bind, run_underlying T.key, Result.andThen_ok, Std.Legacy.Range.forIn_eq_forIn_range', Std.Legacy.Range.size, Nat.sub_zero, Nat.add_one_sub_one, Nat.div_one, List.range'_succ, List.range'_zero, List.forIn_cons, List.forIn_nil]
  have p0 : ∀ w, (part it #[Value.int .i64 q.1, Value.int .i64 q.2] 0).run P w = .ok (.int .i64 q.1) w := fun w => run_part_int T _ 0 .i64 q.1 rfl w
  have p1 : ∀ w, (part it #[Value.int .i64 q.1, Value.int .i64 q.2] 1).run P w = .ok (.int .i64 q.2) w := fun w => run_part_int T _ 1 .i64 q.2 rfl w
  simp [run_sizeOf w hi, hs, p0, p1, e, T.cells]
theorem run_check (T : MapTy P t kt it) (q : Int × Int) (em : Bool) (w : World) : (Instr.checkKey em 10000 kt (keyV q)).run P w = .ok () w := run_checkN T 9998 q em w
/-- Where a key lies. -/
def idxL : ML → Int × Int → Option Nat
  | [], _ => none
  | (k, _) :: l, q => if k = q then some 0 else (idxL l q).map (· + 1)
theorem run_findA (T : MapTy P t kt it) (q : Int × Int) (w : World) : ∀ (L : ML) (n i : Nat), (Instr.findAsking kt (keyV q) (mkE n L) i).run P w = .ok ((idxL L q).map fun j => (i + j, .int .i64 (lookL L q))) w
  | [], n, i => rfl
  | (k, v) :: L, n, i => by
    simp only [mkE, Instr.findAsking, Sem.run_bind]
    rw [run_equal T q k w, Result.andThen_ok]
    unfold idxL lookL
    by_cases h : k = q
    · subst h
      simp
    · rw [decide_eq_false (fun e => h e.symm)]
      simp only [Bool.false_eq_true, if_false, if_neg h]
      rw [run_findA T q w L (n + 1) (i + 1)]
      cases idxL L q with
      | none => rfl
      | some j => simp only [Option.map_some, Nat.add_assoc, Nat.add_comm 1 j]
theorem run_find (T : MapTy P t kt it) (q : Int × Int) (L : ML) (w : World) : (Instr.findKey kt (keyV q) (mkE 0 L)).run P w = .ok ((idxL L q).map fun j => (j, .int .i64 (lookL L q))) w := by
  unfold Instr.findKey
  simp only [Sem.run_bind, run_underlying T.key, Result.andThen_ok]
  cases L with
  | nil => rfl
  | cons p L =>
    have : Instr.findNow (.array 2 it) (keyV q) (mkE 0 (p :: L)) 0 = none := rfl
    rw [this]
    simp only
    rw [run_findA T q w (p :: L) 0 0]
    cases idxL (p :: L) q <;> simp
theorem look_none : ∀ {L : ML} {q : Int × Int}, idxL L q = none → lookL L q = 0
  | [], _, _ => rfl
  | (k, v) :: L, q, h => by
    unfold idxL at h
    unfold lookL
    by_cases e : k = q
    · rw [if_pos e] at h; cases h
    · rw [if_neg e] at h ⊢
      exact look_none (by simpa using h)
theorem put_none : ∀ {L : ML} {q : Int × Int} (v : Int), idxL L q = none → putL L q v = L ++ [(q, v)]
  | [], _, _, _ => rfl
  | (k, x) :: L, q, v, h => by
    unfold idxL at h
    unfold putL
    by_cases e : k = q
    · rw [if_pos e] at h; cases h
    · rw [if_neg e] at h ⊢
      rw [put_none v (by simpa using h)]
      rfl
theorem put_self : ∀ {L : ML} {q : Int × Int} {i : Nat}, idxL L q = some i → putL L q (lookL L q) = L ∧ ∃ v, L[i]? = some (q, v)
  | [], _, _, h => by cases h
  | (k, x) :: L, q, i, h => by
    unfold idxL at h
    unfold putL lookL
    by_cases e : k = q
    · rw [if_pos e] at h
      cases h
      rw [if_pos e, if_pos e]
      subst e
      exact ⟨rfl, x, rfl⟩
    · rw [if_neg e] at h ⊢
      rw [if_neg e]
      rw [Option.map_eq_some_iff] at h
      obtain ⟨j, hj, rfl⟩ := h
      obtain ⟨h1, h2⟩ := put_self hj
      exact ⟨by rw [h1], by simpa using h2⟩
theorem idx_put : ∀ {L : ML} {q : Int × Int} (v : Int), idxL (putL L q v) q = some ((idxL L q).getD L.length)
  | [], q, v => by simp [putL, idxL]
  | (k, x) :: L, q, v => by
    unfold putL
    by_cases e : k = q
    · rw [if_pos e]
      simp [idxL, e]
    · rw [if_neg e]
      unfold idxL
      rw [if_neg e, if_neg e, idx_put (L := L) v]
      cases idxL L q <;> simp
theorem put_put : ∀ {L : ML} {q : Int × Int} (u v : Int), putL (putL L q u) q v = putL L q v
  | [], q, u, v => by simp [putL]
  | (k, x) :: L, q, u, v => by
    by_cases e : k = q
    · simp only [putL, if_pos e]
    · simp only [putL, if_neg e]
      rw [put_put u v]
theorem look_put : ∀ {L : ML} {q : Int × Int} (v : Int), lookL (putL L q v) q = v
  | [], q, v => by simp [putL, lookL]
  | (k, x) :: L, q, v => by
    unfold putL
    by_cases e : k = q
    · rw [if_pos e]; simp [lookL, e]
    · rw [if_neg e]
      unfold lookL
      rw [if_neg e, look_put v]
theorem len_put' : ∀ {L : ML} {q : Int × Int} {i : Nat} (v : Int), idxL L q = some i → (putL L q v).length = L.length
  | [], _, _, _, h => by cases h
  | (k, x) :: L, q, i, v, h => by
    unfold idxL at h
    unfold putL
    by_cases e : k = q
    · rw [if_pos e]; rfl
    · rw [if_neg e] at h ⊢
      rw [Option.map_eq_some_iff] at h
      obtain ⟨j, hj, _⟩ := h
      simp [len_put' v hj]
theorem mkE_get : ∀ {L : ML} {n i : Nat}, (mkE n L)[i]? = (L[i]?).map fun p => { key := keyV p.1, val := .int .i64 p.2, born := n + i }
  | [], n, i => rfl
  | (q, v) :: L, n, i => by
    cases i with
    | zero => rfl
    | succ i => simp only [mkE, List.getElem?_cons_succ]; rw [mkE_get]; simp only [Nat.add_assoc, Nat.add_comm 1 i]
theorem mkE_len : ∀ {L : ML} {n : Nat}, (mkE n L).length = L.length
  | [], n => rfl
  | (q, v) :: L, n => by simp [mkE, mkE_len]
theorem mkE_app : ∀ {L : ML} {n : Nat} {q : Int × Int} {v : Int}, mkE n (L ++ [(q, v)]) = mkE n L ++ [{ key := keyV q, val := .int .i64 v, born := n + L.length }]
  | [], n, q, v => rfl
  | (k, x) :: L, n, q, v => by simp only [List.cons_append, mkE, mkE_app, List.length_cons]; rw [show n + 1 + L.length = n + (L.length + 1) by omega]
theorem mkE_find : ∀ {L : ML} {n s : Nat}, s < L.length → (mkE n L).findIdx? (fun e => ((e.born : Nat) : Int) == ((n + s : Nat) : Int)) = some s
  | [], _, _, h => by simp at h
  | (q, v) :: L, n, s, h => by
    unfold mkE
    rw [List.findIdx?_cons]
    cases s with
    | zero => simp
    | succ s =>
      have : (((n : Nat) : Int) == ((n + (s + 1) : Nat) : Int)) = false := by simp; omega
      rw [this]
      simp only [Bool.false_eq_true, if_false]
      rw [show n + (s + 1) = n + 1 + s by omega, mkE_find (by simpa using h)]
      rfl
theorem mkE_set : ∀ {L : ML} {n s : Nat} {q : Int × Int} {v : Int}, idxL L q = some s → (mkE n L).modify s (fun e => { e with val := .int .i64 v }) = mkE n (putL L q v)
  | [], _, _, _, _, h => by cases h
  | (k, x) :: L, n, s, q, v, h => by
    unfold idxL at h
    unfold putL mkE
    by_cases e : k = q
    · rw [if_pos e] at h ⊢
      cases h
      simp
    · rw [if_neg e] at h ⊢
      rw [Option.map_eq_some_iff] at h
      obtain ⟨j, hj, rfl⟩ := h
      simp only [List.modify_succ_cons]
      rw [mkE_set hj]
theorem mkE_key {L : ML} {n i : Nat} {q : Int × Int} {v : Int} (h : L[i]? = some (q, v)) : (mkE n L).modify i (fun e => { e with key := keyV q }) = mkE n L := by
  apply List.ext_getElem?
  intro j
  rw [List.getElem?_modify]
  by_cases e : i = j
  · subst e
    rw [mkE_get, h]
    simp
  · simp [e]

def setB (w : World) (b : Nat) (o : Obj) : World := { w with heap := w.heap.setIfInBounds b o }
theorem run_lookup (T : MapTy P t kt it) {b : Nat} {L : ML} (q : Int × Int) {w : World} (hb : w.heap[b]? = some (mapObj L)) :
    (Instr.lookup t (.map (some b)) (keyV q) false).run P w = .ok (.int .i64 (lookL L q)) w := by
  obtain ⟨i, hi, hs, hz⟩ := T.size
  have hf := run_find T q L w
  cases hx : idxL L q with
  | none =>
    rw [hx] at hf
    simp [Instr.lookup, run_underlying T.map, MapKept.run_getObj_map hb, run_check T, hf, zeroValue, typeInfo, hi, hz, look_none hx, Result.andThen]
  | some j =>
    rw [hx] at hf
    simp [Instr.lookup, run_underlying T.map, MapKept.run_getObj_map hb, run_check T, hf, Result.andThen]
theorem run_mapEntry (T : MapTy P t kt it) {b : Nat} {L : ML} (q : Int × Int) {w : World} (hb : w.heap[b]? = some (mapObj L)) :
    (Instr.mapEntry t (.map (some b)) (keyV q)).run P w = .ok (.tuple #[.int .i64 (lookL L q), .int .i64 (((idxL L q).getD L.length : Nat) : Int)]) (setB w b (mapObj (putL L q (lookL L q)))) := by
  obtain ⟨i, hi, hs, hz⟩ := T.size
  have hf := run_find T q L w
  cases hx : idxL L q with
  | none =>
    rw [hx] at hf
    rw [put_none _ hx]
    simp [Instr.mapEntry, run_underlying T.map, MapKept.run_getObj_map hb, MapKept.run_setObj_map _ hb, run_check T, hf, zeroValue, typeInfo, hi, hz, look_none hx, Result.andThen, setB, mapObj, mkE_app, goInt]
  | some j =>
    rw [hx] at hf
    obtain ⟨h1, v, h2⟩ := put_self hx
    have hk : ∀ w, (Instr.keyThatStays (keyV q) (keyV q)).run P w = .ok (keyV q) w := fun w => by
      have : Instr.sameBits 10000 (keyV q) (keyV q) = true := by
        show Instr.sameBits (9999 + 1) (.agg #[.int .i64 q.1, .int .i64 q.2]) (.agg #[.int .i64 q.1, .int .i64 q.2]) = true
        simp [Instr.sameBits]
      simp [Instr.keyThatStays, this]
    have hg : (mkE 0 L)[j]? = some { key := keyV q, val := .int .i64 v, born := j } := by
      rw [mkE_get, h2]
      simp
    have hm : (mkE 0 L).modify j (fun e => { e with key := keyV q }) = mkE 0 L := mkE_key h2
    rw [h1]
    simp [Instr.mapEntry, run_underlying T.map, MapKept.run_getObj_map hb, MapKept.run_setObj_map _ hb, run_check T, hf, hg, hk, hm, Result.andThen, setB, mapObj, goInt]
theorem run_entryStore {b : Nat} {L : ML} {q : Int × Int} {s : Nat} (v : Int) {w : World} (hs : idxL L q = some s) (hb : w.heap[b]? = some (mapObj L)) :
    (Instr.entryStore t (.map (some b)) (.int .i64 ((s : Nat) : Int)) (.int .i64 v)).run P w = .ok () (setB w b (mapObj (putL L q v))) := by
  obtain ⟨_, u, h2⟩ := put_self hs
  have hlt : s < L.length := getElem?_lt h2
  have hf := mkE_find (L := L) (n := 0) hlt
  rw [Nat.zero_add] at hf
  have hf' : (mkE 0 L).toArray.findIdx? (fun e => ((e.born : Nat) : Int) == ((s : Nat) : Int)) = some s := by
    rw [Go.WideElems.findIdx_arr]
    exact hf
  have hm : (mkE 0 L).toArray.modify s (fun e => { e with val := .int .i64 v }) = (mkE 0 (putL L q v)).toArray := by
    rw [List.modify_toArray, mkE_set hs]
  simp [Instr.entryStore, MapKept.run_getObj_map hb, MapKept.run_setObj_map _ hb, asInt, asIntOf, hf', hm, Result.andThen, setB, mapObj, len_put' v hs]
end
end Go.Proofs.Ytbbggpcbnahgiaa.Ab

/- What the proof names: lemmas and words, merged by a program from its parts. No condition. -/
import Derived.Test.YtpeplbbphpamhaaZ4
import Derived.StillTail
namespace Go.Proofs.Ytpeplbbphpamhaa.Ab
set_option linter.unusedVariables false
set_option linter.unusedSimpArgs false
open Go
def lastv {α : Type} (wr : Nat → Bool) (val : Nat → α) (x : α) (L : Nat → Bool) : Nat → α
  | 0 => x
  | j + 1 => if wr j && L j then val j else lastv wr val x L j
section
variable {α : Type} {wr : Nat → Bool} {val : Nat → α} {x : α} {L L' : Nat → Bool}
theorem lastv_congr : ∀ {n : Nat}, (∀ i, i < n → wr i = true → L i = L' i) → lastv wr val x L n = lastv wr val x L' n
  | 0, _ => rfl
  | n + 1, h => by
    simp only [lastv]
    rw [lastv_congr (n := n) fun i hi => h i (by omega)]
    cases hw : wr n
    · simp
    · rw [h n (by omega) hw]
theorem lastv_set {j : Nat} (hL' : ∀ i, i ≠ j → L' i = L i) (hj : L j = false) (hj' : L' j = true) : ∀ {n : Nat}, j < n → (∀ i, j < i → i < n → L i = true → wr i = true → wr j = false) →
    lastv wr val x L' n = if wr j then val j else lastv wr val x L n
  | 0, h, _ => by omega
  | n + 1, h, hc => by
    simp only [lastv]
    by_cases e : n = j
    · subst e
      rw [hj, hj']
      have : lastv wr val x L' n = lastv wr val x L n := lastv_congr fun i hi _ => hL' i (by omega)
      rw [this]
      cases wr n <;> simp
    · have ih := lastv_set hL' hj hj' (n := n) (by omega) (fun i h1 h2 => hc i h1 (by omega))
      rw [hL' n e, ih]
      cases hw : wr n
      · simp
      · cases hl : L n
        · simp
        · have := hc n (by omega) (by omega) hl hw
          simp [this]
theorem lastv_all {j : Nat} : ∀ {n : Nat}, j ≤ n → (∀ i, i < j → wr i = true → L i = true) → (∀ i, j ≤ i → i < n → wr i = true → L i = false) → lastv wr val x L n = lastv wr val x (fun _ => true) j
  | 0, h, h1, _ => by
    have : j = 0 := by omega
    subst this; rfl
  | n + 1, h, h1, h2 => by
    by_cases e : j = n + 1
    · subst e
      exact lastv_congr fun i hi hw => h1 i hi hw
    · simp only [lastv]
      have ih := lastv_all (n := n) (by omega) h1 (fun i h3 h4 => h2 i h3 (by omega))
      cases hw : wr n
      · simpa using ih
      · rw [h2 n (by omega) (by omega) hw]; simpa using ih
theorem lastv_none (h : ∀ i, L i = false) : ∀ {n : Nat}, lastv wr val x L n = x
  | 0 => rfl
  | n + 1 => by simp only [lastv, h n, Bool.and_false, Bool.false_eq_true, if_false]; exact lastv_none h
theorem lastv_at : ∀ (n : Nat), ∃ s, s ≤ n ∧ (∀ i, s ≤ i → i < n → wr i = true → L i = false) ∧ ((s = 0 ∧ lastv wr val x L n = x) ∨ ∃ q, s = q + 1 ∧ wr q = true ∧ L q = true ∧ lastv wr val x L n = val q)
  | 0 => ⟨0, Nat.le_refl _, fun i h1 h2 => by omega, .inl ⟨rfl, rfl⟩⟩
  | n + 1 => by
    cases hw : wr n && L n
    · obtain ⟨s, h1, h2, h3⟩ := lastv_at n
      refine ⟨s, by omega, fun i h4 h5 h6 => ?_, ?_⟩
      · by_cases e : i = n
        · subst e; rw [h6] at hw; simpa using hw
        · exact h2 i h4 (by omega) h6
      · simp only [lastv, hw]; exact h3
    · simp only [Bool.and_eq_true] at hw
      exact ⟨n + 1, Nat.le_refl _, fun i h4 h5 => by omega, .inr ⟨n, rfl, hw.1, hw.2, by simp [lastv, hw.1, hw.2]⟩⟩
end
structure Places (P : Program) (cl : Nat → Cls) (ops : Array Oper) (n : Nat) (T : Nat → List V) (Hh : Nat → H) (vv : Nat → V) (j : Nat) (o : Oper) : Prop where
  at_ : ops[j]? = some o
  next : T (j + 1) = putV (T j) o.dst (vv j)
  step : ((∀ g want, o.guard = some (g, want) → ∃ d, dstAt ops g = some d ∧ nth (T j) d = .bool want) ∧ OpOk P o (T j) (Hh j) (vv j) (Hh (j + 1)) ∧ KindOk P (kindOf (cl j) o.op) o (T j) (Hh j) (vv j) (Hh (j + 1))) ∨
    (∃ g want d, o.guard = some (g, want) ∧ dstAt ops g = some d ∧ (nth (T j) d = .bool (!want) ∨ nth (T j) d = V.no) ∧ vv j = V.no ∧ Hh (j + 1) = Hh j)
theorem places {P : Program} {cl : Nat → Cls} {ops : Array Oper} {t' : List V} {h' : H} : ∀ {n : Nat} {l : List Oper} {t : List V} {h : H}, Lex P cl ops n l t h t' h' → (∀ i o, l[i]? = some o → ops[n + i]? = some o) →
    ∃ T Hh vv, T n = t ∧ Hh n = h ∧ T (n + l.length) = t' ∧ Hh (n + l.length) = h' ∧ ∀ j, n ≤ j → j < n + l.length → ∃ o, Places P cl ops n T Hh vv j o := by
  intro n l t h hl
  induction hl with
  | nil n t h => exact fun _ => ⟨fun _ => t, fun _ => h, fun _ => V.no, rfl, rfl, rfl, rfl, fun j h1 h2 => by simp at h2; omega⟩
  | run n o rest t h v h1 t' h2 hg ho hk hr ih =>
    intro hops
    obtain ⟨T, Hh, vv, e1, e2, e3, e4, e5⟩ := ih (fun i o hi => by have := hops (i + 1) o (by simpa using hi); rwa [show n + (i + 1) = n + 1 + i by omega] at this)
    refine ⟨fun j => if j = n then t else T j, fun j => if j = n then h else Hh j, fun j => if j = n then v else vv j, by simp, by simp, ?_, ?_, fun j h3 h4 => ?_⟩
    · simp only [List.length_cons]
      rw [if_neg (by omega), ← e3]; congr 1; omega
    · simp only [List.length_cons]
      rw [if_neg (by omega), ← e4]; congr 1; omega
    · by_cases e : j = n
      · subst e
        refine ⟨o, ⟨hops 0 o rfl, ?_, .inl ?_⟩⟩
        · simp only [if_true]; rw [if_neg (by omega), e1]
        · simp only [if_true]; rw [if_neg (by omega), e2]; exact ⟨hg, ho, hk⟩
      · obtain ⟨o', q1, q2, q3⟩ := e5 j (by omega) (by simp only [List.length_cons] at h4; omega)
        refine ⟨o', ⟨q1, ?_, ?_⟩⟩
        · simp only [if_neg e]; rw [if_neg (by omega)]; exact q2
        · simp only [if_neg e]; rw [if_neg (by omega : ¬ j + 1 = n)]; exact q3
  | skip n o rest t h t' h2 g want d hg hd hn hr ih =>
    intro hops
    obtain ⟨T, Hh, vv, e1, e2, e3, e4, e5⟩ := ih (fun i o hi => by have := hops (i + 1) o (by simpa using hi); rwa [show n + (i + 1) = n + 1 + i by omega] at this)
    refine ⟨fun j => if j = n then t else T j, fun j => if j = n then h else Hh j, fun j => if j = n then V.no else vv j, by simp, by simp, ?_, ?_, fun j h3 h4 => ?_⟩
    · simp only [List.length_cons]
      rw [if_neg (by omega), ← e3]; congr 1; omega
    · simp only [List.length_cons]
      rw [if_neg (by omega), ← e4]; congr 1; omega
    · by_cases e : j = n
      · subst e
        refine ⟨o, ⟨hops 0 o rfl, ?_, .inr ?_⟩⟩
        · simp only [if_true]; rw [if_neg (by omega), e1]
        · simp only [if_true]; rw [if_neg (by omega), e2]; exact ⟨g, want, d, hg, hd, hn, by first | rfl | trivial, rfl⟩
      · obtain ⟨o', q1, q2, q3⟩ := e5 j (by omega) (by simp only [List.length_cons] at h4; omega)
        refine ⟨o', ⟨q1, ?_, ?_⟩⟩
        · simp only [if_neg e]; rw [if_neg (by omega)]; exact q2
        · simp only [if_neg e]; rw [if_neg (by omega : ¬ j + 1 = n)]; exact q3
def toCome (listed : Array Bool) : Nat → Nat
  | 0 => 0
  | n + 1 => (if listed.getD n false then 0 else 1) + toCome listed n
theorem toCome_zero {listed : Array Bool} : ∀ {n : Nat}, toCome listed n = 0 → ∀ i, i < n → listed.getD i false = true
  | 0, _, i, hi => by omega
  | n + 1, h, i, hi => by
    simp only [toCome] at h
    by_cases e : i = n
    · subst e
      cases hl : listed.getD i false
      · rw [hl] at h; simp at h
      · rfl
    · exact toCome_zero (n := n) (by split at h <;> omega) i (by omega)
theorem toCome_pos {listed : Array Bool} : ∀ {n : Nat}, 0 < toCome listed n → ∃ i, i < n ∧ listed.getD i false = false ∧ ∀ k, k < i → listed.getD k false = true
  | 0, h => by simp [toCome] at h
  | n + 1, h => by
    by_cases hn : 0 < toCome listed n
    · obtain ⟨i, h1, h2, h3⟩ := toCome_pos hn
      exact ⟨i, by omega, h2, h3⟩
    · have h0 : toCome listed n = 0 := by omega
      simp only [toCome, h0] at h
      cases hl : listed.getD n false
      · exact ⟨n, by omega, hl, fun k hk => toCome_zero h0 k hk⟩
      · rw [hl] at h; simp at h
theorem getD_set {listed : Array Bool} {i j : Nat} (hi : i < listed.size) : (listed.setIfInBounds i true).getD j false = if j = i then true else listed.getD j false := by
  rw [Array.getD_eq_getD_getElem?, Array.getD_eq_getD_getElem?, Array.getElem?_setIfInBounds]
  by_cases e : i = j
  · subst e; simp [hi]
  · rw [if_neg e, if_neg (fun h => e h.symm)]
theorem toCome_set {listed : Array Bool} {i : Nat} (hi : i < listed.size) (h : listed.getD i false = false) : ∀ {n : Nat}, i < n → toCome listed n = toCome (listed.setIfInBounds i true) n + 1
  | 0, hn => by omega
  | n + 1, hn => by
    simp only [toCome, getD_set hi]
    by_cases e : n = i
    · subst e
      have : ∀ {m : Nat}, m ≤ n → toCome listed m = toCome (listed.setIfInBounds n true) m := by
        intro m
        induction m with
        | zero => intro _; rfl
        | succ m ih => intro hm; simp only [toCome, getD_set hi]; rw [if_neg (show ¬ m = n by omega), ih (by omega)]
      rw [← this (Nat.le_refl n), h]; simp; omega
    · rw [if_neg e, toCome_set hi h (by omega)]; omega
def Closed (ops : Array Oper) (L : Nat → Bool) : Prop := ∀ i o, L i = true → ops[i]? = some o → ∀ e ∈ o.after, Region.binds .any e = true → L e.on = true
theorem anc_in {ops : Array Oper} {L : Nat → Bool} {j : Nat} (hc : Closed ops L) (hj : ∀ o, ops[j]? = some o → ∀ e ∈ o.after, Region.binds .any e = true → L e.on = true) :
    ∀ {n : Nat} {l : List Nat}, (∀ i ∈ l, i = j ∨ L i = true) → ∀ i ∈ anc ops n l, i = j ∨ L i = true
  | 0, l, h, i, hi => h i hi
  | n + 1, l, h, i, hi => by
    refine anc_in hc hj (n := n) (fun k hk => ?_) i hi
    have mem : ∀ {m l : List Nat} {k : Nat}, k ∈ m.foldl addNew l → k ∈ l ∨ k ∈ m := by
      intro m
      induction m with
      | nil => intro l k h; exact .inl h
      | cons x m ih =>
        intro l k h
        rcases ih h with h | h
        · unfold addNew at h
          split at h
          · exact .inl h
          · rcases List.mem_append.1 h with h | h
            · exact .inl h
            · simp at h; subst h; exact .inr (List.mem_cons_self ..)
        · exact .inr (List.mem_cons_of_mem _ h)
    rcases mem hk with hk | hk
    · exact h k hk
    · simp only [List.mem_flatMap] at hk
      obtain ⟨q, hq, hk⟩ := hk
      split at hk
      · rename_i o ho
        simp only [List.mem_map, List.mem_filter] at hk
        obtain ⟨e, ⟨he, hb⟩, rfl⟩ := hk
        right
        rcases h q hq with h1 | h1
        · subst h1; exact hj o ho e (by simpa using he) hb
        · exact hc q o h1 ho e (by simpa using he) hb
      · cases hk
section
variable {P : Program}
theorem wanted_at {μ : Mu} {a : Act} {ops : Array Oper} {o : Oper} {g : Nat} {want : Bool} {d : Nat} {u : V} (hv : RepV μ u (a.tmps.getD d undef)) (hg : o.guard = some (g, want)) (hd : dstAt ops g = some d) :
    (u = .bool want → Region.wanted o (yielded ops a.tmps) = true) ∧ (u = .bool (!want) ∨ u = V.no → Region.wanted o (yielded ops a.tmps) = false) := by
  have hy : yielded ops a.tmps g = match a.tmps[d]? with | some (.bool b) => some b | _ => none := by
    unfold dstAt at hd
    simp only [yielded, hd, Option.bind_some]
    cases a.tmps[d]? with
    | none => rfl
    | some u => cases u <;> rfl
  rw [Array.getD_eq_getD_getElem?] at hv
  unfold Region.wanted
  simp only [hg, hy]
  refine ⟨fun h => ?_, fun h => ?_⟩
  · rw [h] at hv
    have := repBool hv
    cases hh : a.tmps[d]? with
    | none => rw [hh] at this; cases this
    | some u => rw [hh] at this; simp at this; subst this; simp
  · rcases h with h | h
    · rw [h] at hv
      have := repBool hv
      cases hh : a.tmps[d]? with
      | none => rw [hh] at this; cases this
      | some u => rw [hh] at this; simp at this; subst this; cases want <;> simp
    · rw [h] at hv
      obtain ⟨cs, hcs, _⟩ := hv
      cases hh : a.tmps[d]? with
      | none => simp
      | some u => rw [hh] at hcs; simp at hcs; subst hcs; simp
theorem nth_put {t : List V} {d : Option Tmp} {v : V} {i : Nat} : nth (putV t d v) i = if d = some i ∧ i < t.length then v else nth t i := by
  cases d with
  | none => simp [putV]
  | some d =>
    simp only [putV, nth_set, Option.some.injEq]
    by_cases e : i = d
    · subst e; simp
    · rw [if_neg (fun h => e h.1), if_neg (fun h => e h.1.symm)]
theorem len_put {t : List V} {d : Option Tmp} {v : V} : (putV t d v).length = t.length := by cases d <;> simp [putV]
def wrS (ops : Array Oper) (len d j : Nat) : Bool := match ops[j]? with | some o => decide (o.dst = some d ∧ d < len) | none => false
def wrH (cl : Nat → Cls) (ops : Array Oper) (j : Nat) : Bool := match ops[j]? with | some o => (match kindOf (cl j) o.op with | .g => true | .l => true | _ => false) | none => false
def Ext (a b : H) : Prop := a.length ≤ b.length ∧ ∀ i, i < a.length → b[i]? = a[i]?
theorem Ext.refl (a : H) : Ext a a := ⟨Nat.le_refl _, fun _ _ => rfl⟩
theorem Ext.trans {a b c : H} (h : Ext a b) (k : Ext b c) : Ext a c := ⟨Nat.le_trans h.1 k.1, fun i hi => (k.2 i (Nat.lt_of_lt_of_le hi h.1)).trans (h.2 i hi)⟩
theorem Ext.app (a g : H) : Ext a (a ++ g) := ⟨by simp, fun i hi => List.getElem?_append_left hi⟩
theorem Ext.agree {a b : H} (h : Ext a b) : Agree a b := fun i hi _ => (h.2 i hi).symm
theorem Ext.agree' {a b : H} (h : Ext a b) : Agree b a := fun i _ hi => h.2 i hi
theorem looks_tmp {ops : Array Oper} {o : Oper} {n : Nat} (h : Operand.tmp n ∈ o.op.operands.toList) : n ∈ o.looksAt ops := by
  unfold Oper.looksAt
  exact List.mem_append_left _ (List.mem_filterMap.2 ⟨.tmp n, h, rfl⟩)
theorem looks_guard {ops : Array Oper} {o : Oper} {g : Nat} {want : Bool} {d : Nat} (h : o.guard = some (g, want)) (hd : dstAt ops g = some d) : d ∈ o.looksAt ops := by
  unfold Oper.looksAt
  refine List.mem_append_right _ ?_
  unfold dstAt at hd
  simp [h, hd]
set_option maxHeartbeats 1000000 in
theorem draw_wp {cl : Nat → Cls} {ops : Array Oper} {Q : Exit → Act → World → Prop} {μ0 : Mu} {h0 : H} {w0 : World} {t t' : List V} {h h' : H} (hQ : ∀ μ a w, Inv μ0 h0 w0 μ ⟨t', h'⟩ a w → Q .normal a w)
    (hok : drawOk cl ops = true) (hl : Lex P cl ops 0 ops.toList t h t' h') {μ : Mu} {a : Act} {w : World} (hi : Inv μ0 h0 w0 μ ⟨t, h⟩ a w) :
    wpAny P .any ops Q ops.size (Array.replicate ops.size false) a w := by
  obtain ⟨T, Hh, vv, e1, e2, e3, e4, e5⟩ := places hl (fun i o ho => by simpa using ho)
  have hN : ops.toList.length = ops.size := by simp
  rw [hN, Nat.zero_add] at e3 e4
  simp only [hN, Nat.zero_add, Nat.zero_le, true_implies] at e5
  have hchk : ∀ j, j < ops.size → ∃ o, ops[j]? = some o ∧ (∀ e ∈ o.after, Region.binds .any e = true → e.on < j) ∧ ∀ i, i < j → pairOk cl ops j i = true := by
    intro j hj
    unfold drawOk at hok
    rw [List.all_eq_true] at hok
    have := hok j (by simpa using hj)
    simp only [Bool.and_eq_true, List.all_eq_true] at this
    obtain ⟨h1, h2⟩ := this
    obtain ⟨o, hp⟩ := e5 j hj
    refine ⟨o, hp.at_, ?_⟩
    rw [hp.at_] at h1
    simp only [Bool.and_eq_true, List.all_eq_true, Bool.or_eq_true, decide_eq_true_eq] at h1
    exact ⟨fun e he hb => (h1.1 e (by simpa using he)).resolve_left (by rw [hb]; decide), fun i hi => h2 i (by simpa using hi)⟩
  have hpair : ∀ i j oi oj, i < j → j < ops.size → ops[i]? = some oi → ops[j]? = some oj → (waits ops j i = true ∨ oi.apart ops oj = true) ∧ ((kindOf (cl i) oi.op).free (kindOf (cl j) oj.op) = true ∨ i ∈ anc ops ops.size [j]) := by
    intro i j oi oj hij hj hoi hoj
    obtain ⟨o, _, _, hp⟩ := hchk j hj
    have := hp i hij
    unfold pairOk at this
    rw [hoi, hoj] at this
    simpa using this
  have hTlen : ∀ j, j ≤ ops.size → (T j).length = t.length := by
    intro j
    induction j with
    | zero => intro _; rw [e1]
    | succ j ih => intro hj; obtain ⟨o, hp⟩ := e5 j (by omega); rw [hp.next, len_put]; exact ih (by omega)
  have hT : ∀ d j, j ≤ ops.size → lastv (wrS ops t.length d) vv (nth t d) (fun _ => true) j = nth (T j) d := by
    intro d j
    induction j with
    | zero => intro _; simp only [lastv, e1]
    | succ j ih =>
      intro hj
      obtain ⟨o, hp⟩ := e5 j (by omega)
      rw [hp.next, nth_put, hTlen j (by omega)]
      simp only [lastv, Bool.and_true, ih (by omega), wrS, hp.at_]
      by_cases hc : o.dst = some d ∧ d < t.length
      · simp [hc]
      · simp [hc]
  have hsame : ∀ j o, ops[j]? = some o → j < ops.size → wrH cl ops j = false → Hh (j + 1) = Hh j := by
    intro j o ho hj hw
    obtain ⟨o', hp⟩ := e5 j hj
    rw [hp.at_] at ho
    cases ho
    rcases hp.step with ⟨_, _, hk⟩ | ⟨_, _, _, _, _, _, _, hk⟩
    · unfold wrH at hw
      rw [hp.at_] at hw
      simp only at hw
      unfold KindOk at hk
      split at hk
      · exact hk.1
      · exact hk.1
      · exact hk
      · rename_i he; rw [he] at hw; cases hw
      · rename_i he; rw [he] at hw; cases hw
    · exact hk
  have hHh : ∀ j, j ≤ ops.size → lastv (wrH cl ops) (fun j => Hh (j + 1)) h (fun _ => true) j = Hh j := by
    intro j
    induction j with
    | zero => intro _; simp only [lastv, e2]
    | succ j ih =>
      intro hj
      obtain ⟨o, hp⟩ := e5 j (by omega)
      simp only [lastv, Bool.and_true, ih (by omega)]
      cases hw : wrH cl ops j
      · simp only [Bool.false_eq_true, if_false]; exact (hsame j o hp.at_ (by omega) hw).symm
      · simp
  have hext : ∀ a b, a ≤ b → b ≤ ops.size → (∀ i o, a ≤ i → i < b → ops[i]? = some o → kindOf (cl i) o.op ≠ .l) → Ext (Hh a) (Hh b) := by
    intro a b hab
    induction b with
    | zero =>
      intro _ _
      obtain rfl : a = 0 := by omega
      exact .refl _
    | succ b ih =>
      intro hb hno
      by_cases e : a = b + 1
      · subst e; exact .refl _
      · refine (ih (by omega) (by omega) (fun i o h1 h2 => hno i o h1 (by omega))).trans ?_
        obtain ⟨o, hp⟩ := e5 b (by omega)
        have hne := hno b o (by omega) (by omega) hp.at_
        rcases hp.step with ⟨_, _, hk⟩ | ⟨_, _, _, _, _, _, _, hk⟩
        · unfold KindOk at hk
          split at hk
          · rw [hk.1]; exact .refl _
          · rw [hk.1]; exact .refl _
          · rw [hk]; exact .refl _
          · obtain ⟨g, hg⟩ := hk; rw [hg]; exact .app _ g
          · rename_i he; exact absurd he hne
        · rw [hk]; exact .refl _
  have main : ∀ (fuel : Nat) (listed : Array Bool) (a : Act) (w : World), listed.size = ops.size → toCome listed ops.size = fuel → Closed ops (fun i => listed.getD i false) →
      (∃ μ, a.tmps.size = t.length ∧ (∀ d, RepV μ (lastv (wrS ops t.length d) vv (nth t d) (fun i => listed.getD i false) ops.size) (a.tmps.getD d undef)) ∧ a.defers = [] ∧
        Ev μ0 h0 w0 μ (lastv (wrH cl ops) (fun j => Hh (j + 1)) h (fun i => listed.getD i false) ops.size) w) → wpAny P .any ops Q fuel listed a w := by
    intro fuel
    induction fuel with
    | zero =>
      intro listed a w hsz hcnt hcl ⟨μ, s1, s2, s3, s4⟩
      have hall := toCome_zero hcnt
      refine ⟨?_, ?_⟩
      · rw [List.eq_nil_iff_forall_not_mem]
        intro i hi
        obtain ⟨h1, o, ho, _⟩ := mem_ready.1 hi
        have hlt : i < ops.size := (Array.getElem?_eq_some_iff.1 ho).1
        have := hall i hlt
        rw [getD_both h1] at this
        cases this
      · refine hQ μ a w ⟨⟨by rw [s1, ← e3, hTlen _ (Nat.le_refl _)], fun d => ?_⟩, s3, ?_⟩
        · have := s2 d
          rw [lastv_congr (L' := fun _ => true) fun i hi _ => hall i hi, hT d _ (Nat.le_refl _), e3] at this
          exact this
        · rw [lastv_congr (L' := fun _ => true) fun i hi _ => hall i hi, hHh _ (Nat.le_refl _), e4] at s4
          exact s4
    | succ fuel ih =>
      intro listed a w hsz hcnt hcl ⟨μ, s1, s2, s3, s4⟩
      refine ⟨fun h0 => ?_, fun j hj => ?_⟩
      · obtain ⟨i, h1, h2, h3⟩ := toCome_pos (listed := listed) (n := ops.size) (by omega)
        obtain ⟨o, ho, he, _⟩ := hchk i h1
        have : i ∈ Region.ready .any ops listed := mem_ready.2 ⟨by rw [Array.getD_eq_getD_getElem?] at h2 ⊢; rw [Array.getElem?_eq_getElem (by omega)] at h2 ⊢; simpa using h2, o, ho, fun e hm hb => h3 e.on (he e hm hb)⟩
        rw [h0] at this
        cases this
      · obtain ⟨hun, o, ho, hall⟩ := mem_ready.1 hj
        have hun' : listed.getD j false = false := getD_both hun
        have hjN : j < ops.size := (Array.getElem?_eq_some_iff.1 ho).1
        obtain ⟨o', hp⟩ := e5 j hjN
        have hoo : o' = o := by have := hp.at_; rw [ho] at this; exact (Option.some.inj this).symm
        subst hoo
        have hready : ∀ o, ops[j]? = some o → ∀ e ∈ o.after, Region.binds .any e = true → listed.getD e.on false = true := fun o1 ho1 => by
          rw [ho] at ho1; cases ho1; exact hall
        have hwait : ∀ i, waits ops j i = true → listed.getD i false = true := by
          intro i hw
          unfold waits at hw
          rw [ho] at hw
          simp only [List.any_eq_true, Bool.and_eq_true, beq_iff_eq] at hw
          obtain ⟨e, he, hb, rfl⟩ := hw
          exact hall e (by simpa using he) hb
        have hback : ∀ i oi, ops[i]? = some oi → listed.getD i false = true → waits ops i j = false := by
          intro i oi hoi hli
          cases hw : waits ops i j
          · rfl
          · unfold waits at hw
            rw [hoi] at hw
            simp only [List.any_eq_true, Bool.and_eq_true, beq_iff_eq] at hw
            obtain ⟨e, he, hb, he2⟩ := hw
            have := hcl i oi hli hoi e (by simpa using he) hb
            rw [he2] at this
            simp only [hun'] at this
            cases this
        have hancj : ∀ i, i ∈ anc ops ops.size [j] → i ≠ j → listed.getD i false = true := fun i hm hne =>
          (anc_in hcl hready (fun k hk => by simp at hk; exact .inl hk) i hm).resolve_left hne
        have hanci : ∀ i, listed.getD i false = true → j ∉ anc ops ops.size [i] := by
          intro i hli hm
          have := anc_in (j := i) hcl (fun o1 ho1 => hcl i o1 hli ho1) (fun k hk => by simp at hk; exact .inl hk) j hm
          rcases this with h1 | h1
          · subst h1; rw [hun'] at hli; cases hli
          · simp only [hun'] at h1; cases h1
        have hslot : ∀ d, d ∈ o'.looksAt ops → lastv (wrS ops t.length d) vv (nth t d) (fun i => listed.getD i false) ops.size = nth (T j) d := by
          intro d hd
          rw [← hT d j (by omega)]
          refine lastv_all (by omega) (fun i hij hw => ?_) (fun i hij hiN hw => ?_)
          · obtain ⟨oi, hpi⟩ := e5 i (by omega)
            simp only [wrS, hpi.at_, decide_eq_true_eq] at hw
            rcases (hpair i j oi o' hij hjN hpi.at_ ho).1 with h1 | h1
            · exact hwait i h1
            · exact absurd hd ((Oper.apart_spec h1).1 d hw.1)
          · by_cases e : i = j
            · subst e; exact hun'
            · obtain ⟨oi, hpi⟩ := e5 i hiN
              simp only [wrS, hpi.at_, decide_eq_true_eq] at hw
              cases hli : listed.getD i false
              · rfl
              · rcases (hpair j i o' oi (by omega) hiN ho hpi.at_).1 with h1 | h1
                · rw [hback i oi hpi.at_ hli] at h1; cases h1
                · exact absurd hd ((Oper.apart_spec h1).2.2 d hw.1)
        have hL' : ∀ i, i ≠ j → (listed.setIfInBounds j true).getD i false = listed.getD i false := fun i hne => by rw [getD_set (by omega), if_neg hne]
        have hLj : (listed.setIfInBounds j true).getD j false = true := by rw [getD_set (by omega), if_pos rfl]
        have hcl' : Closed ops (fun i => (listed.setIfInBounds j true).getD i false) := by
          intro i oi hli hoi e he hb
          have key : listed.getD e.on false = true := by
            by_cases e1 : i = j
            · subst e1; exact hready oi hoi e he hb
            · rw [show (fun i => (listed.setIfInBounds j true).getD i false) i = listed.getD i false from hL' i e1] at hli
              exact hcl i oi hli hoi e he hb
          show (listed.setIfInBounds j true).getD e.on false = true
          rw [getD_set (by omega)]
          split
          · rfl
          · exact key
        have hslot' : ∀ (v : V) d, v = vv j → lastv (wrS ops t.length d) vv (nth t d) (fun i => (listed.setIfInBounds j true).getD i false) ops.size =
            if o'.dst = some d ∧ d < t.length then v else lastv (wrS ops t.length d) vv (nth t d) (fun i => listed.getD i false) ops.size := by
          intro v d hv
          rw [lastv_set (L := fun i => listed.getD i false) hL' hun' hLj hjN (fun i hij hiN hli hw => ?_)]
          · subst hv
            simp only [wrS, ho]
            by_cases hc : o'.dst = some d ∧ d < t.length
            · simp [hc]
            · simp [hc]
          · obtain ⟨oi, hpi⟩ := e5 i hiN
            simp only [wrS, hpi.at_, decide_eq_true_eq] at hw
            simp only [wrS, ho, decide_eq_false_iff_not]
            intro hc
            rcases (hpair j i o' oi hij hiN ho hpi.at_).1 with h1 | h1
            · rw [hback i oi hpi.at_ hli] at h1; cases h1
            · exact (Oper.apart_spec h1).2.1 d hc.1 hw.1
        have hcnt' : toCome (listed.setIfInBounds j true) ops.size = fuel := by
          have := toCome_set (listed := listed) (i := j) (by omega) hun' (n := ops.size) hjN
          omega
        have hheap' : ∀ (b : Bool), wrH cl ops j = b → lastv (wrH cl ops) (fun j => Hh (j + 1)) h (fun i => (listed.setIfInBounds j true).getD i false) ops.size =
            if b then Hh (j + 1) else lastv (wrH cl ops) (fun j => Hh (j + 1)) h (fun i => listed.getD i false) ops.size := by
          intro b hb
          rw [lastv_set (L := fun i => listed.getD i false) hL' hun' hLj hjN (fun i hij hiN hli hw => ?_), hb]
          obtain ⟨oi, hpi⟩ := e5 i hiN
          cases hwj : wrH cl ops j
          · rfl
          · exfalso
            rcases (hpair j i o' oi hij hiN ho hpi.at_).2 with h1 | h1
            · simp only [wrH, ho, hpi.at_] at hw hwj
              revert h1 hw hwj
              cases kindOf (cl j) o'.op <;> cases kindOf (cl i) oi.op <;> simp [Kd.free]
            · exact hanci i hli h1
        have hexact : kindOf (cl j) o'.op ≠ .q → kindOf (cl j) o'.op ≠ .s → lastv (wrH cl ops) (fun j => Hh (j + 1)) h (fun i => listed.getD i false) ops.size = Hh j := by
          intro hk hks
          rw [← hHh j (by omega)]
          refine lastv_all (by omega) (fun i hij hw => ?_) (fun i hij hiN hw => ?_)
          · obtain ⟨oi, hpi⟩ := e5 i (by omega)
            rcases (hpair i j oi o' hij hjN hpi.at_ ho).2 with h1 | h1
            · exfalso
              simp only [wrH, hpi.at_] at hw
              revert h1 hw hk hks
              cases kindOf (cl j) o'.op <;> cases kindOf (cl i) oi.op <;> simp [Kd.free]
            · exact hancj i h1 (by omega)
          · by_cases e : i = j
            · subst e; exact hun'
            · obtain ⟨oi, hpi⟩ := e5 i hiN
              cases hli : listed.getD i false
              · rfl
              · exfalso
                rcases (hpair j i o' oi (by omega) hiN ho hpi.at_).2 with h1 | h1
                · simp only [wrH, hpi.at_] at hw
                  revert h1 hw hk hks
                  cases kindOf (cl j) o'.op <;> cases kindOf (cl i) oi.op <;> simp [Kd.free]
                · exact hanci i hli h1
        have hagree : kindOf (cl j) o'.op = .q → Agree (Hh j) (lastv (wrH cl ops) (fun j => Hh (j + 1)) h (fun i => listed.getD i false) ops.size) := by
          intro hk
          obtain ⟨s, hs1, hs2, hs3⟩ := lastv_at (wr := wrH cl ops) (val := fun j => Hh (j + 1)) (x := h) (L := fun i => listed.getD i false) ops.size
          have hval : lastv (wrH cl ops) (fun j => Hh (j + 1)) h (fun i => listed.getD i false) ops.size = Hh s := by
            rcases hs3 with ⟨q1, q2⟩ | ⟨q, q1, q2, q3, q4⟩
            · rw [q2, q1, e2]
            · rw [q4, q1]
          rw [hval]
          rcases Nat.le_total s j with hle | hle
          · refine (hext s j hle (by omega) fun i oi h1 h2 hoi hkl => ?_).agree'
            have hw : wrH cl ops i = true := by simp only [wrH, hoi, hkl]
            have hun2 := hs2 i h1 (by omega) hw
            rcases (hpair i j oi o' h2 hjN hoi ho).2 with h3 | h3
            · rw [hkl, hk] at h3; cases h3
            · have := hancj i h3 (by omega)
              rw [hun2] at this; cases this
          · refine (hext j s hle hs1 fun i oi h1 h2 hoi hkl => ?_).agree
            by_cases e : i = j
            · subst e; rw [ho] at hoi; cases hoi; rw [hk] at hkl; cases hkl
            · have hw : wrH cl ops i = true := by simp only [wrH, hoi, hkl]
              have hunl : listed.getD i false = false := by
                cases hli : listed.getD i false
                · rfl
                · exfalso
                  rcases (hpair j i o' oi (by omega) (by omega) ho hoi).2 with h3 | h3
                  · rw [hkl, hk] at h3; cases h3
                  · exact hanci i hli h3
              rcases hs3 with ⟨q1, q2⟩ | ⟨q, q1, q2, q3, q4⟩
              · omega
              · by_cases e2 : i = q
                · subst e2; simp only [hunl] at q3; cases q3
                · obtain ⟨oq, hpq⟩ := e5 q (by omega)
                  rcases (hpair i q oi oq (by omega) (by omega) hoi hpq.at_).2 with h3 | h3
                  · simp only [wrH, hpq.at_] at q2
                    rw [hkl] at h3
                    revert h3 q2
                    cases kindOf (cl q) oq.op <;> simp [Kd.free]
                  · have := anc_in (j := q) hcl (fun o1 ho1 => hcl q o1 q3 ho1) (fun k hk => by simp at hk; exact .inl hk) i h3
                    rcases this with h4 | h4
                    · exact e2 h4
                    · simp only [hunl] at h4; cases h4
        unfold wpOp
        simp only [ho]
        rcases hp.step with ⟨hg, hop, hk⟩ | ⟨g, want, d, hg, hd, hn, hv, hh⟩
        · -- carried out
          have hw : Region.wanted o' (yielded ops a.tmps) = true := by
            cases hgd : o'.guard with
            | none => unfold Region.wanted; rw [hgd]
            | some p =>
              obtain ⟨g, want⟩ := p
              obtain ⟨d, hd, hn⟩ := hg g want hgd
              have hs := s2 d
              rw [hslot d (looks_guard hgd hd)] at hs
              exact (wanted_at hs hgd hd).1 hn
          rw [if_pos hw]
          left
          have hev : ∀ x ∈ o'.op.operands.toList, RepV μ (ev (T j) x) (a.eval x) := by
            intro x hx
            cases x with
            | tmp n =>
              have hs := s2 n
              rw [hslot n (looks_tmp hx)] at hs
              exact hs
            | const v => exact absV_rep μ v
            | global g => trivial
            | func f => exact rfl
          have close : ∀ (h1 h2 : H), OpOk P o' (T j) h1 (vv j) h2 → lastv (wrH cl ops) (fun j => Hh (j + 1)) h (fun i => listed.getD i false) ops.size = h1 →
              lastv (wrH cl ops) (fun j => Hh (j + 1)) h (fun i => (listed.setIfInBounds j true).getD i false) ops.size = h2 → o'.wp P a w (wpAny P .any ops Q fuel (listed.setIfInBounds j true)) Q := by
            intro h1 h2 hop e6 e7
            rw [e6] at s4
            refine hop μ a w hev s4.rel _ Q fun cv w' hgo => ?_
            obtain ⟨μ', he, hcv⟩ := hgo
            refine ih _ _ w' (by simp [hsz]) hcnt' hcl' ⟨μ', ?_, fun d => ?_, ?_, ?_⟩
            · cases o'.dst <;> simp [Act.put, s1]
            · rw [hslot' _ d rfl]
              split
              · rename_i hc
                rw [hc.1]
                simp only [Act.put]
                rw [Array.getD_eq_getD_getElem?, Array.getElem?_setIfInBounds]
                simp [s1, hc.2, hcv]
              · rename_i hc
                have hs := (s2 d).pre he.pre
                cases hd : o'.dst with
                | none => simp only [Act.put]; exact hs
                | some d' =>
                  simp only [Act.put]
                  rw [Array.getD_eq_getD_getElem?] at hs ⊢
                  rw [Array.getElem?_setIfInBounds]
                  split
                  · rename_i e8
                    subst e8
                    split
                    · rename_i hlt; exact absurd ⟨hd, by rw [← s1]; exact hlt⟩ hc
                    · rename_i hlt
                      rw [Array.getElem?_eq_none (by omega)] at hs
                      exact hs
                  · exact hs
            · cases o'.dst <;> exact s3
            · rw [e7]; exact s4.trans he
          cases hkd : kindOf (cl j) o'.op with
          | s =>
            rw [hkd] at hk
            have hwj : wrH cl ops j = false := by simp only [wrH, ho, hkd]
            refine close _ _ (hk.2 _) rfl ?_
            rw [hheap' false hwj]; rfl
          | q =>
            rw [hkd] at hk
            have hwj : wrH cl ops j = false := by simp only [wrH, ho, hkd]
            refine close _ _ (hk.2 _ (hagree hkd)) rfl ?_
            rw [hheap' false hwj]; rfl
          | n =>
            rw [hkd] at hk
            have hwj : wrH cl ops j = false := by simp only [wrH, ho, hkd]
            have hx := hexact (by rw [hkd]; simp) (by rw [hkd]; simp)
            refine close _ _ hop hx ?_
            rw [hheap' false hwj, hx]; exact hk.symm
          | g =>
            have hwj : wrH cl ops j = true := by simp only [wrH, ho, hkd]
            refine close _ _ hop (hexact (by rw [hkd]; simp) (by rw [hkd]; simp)) ?_
            rw [hheap' true hwj]; rfl
          | l =>
            have hwj : wrH cl ops j = true := by simp only [wrH, ho, hkd]
            refine close _ _ hop (hexact (by rw [hkd]; simp) (by rw [hkd]; simp)) ?_
            rw [hheap' true hwj]; rfl
        · -- passed over
          have hs := s2 d
          rw [hslot d (looks_guard hg hd)] at hs
          have hw := (wanted_at hs hg hd).2 hn
          rw [if_neg (by rw [hw]; simp)]
          refine ih _ _ w (by simp [hsz]) hcnt' hcl' ⟨μ, ?_, fun d => ?_, ?_, ?_⟩
          · cases o'.dst <;> simp [Act.put, s1]
          · rw [hslot' _ d rfl]
            split
            · rename_i hc
              rw [hc.1, hv]
              simp only [Act.put]
              rw [Array.getD_eq_getD_getElem?, Array.getElem?_setIfInBounds]
              simp [s1, hc.2, RepV.no]
            · rename_i hc
              have hs := s2 d
              cases hd : o'.dst with
              | none => simp only [Act.put]; exact hs
              | some d' =>
                simp only [Act.put]
                rw [Array.getD_eq_getD_getElem?] at hs ⊢
                rw [Array.getElem?_setIfInBounds]
                split
                · rename_i e8
                  subst e8
                  split
                  · rename_i hlt; exact absurd ⟨hd, by rw [← s1]; exact hlt⟩ hc
                  · rename_i hlt
                    rw [Array.getElem?_eq_none (by omega)] at hs
                    exact hs
                · exact hs
          · cases o'.dst <;> exact s3
          · cases hwj : wrH cl ops j
            · rw [hheap' false hwj]; exact s4
            · rw [hheap' true hwj]
              simp only [if_true, hh]
              have hkq : kindOf (cl j) o'.op ≠ .q := by
                intro hk
                simp only [wrH, ho, hk] at hwj
                cases hwj
              have hks : kindOf (cl j) o'.op ≠ .s := by
                intro hk
                simp only [wrH, ho, hk] at hwj
                cases hwj
              rw [← hexact hkq hks]
              exact s4
  refine main ops.size _ a w (by simp) ?_ ?_ ⟨μ, hi.slots.1, fun d => ?_, hi.defers, ?_⟩
  · have : ∀ n, n ≤ ops.size → toCome (Array.replicate ops.size false) n = n := by
      intro n
      induction n with
      | zero => intro _; rfl
      | succ n ih => intro hn; simp only [toCome, ih (by omega), getD_replicate_false]; simp; omega
    exact this _ (Nat.le_refl _)
  · intro i o hli; simp only [getD_replicate_false] at hli; cases hli
  · rw [lastv_none fun i => getD_replicate_false _ i]
    exact hi.slots.2 d
  · rw [lastv_none fun i => getD_replicate_false _ i]
    exact hi.ev
end
end Go.Proofs.Ytpeplbbphpamhaa.Ab

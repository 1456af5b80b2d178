/- Whole numbers by digits of 32 bits: their values; loops by a measure; functions of digits. Only lemmas. -/
import Derived.Test.YtbhfjdlhhjeknaaBase
import Derived.Test.YtbhfjdlhhjeknaaAbBig
namespace Go.Proofs.Ytbhfjdlhhjeknaa.Ab
set_option linter.unusedVariables false
set_option linter.unusedSimpArgs false
open Go

/-! ### Loops -/
theorem loop_wf {R σ : Type} (L : Nat → σ → Option R) (inv : σ → Prop) (mu : σ → Nat) (Good : Option R → Prop)
    (hs : ∀ M s, inv s → Good (L (M + 1) s) ∨ ∃ s', inv s' ∧ mu s' < mu s ∧ L (M + 1) s = L M s') : ∀ k s, inv s → mu s ≤ k → ∀ M, Good (L (k + 1 + M) s) := by
  intro k
  induction k with
  | zero =>
    intro s hi hm M
    rw [show 0 + 1 + M = M + 1 by omega]
    rcases hs M s hi with h | ⟨s', _, h2, _⟩
    · exact h
    · omega
  | succ k ih =>
    intro s hi hm M
    rw [show k + 1 + 1 + M = (k + 1 + M) + 1 by omega]
    rcases hs (k + 1 + M) s hi with h | ⟨s', h1, h2, h3⟩
    · exact h
    · rw [h3]
      exact ih s' h1 (by omega) M
theorem loop_fuel {R σ : Type} (L : Nat → σ → Option R) (inv : σ → Prop) (mu : σ → Nat) (Good : Option R → Prop)
    (hs : ∀ M s, inv s → Good (L (M + 1) s) ∨ ∃ s', inv s' ∧ mu s' < mu s ∧ L (M + 1) s = L M s') {s : σ} (hi : inv s) {N : Nat} (hN : mu s < N) : Good (L N s) := by
  have := loop_wf L inv mu Good hs (mu s) s hi (Nat.le_refl _) (N - (mu s + 1))
  rwa [show mu s + 1 + (N - (mu s + 1)) = N by omega] at this

/-! ### Digits -/
theorem okD.tail {d : Int} {D : List Int} (h : okD (d :: D)) : okD D := fun x hx => h x (List.mem_cons_of_mem _ hx)
theorem okD.head {d : Int} {D : List Int} (h : okD (d :: D)) : 0 ≤ d ∧ d < 4294967296 := h d (List.mem_cons_self ..)
theorem okD.get {D : List Int} (h : okD D) {i : Nat} {x : Int} (e : D[i]? = some x) : 0 ≤ x ∧ x < 4294967296 := h x (List.mem_of_getElem? e)
theorem okD.set {D : List Int} (h : okD D) (i : Nat) {x : Int} (hx : 0 ≤ x ∧ x < 4294967296) : okD (D.set i x) := by
  intro y hy
  rcases List.mem_or_eq_of_mem_set hy with h1 | h1
  · exact h y h1
  · rw [h1]; exact hx
theorem okD.snoc {D : List Int} (h : okD D) {x : Int} (hx : 0 ≤ x ∧ x < 4294967296) : okD (D ++ [x]) := by
  intro y hy
  rcases List.mem_append.1 hy with h1 | h1
  · exact h y h1
  · simp at h1; rw [h1]; exact hx
theorem okD.take {D : List Int} (h : okD D) (n : Nat) : okD (D.take n) := fun x hx => h x (List.mem_of_mem_take hx)
theorem okD.zeros (n : Nat) : okD (List.replicate n 0) := by
  intro x hx
  have := List.eq_of_mem_replicate hx
  omega
theorem nv_zeros : ∀ n, nv (List.replicate n 0) = 0
  | 0 => rfl
  | n + 1 => by rw [List.replicate_succ]; simp [nv, nv_zeros n]

theorem bpow_pos (i : Nat) : 0 < 4294967296 ^ i := Nat.pow_pos (by decide)
theorem nv_lt : ∀ {D : List Int}, okD D → nv D < 4294967296 ^ D.length
  | [], _ => by simp [nv]
  | d :: D, h => by
    have h1 := nv_lt h.tail
    have h2 := h.head
    simp only [nv, List.length_cons, Nat.pow_succ]
    omega
theorem nv_append : ∀ (D E : List Int), nv (D ++ E) = nv D + 4294967296 ^ D.length * nv E
  | [], E => by simp [nv]
  | d :: D, E => by
    simp only [List.cons_append, nv, nv_append D E, List.length_cons, Nat.pow_succ, Nat.mul_add]
    rw [Nat.mul_comm (4294967296 ^ D.length) 4294967296, Nat.mul_assoc]
    omega
theorem nv_snoc (D : List Int) (x : Int) : nv (D ++ [x]) = nv D + 4294967296 ^ D.length * x.toNat := by
  rw [nv_append]
  simp [nv]
theorem nv_set : ∀ {D : List Int} {i : Nat} {x : Int}, D[i]? = some x → ∀ d : Int, nv (D.set i d) + 4294967296 ^ i * x.toNat = nv D + 4294967296 ^ i * d.toNat
  | [], i, x, h, d => by simp at h
  | y :: D, 0, x, h, d => by
    simp at h
    subst h
    simp only [List.set_cons_zero, nv, Nat.pow_zero, Nat.one_mul]
    omega
  | y :: D, i + 1, x, h, d => by
    have h1 := nv_set (D := D) (i := i) (x := x) (by simpa using h) d
    simp only [List.set_cons_succ, nv, Nat.pow_succ]
    have h2 := congrArg (4294967296 * ·) h1
    simp only [Nat.mul_add] at h2
    have e : ∀ z, 4294967296 ^ i * 4294967296 * z = 4294967296 * (4294967296 ^ i * z) := fun z => by rw [Nat.mul_comm (4294967296 ^ i) 4294967296, Nat.mul_assoc]
    rw [e, e]
    omega
theorem nv_get : ∀ {D : List Int} {i : Nat}, okD D → i < D.length → D[i]? = some ((nv D / 4294967296 ^ i % 4294967296 : Nat) : Int)
  | [], i, _, h => by simp at h
  | d :: D, 0, h, _ => by
    have := h.head
    simp only [List.getElem?_cons_zero, nv, Nat.pow_zero, Nat.div_one, Option.some.injEq]
    omega
  | d :: D, i + 1, h, hi => by
    have h1 := nv_get h.tail (i := i) (by simpa using hi)
    have h2 := h.head
    simp only [List.getElem?_cons_succ, nv]
    rw [h1, Nat.pow_succ, Nat.mul_comm (4294967296 ^ i) 4294967296, ← Nat.div_div_eq_div_mul]
    rw [show (d.toNat + 4294967296 * nv D) / 4294967296 = nv D by omega]
/-- The value of a digit, and none behind the end. -/
def dgt (v i : Nat) : Nat := v / 4294967296 ^ i % 4294967296
theorem dgt_lt (v i : Nat) : dgt v i < 4294967296 := Nat.mod_lt _ (by decide)
theorem nv_dgt {D : List Int} {i : Nat} {x : Int} (h : okD D) (e : D[i]? = some x) : x = ((dgt (nv D) i : Nat) : Int) := by
  have := nv_get h (getElem?_lt e)
  rw [e] at this
  exact Option.some.inj this
theorem dgt_high {v i k : Nat} (h : v < 4294967296 ^ k) (hi : k ≤ i) : dgt v i = 0 := by
  unfold dgt
  have : 4294967296 ^ k ≤ 4294967296 ^ i := Nat.pow_le_pow_right (by decide) hi
  rw [Nat.div_eq_of_lt (by omega), Nat.zero_mod]
theorem mod_succ (v i : Nat) : v % 4294967296 ^ (i + 1) = v % 4294967296 ^ i + 4294967296 ^ i * dgt v i := by
  rw [Nat.pow_succ, Nat.mod_mul]
  rfl
theorem mod_all {v i k : Nat} (h : v < 4294967296 ^ k) (hi : k ≤ i) : v % 4294967296 ^ i = v := by
  have : 4294967296 ^ k ≤ 4294967296 ^ i := Nat.pow_le_pow_right (by decide) hi
  exact Nat.mod_eq_of_lt (by omega)
theorem nv_take_drop (D : List Int) (k : Nat) (hk : k ≤ D.length) : nv D = nv (D.take k) + 4294967296 ^ k * nv (D.drop k) := by
  have h := nv_append (D.take k) (D.drop k)
  rw [List.take_append_drop, List.length_take, Nat.min_eq_left hk] at h
  exact h
theorem nv_take {D : List Int} (h : okD D) (k : Nat) (hk : k ≤ D.length) : nv (D.take k) = nv D % 4294967296 ^ k := by
  have h1 := nv_take_drop D k hk
  have h2 := nv_lt (h.take k)
  rw [List.length_take, Nat.min_eq_left hk] at h2
  rw [h1, Nat.add_mul_mod_self_left, Nat.mod_eq_of_lt h2]
theorem drop_set {D : List Int} {i k : Nat} (h : i < k) (x : Int) : (D.set i x).drop k = D.drop k := by
  rw [List.drop_set]
  simp [h]
theorem drop_zero {D : List Int} {k i : Nat} {x : Int} (hd : okD D) (h : nv (D.drop k) = 0) (hi : k ≤ i) (e : D[i]? = some x) : x = 0 := by
  have hk : k ≤ D.length := by have := getElem?_lt e; omega
  have h1 := nv_take_drop D k hk
  have h2 := nv_lt (hd.take k)
  rw [List.length_take, Nat.min_eq_left hk] at h2
  rw [h, Nat.mul_zero, Nat.add_zero] at h1
  have h3 := nv_dgt hd e
  rw [dgt_high (k := k) (by omega) hi] at h3
  exact h3
theorem drop_le {D : List Int} {k j : Nat} (h : nv (D.drop k) = 0) (hk : k ≤ j) (hj : j ≤ D.length) : nv (D.drop j) = 0 := by
  have h1 := nv_take_drop (D.drop k) (j - k) (by simp; omega)
  rw [h, List.drop_drop, show k + (j - k) = j by omega] at h1
  have h2 := bpow_pos (j - k)
  rcases Nat.mul_eq_zero.1 (show 4294967296 ^ (j - k) * nv (D.drop j) = 0 by omega) with h3 | h3
  · omega
  · exact h3
/-- As many digits of a number as told. -/
def dg : Nat → Nat → List Int
  | 0, _ => []
  | k + 1, v => ((v % 4294967296 : Nat) : Int) :: dg k (v / 4294967296)
theorem dg_len : ∀ k v, (dg k v).length = k
  | 0, _ => rfl
  | k + 1, v => by simp [dg, dg_len k]
theorem dg_ok : ∀ k v, okD (dg k v)
  | 0, _ => fun x hx => by cases hx
  | k + 1, v => fun x hx => by
    rcases List.mem_cons.1 hx with h | h
    · omega
    · exact dg_ok k _ x h
theorem nv_dg : ∀ k v, nv (dg k v) = v % 4294967296 ^ k
  | 0, v => by simp [dg, nv, Nat.mod_one]
  | k + 1, v => by
    simp only [dg, nv, nv_dg k]
    rw [Nat.pow_succ, Nat.mul_comm (4294967296 ^ k) 4294967296, Nat.mod_mul]
    omega
theorem dg_get {k v i : Nat} (h : i < k) : (dg k v)[i]? = some ((dgt v i : Nat) : Int) := by
  have h1 := nv_get (dg_ok k v) (i := i) (by rw [dg_len]; exact h)
  rw [h1, nv_dg]
  unfold dgt
  have h2 : 4294967296 ^ k = 4294967296 ^ i * (4294967296 ^ (k - i - 1) * 4294967296) := by rw [← Nat.pow_succ, ← Nat.pow_add]; congr 1; omega
  rw [h2, Nat.mod_mul_right_div_self, Nat.mul_comm (4294967296 ^ (k - i - 1)) 4294967296, Nat.mod_mul_right_mod]
theorem eq_dg : ∀ {D : List Int}, okD D → D = dg D.length (nv D)
  | [], _ => rfl
  | d :: D, h => by
    have h1 := h.head
    simp only [List.length_cons, dg, nv]
    rw [show (d.toNat + 4294967296 * nv D) / 4294967296 = nv D by omega, ← eq_dg h.tail]
    congr 1
    omega
/-- Without a last digit 0, the length is that of the value. -/
theorem trim_ge {D : List Int} (hd : okD D) (hl : D.getLast? ≠ some 0) (hn : 0 < D.length) : 4294967296 ^ (D.length - 1) ≤ nv D := by
  obtain ⟨x, hx⟩ : ∃ x, D[D.length - 1]? = some x := ⟨_, List.getElem?_eq_getElem (by omega)⟩
  have h1 : x ≠ 0 := by
    intro e
    rw [List.getLast?_eq_getElem?, hx, e] at hl
    exact hl rfl
  have h2 := nv_dgt hd hx
  apply Nat.le_of_not_lt
  intro h3
  rw [dgt_high h3 (Nat.le_refl _)] at h2
  exact h1 h2
theorem trim_len {D : List Int} (hd : okD D) (hl : D.getLast? ≠ some 0) {k : Nat} (h : nv D < 4294967296 ^ k) : D.length ≤ k := by
  apply Nat.le_of_not_lt
  intro h1
  have h2 := trim_ge hd hl (by omega)
  have h3 : 4294967296 ^ k ≤ 4294967296 ^ (D.length - 1) := Nat.pow_le_pow_right (by decide) (by omega)
  omega
theorem wrap32 (n : Nat) : IntKind.u32.wrap (n : Int) = ((n % 4294967296 : Nat) : Int) := by
  simp [IntKind.wrap, IntKind.signed, IntKind.bits]
theorem wrap64 {n : Nat} (h : n < 18446744073709551616) : IntKind.u64.wrap (n : Int) = (n : Int) := by
  simp only [IntKind.wrap, IntKind.signed, IntKind.bits]
  first | omega | (simp; omega)
theorem shr32 (x : Nat) : Int.fdiv (x : Int) (2 ^ 32) = ((x / 4294967296 : Nat) : Int) := by
  rw [Int.fdiv_eq_ediv_of_nonneg _ (by decide)]
  rfl
theorem mulB {x y : Nat} (hx : x < 4294967296) (hy : y < 4294967296) : x * y ≤ 18446744065119617025 := by
  have := Nat.mul_le_mul (show x ≤ 4294967295 by omega) (show y ≤ 4294967295 by omega)
  omega

/-! ### Functions of digits -/
theorem FnT.runs {f : FuncId} {fn : Func} {code : Code} {fns : Fns} (hfn : ∀ f, FnT Try.prog f (fns f)) (hf : Try.prog.funcs[f]? = some fn) (hb : fn.body = some code) (hn : (fn.name == "runtime.NumGoroutine") = false) (an : Ann) (N : Nat) :
    FnT Try.prog f (fun vs h => T.of (run ty fns an N fn vs h)) :=
  fnT hfn hf hb hn an fun vs h v h' e => ⟨N, by rw [T.run_of] at e; exact e⟩
theorem open2 {μ : Mu} {w : World} {D E : List Int} {c1 c2 : Value} (hr : Rel μ [] w) (h1 : SlZ μ.z D c1) (h2 : SlZ μ.z E c2) :
    ∃ m1 m2, RoF μ.z m1 D ∧ RoF μ.z m2 E ∧ Rel (μ.app [m1, m2]) [.at false (.int .u32 D), .at false (.int .u32 E)] w ∧ RepVs (μ.app [m1, m2]) [.ro 0 D.length, .ro 1 E.length] [c1, c2] := by
  obtain ⟨m1, f1, r1, a1⟩ := hr.thaw h1
  obtain ⟨m2, f2, r2, a2⟩ := r1.thaw h2
  refine ⟨m1, m2, f1, f2, ?_, ?_⟩
  · have e : (μ.app [m1]).app [m2] = μ.app [m1, m2] := by simp [Mu.app]
    rw [e] at r2
    exact r2
  · have e : (μ.app [m1]).app [m2] = μ.app [m1, m2] := by simp [Mu.app]
    rw [e] at a2
    refine ⟨?_, a2, trivial⟩
    have a1 : RepA (μ.app [m1]) (.ro 0 D.length) c1 := a1
    have hp : Pre (μ.app [m1]) (μ.app [m1, m2]) := ⟨.refl _, [m2], by show μ.l ++ [m1, m2] = (μ.l ++ [m1]) ++ [m2]; rw [List.append_assoc]; rfl⟩
    exact RepA.pre hp a1
def gBig2 (F : Nat → Nat → Nat) (pre : Nat → Nat → Bool) : GT := fun vs h => match vs, h with
  | [.u (.a (.big v)), .u (.a (.big w))], [] => .ite (pre v w) (.ret (.u (.a (.dig (F v w)))) []) .no
  | _, _ => .no
theorem rep_two {μ : Mu} {u v : V} {cvs : List Value} (h : RepVs μ [u, v] cvs) : ∃ c d, cvs = [c, d] ∧ RepV μ u c ∧ RepV μ v d := by
  cases cvs with
  | nil => exact h.elim
  | cons c cs =>
    cases cs with
    | nil => exact h.2.elim
    | cons d ds =>
      cases ds with
      | nil => exact ⟨c, d, rfl, h.1, h.2.1⟩
      | cons _ _ => exact h.2.2.elim
theorem FnT.big2 {f : FuncId} {fn : Func} {code : Code} {fns : Fns} (hfn : ∀ f, FnT Try.prog f (fns f)) (hf : Try.prog.funcs[f]? = some fn) (hb : fn.body = some code) (hn : (fn.name == "runtime.NumGoroutine") = false) (an : Ann)
    (F : Nat → Nat → Nat) (pre : Nat → Nat → Bool)
    (H : ∀ D E, okD D → okD E → D.getLast? ≠ some 0 → E.getLast? ≠ some 0 → pre (nv D) (nv E) = true → ∃ N A, run ty fns an N fn [.ro 0 D.length, .ro 1 E.length] [.at false (.int .u32 D), .at false (.int .u32 E)] =
      some (.sl 2 0 A.length, [.at false (.int .u32 D), .at false (.int .u32 E), .at true (.int .u32 A)]) ∧ okD A ∧ nv A = F (nv D) (nv E)) : FnT Try.prog f (gBig2 F pre) := by
  intro vs hp v h' e μ w cvs hr hv
  unfold gBig2 at e
  split at e
  case h_2 => exact (T.no_inv e).elim
  rename_i a b
  obtain ⟨hpre, e⟩ := T.pre_inv e
  obtain ⟨rfl, rfl⟩ := T.ret_inv e
  obtain ⟨c1, c2, rfl, ⟨D, hD, rfl, hDl, hDs⟩, ⟨E, hE, rfl, hEl, hEs⟩⟩ := rep_two hv
  obtain ⟨m1, m2, f1, f2, r2, a2⟩ := open2 hr hDs hEs
  obtain ⟨N, A, hrun, hA, hF⟩ := H D E hD hE hDl hEl hpre
  refine (FnT.runs hfn hf hb hn an N _ _ (.sl 2 0 A.length) [.at false (.int .u32 D), .at false (.int .u32 E), .at true (.int .u32 A)] (by rw [T.run_of]; exact hrun) _ w _ r2 a2).mono fun cv w' ⟨μ', he, hcv⟩ => ?_
  have hl : 2 < μ'.l.length := by have := he.rel.len; simp at this; omega
  obtain ⟨z, z1, z2, z3⟩ := he.freeze (k := 2) (List.getElem?_eq_getElem hl) rfl
  have hcv : RepA ⟨z, μ'.l⟩ (.sl 2 0 A.length) cv := RepA.pre ⟨z1, [], by simp⟩ hcv
  have hs := slz_sl (μ := ⟨z, μ'.l⟩) (List.getElem?_eq_getElem hl) z2 (Nat.le_refl _) hcv
  rw [List.take_length] at hs
  have h0 : μ.l.length = 0 := by rw [hr.len]; rfl
  refine ⟨_, Ev.cut (h := []) (ros := [.at false (.int .u32 D), .at false (.int .u32 E)]) (ms := [m1, m2]) (by rw [h0]; rfl) rfl (fun b hb c => ?_) z3 (fun i rw c hi => absurd hi (by simp)), A, hA, hF, hs⟩
  simp at hb
  rcases hb with rfl | rfl <;> simp
end Go.Proofs.Ytbhfjdlhhjeknaa.Ab

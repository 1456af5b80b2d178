/- What the proof names: lemmas and words, merged by a program from its parts. No condition. -/
import Derived.Test.YtpeplbbphpamhaaZ10
namespace Go.Proofs.Ytpeplbbphpamhaa.Ab
set_option linter.unusedVariables false
set_option linter.unusedSimpArgs false
open Go
structure Bes (b : Nat) (g : Rat) : Prop where
  v : V32 b (-g)
  sq : V32 (fop .mul .f32 b b) (g * g)
  two : V32 (fop .mul .f32 1073741824 (fneg .f32 b)) (2 * g)
  g0 : 1 / 4 ≤ g
  g1 : g ≤ 2
  m : ∃ j : Int, 2 * g = j * tw (-4)
structure Drawn (x : Nat) (a : Rat) : Prop where
  v : V32 x a
  lo : -2 ≤ a
  hi : a ≤ 6
  m : ∃ j : Int, a = j * tw (-4)
def DrawnL : List Nat → List Rat → Prop
  | [], [] => True
  | x :: xs, a :: ar => Drawn x a ∧ DrawnL xs ar
  | _, _ => False
theorem drawn_row {x : Nat} {a : Rat} (h : Drawn x a) : Row x a := by
  obtain ⟨j, hj⟩ := h.m
  exact ⟨h.v, by have := h.lo; have := h.hi; rw [le_both]; grind, mult_up hj (by decide)⟩
theorem drawn_rows : ∀ {l : List Nat} {ar : List Rat}, DrawnL l ar → Rows l ar
  | [], [], _ => trivial
  | x :: xs, a :: ar, h => ⟨drawn_row h.1, drawn_rows h.2⟩
theorem drawn_mem : ∀ {l : List Nat} {ar : List Rat}, DrawnL l ar → ∀ a ∈ ar, -2 ≤ a ∧ a ≤ 6
  | [], [], _, a, ha => by cases ha
  | x :: xs, c :: ar, h, a, ha => by
    rcases List.mem_cons.1 ha with rfl | ha
    · exact ⟨h.1.lo, h.1.hi⟩
    · exact drawn_mem h.2 a ha
theorem drawn_getD : ∀ {l : List Nat} {ar : List Rat}, DrawnL l ar → ∀ i, i < l.length → Drawn (l.getD i 0) (ar.getD i 0)
  | x :: xs, a :: ar, h, 0, _ => h.1
  | x :: xs, a :: ar, h, i + 1, hi => by
    have := drawn_getD h.2 i (by rw [List.length_cons] at hi; omega)
    simpa using this
theorem fmin_v {x y : Nat} {a b : Rat} (hx : V32 x a) (hy : V32 y b) : V32 (fmin .f32 x y) (if a < b then a else b) := by
  unfold fmin
  rw [show FloatKind.f32.format.order x y = _ from order_v hx hy]
  by_cases h : a < b
  · rw [if_pos h, if_pos h]
    exact hx
  · rw [if_neg h, if_neg h]
    by_cases h2 : a = b
    · subst h2
      rw [if_pos rfl]
      dsimp only
      split
      · exact hx
      · exact hy
    · rw [if_neg h2]
      exact hy
theorem fmax_v {x y : Nat} {a b : Rat} (hx : V32 x a) (hy : V32 y b) : V32 (fmax .f32 x y) (if a < b then b else a) := by
  unfold fmax
  rw [show FloatKind.f32.format.order x y = _ from order_v hx hy]
  by_cases h : a < b
  · rw [if_pos h, if_pos h]
    exact hy
  · rw [if_neg h, if_neg h]
    by_cases h2 : a = b
    · subst h2
      rw [if_pos rfl]
      dsimp only
      split
      · exact hy
      · exact hx
    · rw [if_neg h2]
      exact hx
def minW : Nat → List Nat → Nat
  | m, [] => m
  | m, x :: xs => minW (fmin .f32 m x) xs
def maxW : Nat → List Nat → Nat
  | m, [] => m
  | m, x :: xs => maxW (fmax .f32 m x) xs
theorem minW_v : ∀ {xs : List Nat} {ar : List Rat} {m : Nat} {M : Rat}, Drawn m M → DrawnL xs ar → ∃ r, Drawn (minW m xs) r ∧ r ≤ M ∧ ∀ a ∈ ar, r ≤ a
  | [], [], m, M, hm, _ => ⟨M, hm, Rat.le_refl, fun a ha => by cases ha⟩
  | x :: xs, a :: ar, m, M, hm, h => by
    have hd : Drawn (fmin .f32 m x) (if M < a then M else a) := by
      have := fmin_v hm.v h.1.v
      by_cases hlt : M < a
      · rw [if_pos hlt] at this ⊢
        exact ⟨this, hm.lo, hm.hi, hm.m⟩
      · rw [if_neg hlt] at this ⊢
        exact ⟨this, h.1.lo, h.1.hi, h.1.m⟩
    obtain ⟨r, r1, r2, r3⟩ := minW_v hd h.2
    have hmin : (if M < a then M else a) ≤ M ∧ (if M < a then M else a) ≤ a := by split <;> grind
    refine ⟨r, r1, by grind, fun c hc => ?_⟩
    rcases List.mem_cons.1 hc with rfl | hc
    · grind
    · exact r3 c hc
theorem maxW_v : ∀ {xs : List Nat} {ar : List Rat} {m : Nat} {M : Rat}, Drawn m M → DrawnL xs ar → ∃ r, Drawn (maxW m xs) r ∧ M ≤ r ∧ ∀ a ∈ ar, a ≤ r
  | [], [], m, M, hm, _ => ⟨M, hm, Rat.le_refl, fun a ha => by cases ha⟩
  | x :: xs, a :: ar, m, M, hm, h => by
    have hd : Drawn (fmax .f32 m x) (if M < a then a else M) := by
      have := fmax_v hm.v h.1.v
      by_cases hlt : M < a
      · rw [if_pos hlt] at this ⊢
        exact ⟨this, h.1.lo, h.1.hi, h.1.m⟩
      · rw [if_neg hlt] at this ⊢
        exact ⟨this, hm.lo, hm.hi, hm.m⟩
    obtain ⟨r, r1, r2, r3⟩ := maxW_v hd h.2
    have hmax : M ≤ (if M < a then a else M) ∧ a ≤ (if M < a then a else M) := by split <;> grind
    refine ⟨r, r1, by grind, fun c hc => ?_⟩
    rcases List.mem_cons.1 hc with rfl | hc
    · grind
    · exact r3 c hc
def loW (b : Nat) (l : List Nat) : Nat := fop .sub .f32 (minW (l.getD 0 0) l.tail) (fop .mul .f32 1073741824 (fneg .f32 b))
def hiW (b : Nat) (l : List Nat) : Nat := fop .add .f32 (maxW (l.getD 0 0) l.tail) (fop .mul .f32 1073741824 (fneg .f32 b))
def levW (b : Nat) (l : List Nat) (k : Nat) : Nat := bisF b l k 36 (loW b l) (hiW b l)
theorem r_exact {E R : Rat} (h : R32 E R) {k j : Int} (hE : E = j * tw k) (hk : -149 ≤ k) (hj : j.natAbs < 2 ^ 24) : R = E := by
  have e : E = dv (decide (j < 0)) j.natAbs k := by
    rw [hE]
    unfold dv
    by_cases h0 : j < 0
    · have e1 : ((j.natAbs : Nat) : Rat) = -(j : Rat) := by
        have h2 : ((j.natAbs : Nat) : Int) = -j := by omega
        rw [← Rat.intCast_natCast, h2, Rat.intCast_neg]
      rw [e1, decide_eq_true h0]
      simp only [sg, if_true]
      grind
    · have e1 : ((j.natAbs : Nat) : Rat) = (j : Rat) := by
        have h2 : ((j.natAbs : Nat) : Int) = j := by omega
        rw [← Rat.intCast_natCast, h2]
      rw [e1, decide_eq_false h0]
      simp only [sg, if_false, Bool.false_eq_true]
      grind
  have h1 := h.lo _ _ k hj hk (by rw [← e]; exact Rat.le_refl)
  have h2 := h.hi _ _ k hj hk (by rw [← e]; exact Rat.le_refl)
  rw [← e] at h1 h2
  grind
theorem int_abs {j : Int} {B : Nat} (h : absR (j : Rat) ≤ (B : Rat)) : j.natAbs ≤ B := by
  rw [le_both] at h
  have h1 : (((-(B : Int)) : Int) : Rat) ≤ (j : Rat) := by rw [Rat.intCast_neg, Rat.intCast_natCast]; exact h.1
  have h2 : (j : Rat) ≤ (((B : Nat) : Int) : Rat) := by rw [Rat.intCast_natCast]; exact h.2
  have h1 := Rat.intCast_le_intCast.1 h1
  have h2 := Rat.intCast_le_intCast.1 h2
  omega
theorem small_exact {E R : Rat} (h : R32 E R) {j : Int} (hE : E = j * tw (-4)) (hb : absR E ≤ 100) : R = E := by
  refine r_exact h hE (by decide) ?_
  have e4 : tw (-4) * 16 = 1 := by decide +kernel
  have : absR (j : Rat) ≤ ((1600 : Nat) : Rat) := by
    have h1 : (j : Rat) = E * 16 := by rw [hE]; grind
    rw [h1, absR_mul, show absR (16 : Rat) = 16 by decide +kernel]
    have h2 : ((1600 : Nat) : Rat) = 1600 := rfl
    rw [h2]
    grind
  have := int_abs this
  omega
structure Ends (b : Nat) (l : List Nat) (ar : List Rat) (g L H : Rat) : Prop where
  lo : V32 (loW b l) L
  hi : V32 (hiW b l) H
  le : L ≤ H
  l0 : -6 ≤ L
  h0 : H ≤ 10
  ml : ∃ j : Int, L = j * tw (-((4 : Nat) : Int))
  mh : ∃ j : Int, H = j * tw (-((4 : Nat) : Int))
  below : ∀ a ∈ ar, 2 * g ≤ a - L
  above : ∀ a ∈ ar, a - H ≤ -(2 * g)
theorem ends {b : Nat} {g : Rat} {l : List Nat} {ar : List Rat} (hb : Bes b g) (h : DrawnL l ar) (hl : 0 < l.length) : ∃ L H, Ends b l ar g L H := by
  cases l with
  | nil => simp at hl
  | cons x xs =>
    cases ar with
    | nil => exact h.elim
    | cons a ar =>
      obtain ⟨mn, n1, n2, n3⟩ := minW_v h.1 h.2
      obtain ⟨mx, x1, x2, x3⟩ := maxW_v h.1 h.2
      have g0 := hb.g0
      have g1 := hb.g1
      obtain ⟨i, hi⟩ := hb.m
      obtain ⟨jn, hjn⟩ := n1.m
      obtain ⟨jx, hjx⟩ := x1.m
      obtain ⟨t, ht⟩ := mult_sub hjn hi
      obtain ⟨s, hs⟩ := mult_add hjx hi
      have c1 := n1.lo
      have c2 := n1.hi
      have c3 := x1.lo
      have c4 := x1.hi
      have a1 : absR (mn - 2 * g) ≤ 10 := by rw [le_both]; grind
      have a2 : absR (mx + 2 * g) ≤ 10 := by rw [le_both]; grind
      have e7 : tw 7 = 128 := by decide +kernel
      obtain ⟨L, l1, l2⟩ := fsub n1.v hb.two (lt127 (k := 7) (by rw [e7]; grind) (by decide))
      obtain ⟨H, h1, h2⟩ := fadd x1.v hb.two (lt127 (k := 7) (by rw [e7]; grind) (by decide))
      have l3 := small_exact l2 ht (by grind)
      have h3 := small_exact h2 hs (by grind)
      subst l3
      subst h3
      refine ⟨mn - 2 * g, mx + 2 * g, l1, h1, by grind, by grind, by grind, ⟨t, ht⟩, ⟨s, hs⟩, fun c hc => ?_, fun c hc => ?_⟩
      · rcases List.mem_cons.1 hc with rfl | hc
        · grind
        · have := n3 c hc; grind
      · rcases List.mem_cons.1 hc with rfl | hc
        · grind
        · have := x3 c hc; grind
theorem mem_sh {ar : List Rat} {e c : Rat} (h : c ∈ sh ar e) : ∃ a ∈ ar, c = a - e := by
  unfold sh at h
  obtain ⟨a, h1, h2⟩ := List.mem_map.1 h
  exact ⟨a, h1, h2.symm⟩
structure Lev (b : Nat) (l : List Nat) (ar : List Rat) (g : Rat) (k : Nat) (r : Rat) : Prop where
  v : V32 (levW b l k) r
  lo : -6 ≤ r
  hi : r ≤ 10
  m : ∃ j : Int, r = j * tw (-40)
  below : cn (g * g) ar (r - 1 / 2 ^ 13) ≤ k
  near : ∃ x, r - 1 / 100000 ≤ x ∧ cn (g * g) ar (x - mg) ≤ k
  above : k + 1 ≤ cn (g * g) ar (r + mg)
theorem level {b : Nat} {g : Rat} {l : List Nat} {ar : List Rat} (hb : Bes b g) (h : DrawnL l ar) (hl : 0 < l.length) (h8 : l.length ≤ 8) {k : Nat} (hk : k < l.length) : ∃ r, Lev b l ar g k r := by
  obtain ⟨L, H, e⟩ := ends hb h hl
  have hr := drawn_rows h
  have g0 := hb.g0
  have g1 := hb.g1
  have gg0 : 1 / 16 ≤ g * g := by have := mul_nn (show 0 ≤ g - 1 / 4 by grind) (show 0 ≤ g + 1 / 4 by grind); grind
  have gg1 : g * g ≤ 4 := by have := mul_nn (show 0 ≤ 2 - g by grind) (show 0 ≤ 2 + g by grind); grind
  have hmg : 0 ≤ mg := by decide +kernel
  have c1 : cn (g * g) ar (L - mg) ≤ k := by
    unfold cn
    rw [cnt_none (g := g) (by grind) Rat.le_refl (by grind) _ none (.inl rfl) (fun c hc => by
      obtain ⟨a, h1, rfl⟩ := mem_sh hc
      have := e.below a h1
      grind)]
    omega
  have c2 : k + 1 ≤ cn (g * g) ar (H + mg) := by
    unfold cn
    rw [cnt_all (g := g) (by grind) Rat.le_refl (by grind) _ none (.inl rfl) (fun c hc => by
      obtain ⟨a, h1, rfl⟩ := mem_sh hc
      have := e.above a h1
      grind)]
    unfold sh
    rw [List.length_map, ← rows_len hr]
    omega
  have e1 := e.l0
  have e2 := e.h0
  obtain ⟨r, f⟩ := bis_found (k := k) hb.sq gg0 gg1 hr h8 (drawn_mem h) 36 (loW b l) (hiW b l) L H 4 rfl e.lo e.hi e.le (by grind) (by grind) e.ml e.mh c1 c2
  obtain ⟨x, x1, x2, x3⟩ := f.below
  have f1 := f.lo
  have f2 := f.hi
  have hP : ((2 ^ 36 : Nat) : Rat) = 68719476736 := rfl
  rw [hP] at x2
  have hx : r - 1 / 100000 ≤ x := by grind
  refine ⟨r, f.v, by grind, by grind, f.mult, ?_, ⟨x, hx, x3⟩, f.above⟩
  have hm := cn_mono (b := g * g) (by grind) ar (show r - 1 / 2 ^ 13 ≤ x - mg by unfold mg; grind)
  omega
theorem lev_mono {b : Nat} {g : Rat} {l : List Nat} {ar : List Rat} (hb : Bes b g) (h : DrawnL l ar) (hl : 0 < l.length) {k k' : Nat} (hk : k ≤ k') : val (levW b l k) ≤ val (levW b l k') := by
  obtain ⟨L, H, e⟩ := ends hb h hl
  have e1 := e.l0
  have e2 := e.h0
  obtain ⟨r, r', h1, h2, h3, _⟩ := bis_mono (b := b) (l := l) hk 36 (loW b l) (hiW b l) L H 4 rfl e.lo e.hi e.le (by grind) (by grind) e.ml e.mh
  have e1 : val (levW b l k) = r := val_eq h1
  have e2 : val (levW b l k') = r' := val_eq h2
  rw [e1, e2]
  exact h3
theorem cent : V32 1008981770 (10737418 * tw (-30)) := ⟨false, 10737418, -30, by decide +kernel, by unfold dv; simp only [sg, if_false, Bool.false_eq_true]; have : ((10737418 : Nat) : Rat) = 10737418 := rfl; rw [this]; grind⟩
theorem cent_eq : 99 / 10000 ≤ 10737418 * tw (-30) ∧ 10737418 * tw (-30) ≤ 101 / 10000 := by decide +kernel
theorem cent_m : ∃ j : Int, 10737418 * tw (-30) = j * tw (-40) := by
  refine mult_up (k := -30) (j := 10737418) rfl (by decide)
theorem lev_counts {b : Nat} {g : Rat} {l : List Nat} {ar : List Rat} (hb : Bes b g) (h : DrawnL l ar) (h8 : l.length ≤ 8) {k : Nat} {r : Rat} (hr : Lev b l ar g k r) :
    finB (fop .sub .f32 (levW b l k) 1008981770) = true ∧ cbF b (fop .sub .f32 (levW b l k) 1008981770) none l ≤ k ∧ finB (fop .add .f32 (levW b l k) 1008981770) = true ∧ k + 1 ≤ cbF b (fop .add .f32 (levW b l k) 1008981770) none l := by
  have c1 := cent_eq
  have r1 := hr.lo
  have r2 := hr.hi
  have g0 := hb.g0
  have g1 := hb.g1
  have gg0 : 1 / 16 ≤ g * g := by have := mul_nn (show 0 ≤ g - 1 / 4 by grind) (show 0 ≤ g + 1 / 4 by grind); grind
  have gg1 : g * g ≤ 4 := by have := mul_nn (show 0 ≤ 2 - g by grind) (show 0 ≤ 2 + g by grind); grind
  have e7 : tw 7 = 128 := by decide +kernel
  obtain ⟨j, hj⟩ := hr.m
  obtain ⟨i, hi⟩ := cent_m
  have ht : tiny ≤ 1 := by
    have h1 := tiny_le (show (-126 : Int) ≤ 0 by decide)
    have e0 : tw 0 = 1 := by decide +kernel
    rw [e0] at h1
    exact h1
  have hmem := drawn_mem h
  have rows := drawn_rows h
  have hmgv : mg = 1 / 2 ^ 14 := rfl
  obtain ⟨t, tv⟩ := mult_sub hj hi
  obtain ⟨s, sv⟩ := mult_add hj hi
  have cv := cent
  generalize 10737418 * tw (-30) = c at *
  have a1 : absR (r - c) ≤ 11 := by rw [le_both]; grind
  have a2 : absR (r + c) ≤ 11 := by rw [le_both]; grind
  obtain ⟨A, v1, v2⟩ := fsub hr.v cv (lt127 (k := 7) (by rw [e7]; grind) (by decide))
  obtain ⟨B, w1, w2⟩ := fadd hr.v cv (lt127 (k := 7) (by rw [e7]; grind) (by decide))
  have v3 := r_er v2
  have w3 := r_er w2
  have v4 : absR (A - (r - c)) ≤ 1 / 1000000 := by grind
  have w4 : absR (B - (r + c)) ≤ 1 / 1000000 := by grind
  rw [le_both] at v4 w4
  have hA : Env b (fop .sub .f32 (levW b l k) 1008981770) (g * g) A := ⟨hb.sq, gg0, gg1, v1, by rw [le_both]; grind, v2.mul (-40) t tv⟩
  have hB : Env b (fop .add .f32 (levW b l k) 1008981770) (g * g) B := ⟨hb.sq, gg0, gg1, w1, by rw [le_both]; grind, w2.mul (-40) s sv⟩
  have nA : ∀ a ∈ ar, absR (a - A) ≤ 15 := fun a ha => by have := hmem a ha; rw [le_both]; grind
  have nB : ∀ a ∈ ar, absR (a - B) ≤ 15 := fun a ha => by have := hmem a ha; rw [le_both]; grind
  have k1 := cb_le hA rows h8 nA (f := r - 1 / 2 ^ 13) (by rw [hmgv]; grind)
  have k2 := cb_ge hB rows h8 nB (f := r + mg) (by rw [hmgv]; grind)
  have k3 := hr.below
  have k4 := hr.above
  exact ⟨finB_v v1, by omega, finB_v w1, by omega⟩
theorem suml_acc : ∀ (ar : List Rat) (t : Rat), suml t ar = t + suml 0 ar
  | [], t => by show t = t + 0; grind
  | c :: ar, t => by
    show suml (t + c) ar = t + suml (0 + c) ar
    rw [suml_acc ar (t + c), suml_acc ar (0 + c)]
    grind
theorem sumF_shift (f : Nat → Rat) : ∀ n, sumF f (n + 1) = f 0 + sumF (fun i => f (i + 1)) n
  | 0 => by show (0 : Rat) + f 0 = f 0 + 0; grind
  | n + 1 => by
    show sumF f (n + 1) + f (n + 1) = f 0 + (sumF (fun i => f (i + 1)) n + f (n + 1))
    rw [sumF_shift f n]
    grind
theorem suml_sumF : ∀ ar : List Rat, suml 0 ar = sumF (fun i => ar.getD i 0) ar.length
  | [] => rfl
  | c :: ar => by
    rw [List.length_cons, sumF_shift]
    show suml (0 + c) ar = _
    rw [suml_acc, suml_sumF ar]
    simp only [List.getD_cons_zero, List.getD_cons_succ]
    grind
theorem sumx_sumF (x : Nat → Rat) : ∀ n i, sumx x i n = sumF (fun j => x (i + j)) n
  | 0, _ => rfl
  | n + 1, i => by
    rw [sumF_shift]
    show x i + sumx x (i + 1) n = x (i + 0) + _
    rw [sumx_sumF x n (i + 1)]
    congr 2
    funext j
    congr 1
    omega
theorem sums_ok {b : Nat} {g : Rat} {l : List Nat} {ar : List Rat} (hb : Bes b g) (h : DrawnL l ar) (hl : 0 < l.length) (h8 : l.length ≤ 8) :
    ∃ c1 c2, fconv .f64 (sum64 (fun k => levW b l k) l.length) .f32 = some c1 ∧ fconv .f64 (sum64 (fun k => l.getD k 0) l.length) .f32 = some c2 ∧ gtD (r8G c1 c2) 4576918229304087675 = false := by
  have g0 := hb.g0
  have g1 := hb.g1
  have gg0 : 1 / 16 ≤ g * g := by have := mul_nn (show 0 ≤ g - 1 / 4 by grind) (show 0 ≤ g + 1 / 4 by grind); grind
  have gg1 : g * g ≤ 4 := by have := mul_nn (show 0 ≤ 2 - g by grind) (show 0 ≤ 2 + g by grind); grind
  have hmem := drawn_mem h
  have rows := drawn_rows h
  have hlen := rows_len rows
  have lv : ∀ k, k < l.length → Lev b l ar g k (val (levW b l k)) := by
    intro k hk
    obtain ⟨r, hr⟩ := level hb h hl h8 hk
    rw [val_eq hr.v]
    exact hr
  obtain ⟨s1, a1, a2, a3⟩ := sum64_v (n := l.length) (W := fun k => levW b l k) (w := fun k => val (levW b l k)) h8 (fun i hi => by
    have := lv i hi
    have h1 := this.lo
    have h2 := this.hi
    exact ⟨this.v, by show absR (val (levW b l i)) ≤ 16; rw [le_both]; grind⟩) l.length (Nat.le_refl _)
  obtain ⟨s2, b1, b2, b3⟩ := sum64_v (n := l.length) (W := fun k => l.getD k 0) (w := fun k => ar.getD k 0) h8 (fun i hi => by
    have := drawn_getD h i hi
    have h1 := this.lo
    have h2 := this.hi
    exact ⟨this.v, by show absR (ar.getD i 0) ≤ 16; rw [le_both]; grind⟩) l.length (Nat.le_refl _)
  have ht := trace (b := g * g) (ε := 1 / 2 ^ 13) (δ := 1 / 2 ^ 70) ⟨gg0, gg1⟩ (by decide +kernel) (by decide +kernel) (by decide +kernel) (a := ar) (by omega) (by omega) (fun c hc => by have := hmem c hc; rw [le_both]; grind) (E := fun k => val (levW b l k)) (fun k hk => by
    have := lv k (by omega)
    have h1 := this.lo
    have h2 := this.hi
    refine ⟨by show absR (val (levW b l k)) ≤ 15; rw [le_both]; grind, this.below, ?_⟩
    have h3 := this.above
    have h4 := cn_mono (b := g * g) (by grind) ar (show val (levW b l k) + mg ≤ val (levW b l k) + 1 / 2 ^ 13 by unfold mg; grind)
    exact Nat.le_trans h3 h4)
  rw [sumx_sumF, suml_sumF, ← hlen] at ht
  have e0 : (fun j => (fun k => val (levW b l k)) (0 + j)) = fun k => val (levW b l k) := by funext j; show val (levW b l (0 + j)) = _; rw [Nat.zero_add]
  rw [e0] at ht
  have hn8 : (l.length : Rat) ≤ 8 := by have := le_nat h8; have e : ((8 : Nat) : Rat) = 8 := rfl; rw [e] at this; exact this
  have hn0 := nn_nat l.length
  generalize sumF (fun k => val (levW b l k)) l.length = S at *
  generalize sumF (fun k => ar.getD k 0) l.length = T at *
  have hδ : (1 : Rat) / 2 ^ 13 + 1 / 2 ^ 70 ≤ 1 / 8000 := by decide +kernel
  have hST : absR (S - T) ≤ 1 / 1000 := by
    have := mul_nn hn0 (show 0 ≤ 1 / 8000 - (1 / 2 ^ 13 + 1 / 2 ^ 70 : Rat) by grind)
    generalize (1 : Rat) / 2 ^ 13 + 1 / 2 ^ 70 = q at *
    grind
  have f1 : absR (s1 - S) ≤ 1 / 100000 := by grind
  have f2 : absR (s2 - T) ≤ 1 / 100000 := by grind
  have g1' : absR s1 ≤ 200 := by
    have := absR_tri (s1 - S) S
    rw [show s1 - S + S = s1 by grind] at this
    grind
  have g2' : absR s2 ≤ 200 := by
    have := absR_tri (s2 - T) T
    rw [show s2 - T + T = s2 by grind] at this
    grind
  have e8 : tw 8 = 256 := by decide +kernel
  obtain ⟨c1, n1⟩ := narrow a1 (by grind)
  obtain ⟨c2, n2⟩ := narrow b1 (by grind)
  obtain ⟨C1, m1, m2⟩ := down_v a1 n1 (lt127 (k := 8) (by rw [e8]; grind) (by decide))
  obtain ⟨C2, m3, m4⟩ := down_v b1 n2 (lt127 (k := 8) (by rw [e8]; grind) (by decide))
  have m5 := r_er m2
  have m6 := r_er m4
  have ht : tiny ≤ 1 := by
    have h1 := tiny_le (show (-126 : Int) ≤ 0 by decide)
    have e0 : tw 0 = 1 := by decide +kernel
    rw [e0] at h1
    exact h1
  have m7 : absR (C1 - s1) ≤ 1 / 10000 := by grind
  have m8 : absR (C2 - s2) ≤ 1 / 10000 := by grind
  obtain ⟨c, k1, k2, k3⟩ := k10
  refine ⟨c1, c2, n1, n2, gap_ok m1 m3 k1 ?_ k3⟩
  rw [le_both] at f1 f2 m7 m8 hST ⊢
  constructor <;> grind
end Go.Proofs.Ytpeplbbphpamhaa.Ab

namespace Go.Proofs.Ytpeplbbphpamhaa.Ab
set_option linter.unusedVariables false
set_option linter.unusedSimpArgs false
open Go
theorem milli : V32 981668463 (8589935 * tw (-33)) := ⟨false, 8589935, -33, by decide +kernel, by unfold dv; simp only [sg, if_false, Bool.false_eq_true]; have : ((8589935 : Nat) : Rat) = 8589935 := rfl; rw [this]; grind⟩
theorem milli_eq : 999999 / 1000000000 ≤ 8589935 * tw (-33) ∧ 8589935 * tw (-33) ≤ 1000001 / 1000000000 := by decide +kernel
theorem milli_m : ∃ j : Int, 8589935 * tw (-33) = j * tw (-40) := by
  refine mult_up (k := -33) (j := 8589935) rfl (by decide)
def stE (b : Nat) (l : List Nat) : Nat := fop .sub .f32 (levW b l 0) 981668463
def stW (b : Nat) (l : List Nat) : Nat → Nat := uW b (stE b l) (fun i => l.getD i 0) l.length 4
theorem state_ok {b : Nat} {g : Rat} {l : List Nat} {ar : List Rat} (hb : Bes b g) (h : DrawnL l ar) (hl : 0 < l.length) (h8 : l.length ≤ 8) :
    Done l.length (stW b l) (fun i => ar.getD i 0) g (val (levW b l 0)) ∧ finB (stE b l) = true := by
  obtain ⟨r, hr⟩ := level hb h hl h8 (k := 0) hl
  have c1 := milli_eq
  have r1 := hr.lo
  have r2 := hr.hi
  have g0 := hb.g0
  have g1 := hb.g1
  have gg0 : 1 / 16 ≤ g * g := by have := mul_nn (show 0 ≤ g - 1 / 4 by grind) (show 0 ≤ g + 1 / 4 by grind); grind
  have gg1 : g * g ≤ 4 := by have := mul_nn (show 0 ≤ 2 - g by grind) (show 0 ≤ 2 + g by grind); grind
  have e7 : tw 7 = 128 := by decide +kernel
  obtain ⟨j, hj⟩ := hr.m
  obtain ⟨i, hi⟩ := milli_m
  obtain ⟨t, tv⟩ := mult_sub hj hi
  have hmem := drawn_mem h
  have rows := drawn_rows h
  have hlen := rows_len rows
  have hmgv : mg = 1 / 2 ^ 14 := rfl
  have hmilli := milli
  have ht : tiny ≤ 1 := by
    have h1 := tiny_le (show (-126 : Int) ≤ 0 by decide)
    have e0 : tw 0 = 1 := by decide +kernel
    rw [e0] at h1
    exact h1
  generalize 8589935 * tw (-33) = c at *
  have a1 : absR (r - c) ≤ 11 := by rw [le_both]; grind
  obtain ⟨E, v1, v2⟩ := fsub hr.v hmilli (lt127 (k := 7) (by rw [e7]; grind) (by decide))
  have v3 := r_er v2
  have v4 : absR (E - (r - c)) ≤ 1 / 1000000 := by grind
  rw [le_both] at v4
  have henv : Env b (stE b l) (g * g) E := ⟨hb.sq, gg0, gg1, v1, by rw [le_both]; grind, v2.mul (-40) t tv⟩
  obtain ⟨x, x1, x2⟩ := hr.near
  have ht1 : th1 = 9 / 10000 := rfl
  have ht2 : th2 = 11 / 10000 := rfl
  have z1 := cn_mono (b := g * g) (by grind) ar (show E + th1 ≤ x - mg by rw [ht1, hmgv]; grind)
  have z0 : cn (g * g) ar (E + th1) = 0 := by omega
  have z2 := cn_mono (b := g * g) (by grind) ar (show r + mg ≤ E + th2 by rw [ht2, hmgv]; grind)
  have z3 := hr.above
  obtain ⟨m, m1, m2, m3⟩ := cn_top (β := g * g) (e := E + th2) (ar := ar) (by omega)
  have harD : ∀ i, i < l.length → -2 ≤ ar.getD i 0 ∧ ar.getD i 0 ≤ 6 := fun i hi => ⟨(drawn_getD h i hi).lo, (drawn_getD h i hi).hi⟩
  have hs : Sys l.length b (stE b l) (fun i => l.getD i 0) (fun i => ar.getD i 0) g E := by
    refine ⟨hl, h8, fun i hi => drawn_row (drawn_getD h i hi), fun i hi => ?_, hb.v, g0, g1, henv, fun i hi => ?_⟩
    · have := harD i hi
      show ar.getD i 0 - E ≤ 13
      grind
    · have := cn_zero_pos z0 (i := i) (by omega)
      exact ⟨this.1, fun h => this.2 (by omega)⟩
  have hd := four hs (lam := r) (by omega) m2 m3 ⟨by grind, by grind⟩ (fun i hi => by
    have := harD i hi
    show -13 ≤ ar.getD i 0 - E
    grind)
  rw [val_eq hr.v]
  exact ⟨hd, finB_v v1⟩
theorem fin_state {n : Nat} {U : Nat → Nat} {a : Nat → Rat} {g lam : Rat} (d : Done n U a g lam) : ∀ i, i < n → finB (U i) = true := fun i hi => finB_v (d.v i hi)
theorem norm_ok {n : Nat} {U : Nat → Nat} {a : Nat → Rat} {g lam : Rat} (n8 : n ≤ 8) (d : Done n U a g lam) : finB (ovW U n) = true ∧ gtD (r8G (ovW U n) 1065353216) 4562254508917369340 = false := by
  have h1 := d.one
  have h2 : absR (sumF (fun j => val (U j) * val (U j)) n - 1) ≤ 1 / 10000 := by grind
  rw [le_both] at h2
  obtain ⟨s, s1, s2⟩ := ov_abs n8 (fun i hi => ⟨d.v i hi, d.nn i hi, by have := d.hi i hi; grind⟩) (by grind) n (Nat.le_refl _)
  have hn8 : (n : Rat) ≤ 8 := by have := le_nat n8; have e : ((8 : Nat) : Rat) = 8 := rfl; rw [e] at this; exact this
  have s3 : absR (s - sumF (fun j => val (U j) * val (U j)) n) ≤ 1 / 10000 := by grind
  rw [le_both] at s3
  obtain ⟨c, k1', k2, k3⟩ := k1
  refine ⟨finB_v s1, gap_ok s1 one_v k1' ?_ k3⟩
  rw [le_both]
  constructor <;> grind
def restW (b lam : Nat) (X U : Nat → Nat) (n i : Nat) : Nat :=
  if 0 < i then
    if i + 1 < n then fop .add .f32 (fop .add .f32 (fop .mul .f32 (fop .sub .f32 (X i) lam) (U i)) (fop .mul .f32 b (U (i - 1)))) (fop .mul .f32 b (U (i + 1)))
    else fop .add .f32 (fop .mul .f32 (fop .sub .f32 (X i) lam) (U i)) (fop .mul .f32 b (U (i - 1)))
  else
    if i + 1 < n then fop .add .f32 (fop .mul .f32 (fop .sub .f32 (X i) lam) (U i)) (fop .mul .f32 b (U (i + 1)))
    else fop .mul .f32 (fop .sub .f32 (X i) lam) (U i)
theorem rest_fin {w : Nat} {t T : Rat} {c : Rat} (h : V32 w t) (hc : c ≤ 12) (ht : absR (t - T) * 2 ^ 20 ≤ c) (hT : absR T ≤ 81 / 10000) : gtD (r8G w 0) 4576918229304087675 = false := by
  obtain ⟨K, k1, k2, k3⟩ := k10
  refine gap_ok h v0 k1 ?_ k3
  have h1 : absR (t - T) ≤ 1 / 10000 := by grind
  rw [le_both] at h1 hT ⊢
  constructor <;> grind
theorem rest_ok {n b lw : Nat} {X U : Nat → Nat} {a : Nat → Rat} {g lam : Rat} (hb : Bes b g) (hX : ∀ i, i < n → V32 (X i) (a i)) (hl : V32 lw lam) (ha : ∀ i, i < n → absR (a i - lam) ≤ 14) (d : Done n U a g lam) {i : Nat} (hi : i < n) : gtD (r8G (restW b lw X U n i) 0) 4576918229304087675 = false := by
  have g0 := hb.g0
  have hg : 0 ≤ g ∧ g ≤ 2 := ⟨by grind, hb.g1⟩
  have hu : ∀ j, j < n → absR (val (U j)) ≤ 2 := fun j hj => by
    have h1 := d.nn j hj
    have h2 := d.hi j hj
    rw [le_both]
    constructor <;> grind
  obtain ⟨t, t1, t2⟩ := rest0 (hX i hi) hl (d.v i hi) (ha i hi) (hu i hi)
  have hT : absR ((a i - lam) * val (U i)) ≤ 28 := by
    have := abs_mulR (ha i hi) (hu i hi)
    grind
  have hrow := d.row i hi
  unfold restW
  by_cases h0 : 0 < i
  · obtain ⟨j, rfl⟩ : ∃ j, i = j + 1 := ⟨i - 1, by omega⟩
    rw [if_pos h0]
    have hrw : rowA a lam g (fun j => if j < n then val (U j) else 0) (j + 1) = (a (j + 1) - lam) * (if j + 1 < n then val (U (j + 1)) else 0) - g * (if j < n then val (U j) else 0) - g * (if j + 2 < n then val (U (j + 2)) else 0) := rfl
    rw [hrw, if_pos hi, if_pos (show j < n by omega)] at hrow
    obtain ⟨s, s1, s2⟩ := rest1 t1 hb.v (d.v j (by omega)) hg (hu j (by omega)) t2 (by decide +kernel) (by grind)
    have hS : absR ((a (j + 1) - lam) * val (U (j + 1)) - g * val (U j)) ≤ 32 := by
      have h1 := absR_sub ((a (j + 1) - lam) * val (U (j + 1))) (g * val (U j))
      have h2 : absR (g * val (U j)) ≤ 4 := by
        have := abs_mulR (show absR g ≤ 2 by rw [absR_of_nn hg.1]; exact hg.2) (hu j (by omega))
        grind
      grind
    by_cases h1 : j + 1 + 1 < n
    · rw [if_pos h1]
      rw [if_pos (show j + 2 < n by omega)] at hrow
      obtain ⟨w, w1, w2⟩ := rest1 s1 hb.v (d.v (j + 2) (by omega)) hg (hu (j + 2) (by omega)) s2 (by decide +kernel) (by grind)
      exact rest_fin w1 (by decide +kernel) w2 hrow
    · rw [if_neg h1]
      rw [if_neg (show ¬ j + 2 < n by omega), show g * (0 : Rat) = 0 by grind, show ∀ z : Rat, z - 0 = z from fun z => by grind] at hrow
      exact rest_fin s1 (by decide +kernel) s2 hrow
  · have e : i = 0 := by omega
    subst e
    rw [if_neg (by decide)]
    have hrw : rowA a lam g (fun j => if j < n then val (U j) else 0) 0 = (a 0 - lam) * (if 0 < n then val (U 0) else 0) - g * (if 1 < n then val (U 1) else 0) := rfl
    rw [hrw, if_pos hi] at hrow
    by_cases h1 : 0 + 1 < n
    · rw [if_pos h1]
      rw [if_pos (show 1 < n by omega)] at hrow
      obtain ⟨w, w1, w2⟩ := rest1 t1 hb.v (d.v 1 (by omega)) hg (hu 1 (by omega)) t2 (by decide +kernel) (by grind)
      exact rest_fin w1 (by decide +kernel) w2 hrow
    · rw [if_neg h1]
      rw [if_neg (show ¬ 1 < n by omega), show g * (0 : Rat) = 0 by grind, show ∀ z : Rat, z - 0 = z from fun z => by grind] at hrow
      exact rest_fin t1 (by decide +kernel) t2 hrow
def besL (j : Nat) : Nat := fop .quo .f32 (fneg .f32 (floatOfInt .f32 (1 + (j : Int)))) 1082130432
def rowL (j : Nat) : Nat := fop .quo .f32 (floatOfInt .f32 ((j : Int) - 4)) 1073741824
def isV (x : Nat) (r : Rat) : Bool := match Ieee.single.read x with
  | .number s m e => decide (dv s m e = r)
  | _ => false
theorem isV_v {x : Nat} {r : Rat} (h : isV x r = true) : V32 x r := by
  unfold isV at h
  split at h
  · rename_i s m e he
    exact ⟨s, m, e, he, (of_decide_eq_true h).symm⟩
  · cases h
theorem bes_tab : ∀ j, j < 8 → isV (besL j) (-(((1 + j : Nat) : Rat) / 4)) = true ∧ isV (fop .mul .f32 (besL j) (besL j)) (((1 + j : Nat) : Rat) / 4 * (((1 + j : Nat) : Rat) / 4)) = true ∧ isV (fop .mul .f32 1073741824 (fneg .f32 (besL j))) (2 * (((1 + j : Nat) : Rat) / 4)) = true ∧ ltB (besL j) 0 = true := by decide +kernel
theorem row_tab : ∀ j, j < 17 → isV (rowL j) ((((j : Int) - 4 : Int) : Rat) / 2) = true := by decide +kernel
theorem bes_ok {j : Nat} (h : j < 8) : Bes (besL j) (((1 + j : Nat) : Rat) / 4) ∧ ltB (besL j) 0 = true := by
  obtain ⟨h1, h2, h3, h4⟩ := bes_tab j h
  have hj : ((1 : Nat) : Rat) ≤ ((1 + j : Nat) : Rat) := le_nat (by omega)
  have hj2 : ((1 + j : Nat) : Rat) ≤ ((8 : Nat) : Rat) := le_nat (by omega)
  have c1 : ((1 : Nat) : Rat) = 1 := rfl
  have c8 : ((8 : Nat) : Rat) = 8 := rfl
  rw [c1] at hj
  rw [c8] at hj2
  refine ⟨⟨isV_v h1, isV_v h2, isV_v h3, by grind, by grind, ⟨8 * ((1 + j : Nat) : Int), ?_⟩⟩, h4⟩
  have e : tw (-4) * 16 = 1 := by decide +kernel
  rw [Rat.intCast_mul, Rat.intCast_natCast]
  have c : ((8 : Int) : Rat) = 8 := rfl
  rw [c]
  grind
theorem row_ok {j : Nat} (h : j < 17) : Drawn (rowL j) ((((j : Int) - 4 : Int) : Rat) / 2) := by
  have h1 := row_tab j h
  have k1 : (((-4 : Int)) : Rat) ≤ (((j : Int) - 4 : Int) : Rat) := Rat.intCast_le_intCast.2 (by omega)
  have k2 : (((j : Int) - 4 : Int) : Rat) ≤ ((12 : Int) : Rat) := Rat.intCast_le_intCast.2 (by omega)
  have c1 : (((-4 : Int)) : Rat) = -4 := rfl
  have c2 : ((12 : Int) : Rat) = 12 := rfl
  rw [c1] at k1
  rw [c2] at k2
  refine ⟨isV_v h1, by grind, by grind, ⟨8 * ((j : Int) - 4), ?_⟩⟩
  have e : tw (-4) * 16 = 1 := by decide +kernel
  rw [Rat.intCast_mul]
  have c : ((8 : Int) : Rat) = 8 := rfl
  rw [c]
  generalize (((j : Int) - 4 : Int) : Rat) = z at *
  grind
end Go.Proofs.Ytpeplbbphpamhaa.Ab

namespace Go.Proofs.Ytpeplbbphpamhaa.Ab
set_option linter.unusedVariables false
set_option linter.unusedSimpArgs false
open Go
def an_mn : Ann := ⟨fun r => if r = 5 then some ([0, 3, 4], [3]) else none, fun _ _ => .quiet⟩
noncomputable def tab_mn : Fns := tabT []
theorem tabok_mn : ∀ f, FnT Try.prog f (tab_mn f) := tabT_nil
def st_mn5 (x0n : Nat) (m3 : Nat) (i4 : Int) (rw0 : Bool) (l0 : List Nat) : St := ⟨(.sl 0 0 x0n :: .any :: .any :: .fl .f32 m3 :: .int .i64 i4 :: (anys 20 [])), [.at rw0 (.fl .f32 l0)]⟩
abbrev kp_mn5 : Option (List Nat × List Nat) := some ([0, 3, 4], [3])
noncomputable def lp_mn5 {R : Type} (N M : Nat) (s : St) (K : X → St → Option R) : Option R := loopH 1 kp_mn5 (fun st K => exec ty tab_mn an_mn N 1 (atOf [true, true, true, false, true, false, false] Try.f19) st K) M s K
noncomputable def kt_mn5 {R : Type} (N : Nat) (K : X → St → Option R) : X → St → Option R := kBlkR 0 (kSeqR tab_mn an_mn N 1 (atOf [true, true, true, true] Try.f19) (K))
def en_mn5_0 (m3 : Nat) (rw0 : Bool) (l0 : List Nat) : St := ⟨(.any :: .any :: .any :: .fl .f32 m3 :: (anys 21 [])), [.at rw0 (.fl .f32 l0)]⟩
theorem run_mn (N : Nat) (n : Nat) (r : Bool) (l : List Nat) : run ty tab_mn an_mn N Try.f19 [.sl 0 0 n] [.at r (.fl .f32 l)]
    = (match decide ((((n : Nat) : Int) : Int) < 1) with | true => none | false => (match decide (0 ≤ (0 : Int) ∧ (0 : Int) < ((n : Nat) : Int)) with | true => (match l[0]? with | some e1 => lp_mn5 N N (st_mn5 n e1 1 r l) (kt_mn5 N (kEnd Try.f19 1)) | none => none) | false => none)) := by
  kernel_rfl
theorem step_mn5 {R : Type} (N M : Nat) (K : X → St → Option R) (x0n : Nat) (m3 : Nat) (i4 : Int) (rw0 : Bool) (l0 : List Nat) : lp_mn5 N (M + 1) (st_mn5 x0n m3 i4 rw0 l0) K
    = (match decide ((i4 : Int) < ((x0n : Nat) : Int)) with | true => (match decide (0 ≤ (i4 : Int) ∧ (i4 : Int) < ((x0n : Nat) : Int)) with | true => (match l0[0 + (i4).toNat * 1]? with | some e1 => lp_mn5 N M (st_mn5 x0n (fmin .f32 m3 e1) (IntKind.i64.wrap (i4 + 1)) rw0 l0) K | none => none) | false => none) | false => K (.exit 0) (en_mn5_0 m3 rw0 l0)) := by
  kernel_rfl
theorem end_mn5_0 (N : Nat) (m3 : Nat) (rw0 : Bool) (l0 : List Nat) : kt_mn5 N (kEnd Try.f19 1) (.exit 0) (en_mn5_0 m3 rw0 l0)
    = some (.fl .f32 m3, [.at rw0 (.fl .f32 l0)]) := by
  kernel_rfl
noncomputable def ce_mn5_0 (N : Nat) (m3 : Nat) (rw0 : Bool) (l0 : List Nat) : Option (V × H) := some (.fl .f32 m3, [.at rw0 (.fl .f32 l0)])
noncomputable def mb_mn5 (N : Nat) (k0 : Nat → Bool → List Nat → Option (V × H)) (rq : Nat → Nat → Int → Bool → List Nat → Option (V × H)) : Nat → Nat → Int → Bool → List Nat → Option (V × H) := fun (x0n : Nat) (m3 : Nat) (i4 : Int) (rw0 : Bool) (l0 : List Nat) => (match decide ((i4 : Int) < ((x0n : Nat) : Int)) with | true => (match decide (0 ≤ (i4 : Int) ∧ (i4 : Int) < ((x0n : Nat) : Int)) with | true => (match l0[0 + (i4).toNat * 1]? with | some e1 => (rq x0n (fmin .f32 m3 e1) (IntKind.i64.wrap (i4 + 1)) rw0 l0) | none => none) | false => none) | false => (k0 m3 rw0 l0))
noncomputable def mr_mn5 (N : Nat) (k0 : Nat → Bool → List Nat → Option (V × H)) (M : Nat) : Nat → Nat → Int → Bool → List Nat → Option (V × H) := Nat.rec (motive := fun _ => Nat → Nat → Int → Bool → List Nat → Option (V × H)) (fun (_ : Nat) (_ : Nat) (_ : Int) (_ : Bool) (_ : List Nat) => none) (fun _ rq => mb_mn5 N k0 rq) M
theorem mrs_mn5 (N : Nat) (k0 : Nat → Bool → List Nat → Option (V × H)) (M : Nat) (x0n : Nat) (m3 : Nat) (i4 : Int) (rw0 : Bool) (l0 : List Nat) : mr_mn5 N k0 (M + 1) x0n m3 i4 rw0 l0 = mb_mn5 N k0 (mr_mn5 N k0 M) x0n m3 i4 rw0 l0 := rfl
theorem H_mn5 (N : Nat) : ∀ (M : Nat) (x0n : Nat) (m3 : Nat) (i4 : Int) (rw0 : Bool) (l0 : List Nat), lp_mn5 N M (st_mn5 x0n m3 i4 rw0 l0) (kt_mn5 N (kEnd Try.f19 1)) = mr_mn5 N (ce_mn5_0 N) M x0n m3 i4 rw0 l0 := by
  have he0 : ∀ (m3 : Nat) (rw0 : Bool) (l0 : List Nat), kt_mn5 N (kEnd Try.f19 1) (.exit 0) (en_mn5_0 m3 rw0 l0) = ce_mn5_0 N m3 rw0 l0 := by
    intro m3 rw0 l0
    rw [end_mn5_0]
    unfold ce_mn5_0
    first | (simp only []; done) | (simp only []; kernel_rfl) | rfl
  intro M
  induction M with
  | zero => intros; rfl
  | succ M ih =>
    intro x0n m3 i4 rw0 l0
    rw [step_mn5]
    rw [mrs_mn5]
    unfold mb_mn5
    first | (simp only [ih, he0]; done) | (simp only [ih, he0]; kernel_rfl) | rfl
noncomputable def md_mn (N : Nat) (n : Nat) (r : Bool) (l : List Nat) : Option (V × H) := (match decide ((((n : Nat) : Int) : Int) < 1) with | true => none | false => (match decide (0 ≤ (0 : Int) ∧ (0 : Int) < ((n : Nat) : Int)) with | true => (match l[0]? with | some e1 => (mr_mn5 N (ce_mn5_0 N) N n e1 1 r l) | none => none) | false => none))
theorem mdl_mn (N : Nat) (n : Nat) (r : Bool) (l : List Nat) : run ty tab_mn an_mn N Try.f19 [.sl 0 0 n] [.at r (.fl .f32 l)] = md_mn N n r l := by
  rw [run_mn]
  unfold md_mn
  first | (simp only [H_mn5 N N]; done) | (simp only [H_mn5 N N]; kernel_rfl) | rfl
def o_mn (n : Nat) (r : Bool) (l : List Nat) : Option (V × H) → Option (Nat)
  | some (.fl .f32 x0, [.at r0 (.fl .f32 y0)]) => match decide (r0 = r ∧ y0 = l) with | true => some x0 | false => none
  | _ => none
theorem oi_mn {n : Nat} {r : Bool} {l : List Nat} {o : Option (V × H)} {z : Nat} (h : o_mn n r l o = some z) : o = some (.fl .f32 z, [.at r (.fl .f32 l)]) := by
  unfold o_mn at h
  split at h
  · split at h
    · rename_i hd
      obtain ⟨rfl, rfl⟩ := of_decide_eq_true hd
      cases h
      rfl
    · cases h
  · cases h
noncomputable def d_mn (n : Nat) (r : Bool) (l : List Nat) : Option (Nat) := o_mn n r l (md_mn 50 n r l)
noncomputable def v_mn (n : Nat) (r : Bool) (l : List Nat) : Nat := (d_mn n r l).getD 0
noncomputable def g_mn : GT := fun vs h => match vs, h with
  | [.sl 0 0 n], [.at r (.fl .f32 l)] => .ite (d_mn n r l).isSome (.ret (.fl .f32 (v_mn n r l)) [.at r (.fl .f32 l)]) .no
  | _, _ => .no
theorem ok_mn : FnT Try.prog 19 g_mn := by
  refine fnT tabok_mn Try.func19 rfl rfl an_mn fun vs h v h' e => ⟨50, ?_⟩
  unfold g_mn at e
  split at e
  · rename_i n r l
    obtain ⟨hs, e⟩ := T.pre_inv e
    obtain ⟨rfl, rfl⟩ := T.ret_inv e
    skip
    refine Eq.trans (mdl_mn 50 n r l) ?_
    obtain ⟨z, hz⟩ := Option.isSome_iff_exists.mp hs
    have hv : v_mn n r l = z := by unfold v_mn; rw [hz]; rfl
    rw [hv]
    exact oi_mn hz
  · exact (T.no_inv e).elim
def an_mx : Ann := ⟨fun r => if r = 5 then some ([0, 3, 4], [3]) else none, fun _ _ => .quiet⟩
noncomputable def tab_mx : Fns := tabT []
theorem tabok_mx : ∀ f, FnT Try.prog f (tab_mx f) := tabT_nil
def st_mx5 (x0n : Nat) (m3 : Nat) (i4 : Int) (rw0 : Bool) (l0 : List Nat) : St := ⟨(.sl 0 0 x0n :: .any :: .any :: .fl .f32 m3 :: .int .i64 i4 :: (anys 20 [])), [.at rw0 (.fl .f32 l0)]⟩
abbrev kp_mx5 : Option (List Nat × List Nat) := some ([0, 3, 4], [3])
noncomputable def lp_mx5 {R : Type} (N M : Nat) (s : St) (K : X → St → Option R) : Option R := loopH 1 kp_mx5 (fun st K => exec ty tab_mx an_mx N 1 (atOf [true, true, true, false, true, false, false] Try.f20) st K) M s K
noncomputable def kt_mx5 {R : Type} (N : Nat) (K : X → St → Option R) : X → St → Option R := kBlkR 0 (kSeqR tab_mx an_mx N 1 (atOf [true, true, true, true] Try.f20) (K))
def en_mx5_0 (m3 : Nat) (rw0 : Bool) (l0 : List Nat) : St := ⟨(.any :: .any :: .any :: .fl .f32 m3 :: (anys 21 [])), [.at rw0 (.fl .f32 l0)]⟩
theorem run_mx (N : Nat) (n : Nat) (r : Bool) (l : List Nat) : run ty tab_mx an_mx N Try.f20 [.sl 0 0 n] [.at r (.fl .f32 l)]
    = (match decide ((((n : Nat) : Int) : Int) < 1) with | true => none | false => (match decide (0 ≤ (0 : Int) ∧ (0 : Int) < ((n : Nat) : Int)) with | true => (match l[0]? with | some e1 => lp_mx5 N N (st_mx5 n e1 1 r l) (kt_mx5 N (kEnd Try.f20 1)) | none => none) | false => none)) := by
  kernel_rfl
theorem step_mx5 {R : Type} (N M : Nat) (K : X → St → Option R) (x0n : Nat) (m3 : Nat) (i4 : Int) (rw0 : Bool) (l0 : List Nat) : lp_mx5 N (M + 1) (st_mx5 x0n m3 i4 rw0 l0) K
    = (match decide ((i4 : Int) < ((x0n : Nat) : Int)) with | true => (match decide (0 ≤ (i4 : Int) ∧ (i4 : Int) < ((x0n : Nat) : Int)) with | true => (match l0[0 + (i4).toNat * 1]? with | some e1 => lp_mx5 N M (st_mx5 x0n (fmax .f32 m3 e1) (IntKind.i64.wrap (i4 + 1)) rw0 l0) K | none => none) | false => none) | false => K (.exit 0) (en_mx5_0 m3 rw0 l0)) := by
  kernel_rfl
theorem end_mx5_0 (N : Nat) (m3 : Nat) (rw0 : Bool) (l0 : List Nat) : kt_mx5 N (kEnd Try.f20 1) (.exit 0) (en_mx5_0 m3 rw0 l0)
    = some (.fl .f32 m3, [.at rw0 (.fl .f32 l0)]) := by
  kernel_rfl
noncomputable def ce_mx5_0 (N : Nat) (m3 : Nat) (rw0 : Bool) (l0 : List Nat) : Option (V × H) := some (.fl .f32 m3, [.at rw0 (.fl .f32 l0)])
noncomputable def mb_mx5 (N : Nat) (k0 : Nat → Bool → List Nat → Option (V × H)) (rq : Nat → Nat → Int → Bool → List Nat → Option (V × H)) : Nat → Nat → Int → Bool → List Nat → Option (V × H) := fun (x0n : Nat) (m3 : Nat) (i4 : Int) (rw0 : Bool) (l0 : List Nat) => (match decide ((i4 : Int) < ((x0n : Nat) : Int)) with | true => (match decide (0 ≤ (i4 : Int) ∧ (i4 : Int) < ((x0n : Nat) : Int)) with | true => (match l0[0 + (i4).toNat * 1]? with | some e1 => (rq x0n (fmax .f32 m3 e1) (IntKind.i64.wrap (i4 + 1)) rw0 l0) | none => none) | false => none) | false => (k0 m3 rw0 l0))
noncomputable def mr_mx5 (N : Nat) (k0 : Nat → Bool → List Nat → Option (V × H)) (M : Nat) : Nat → Nat → Int → Bool → List Nat → Option (V × H) := Nat.rec (motive := fun _ => Nat → Nat → Int → Bool → List Nat → Option (V × H)) (fun (_ : Nat) (_ : Nat) (_ : Int) (_ : Bool) (_ : List Nat) => none) (fun _ rq => mb_mx5 N k0 rq) M
theorem mrs_mx5 (N : Nat) (k0 : Nat → Bool → List Nat → Option (V × H)) (M : Nat) (x0n : Nat) (m3 : Nat) (i4 : Int) (rw0 : Bool) (l0 : List Nat) : mr_mx5 N k0 (M + 1) x0n m3 i4 rw0 l0 = mb_mx5 N k0 (mr_mx5 N k0 M) x0n m3 i4 rw0 l0 := rfl
theorem H_mx5 (N : Nat) : ∀ (M : Nat) (x0n : Nat) (m3 : Nat) (i4 : Int) (rw0 : Bool) (l0 : List Nat), lp_mx5 N M (st_mx5 x0n m3 i4 rw0 l0) (kt_mx5 N (kEnd Try.f20 1)) = mr_mx5 N (ce_mx5_0 N) M x0n m3 i4 rw0 l0 := by
  have he0 : ∀ (m3 : Nat) (rw0 : Bool) (l0 : List Nat), kt_mx5 N (kEnd Try.f20 1) (.exit 0) (en_mx5_0 m3 rw0 l0) = ce_mx5_0 N m3 rw0 l0 := by
    intro m3 rw0 l0
    rw [end_mx5_0]
    unfold ce_mx5_0
    first | (simp only []; done) | (simp only []; kernel_rfl) | rfl
  intro M
  induction M with
  | zero => intros; rfl
  | succ M ih =>
    intro x0n m3 i4 rw0 l0
    rw [step_mx5]
    rw [mrs_mx5]
    unfold mb_mx5
    first | (simp only [ih, he0]; done) | (simp only [ih, he0]; kernel_rfl) | rfl
noncomputable def md_mx (N : Nat) (n : Nat) (r : Bool) (l : List Nat) : Option (V × H) := (match decide ((((n : Nat) : Int) : Int) < 1) with | true => none | false => (match decide (0 ≤ (0 : Int) ∧ (0 : Int) < ((n : Nat) : Int)) with | true => (match l[0]? with | some e1 => (mr_mx5 N (ce_mx5_0 N) N n e1 1 r l) | none => none) | false => none))
theorem mdl_mx (N : Nat) (n : Nat) (r : Bool) (l : List Nat) : run ty tab_mx an_mx N Try.f20 [.sl 0 0 n] [.at r (.fl .f32 l)] = md_mx N n r l := by
  rw [run_mx]
  unfold md_mx
  first | (simp only [H_mx5 N N]; done) | (simp only [H_mx5 N N]; kernel_rfl) | rfl
def o_mx (n : Nat) (r : Bool) (l : List Nat) : Option (V × H) → Option (Nat)
  | some (.fl .f32 x0, [.at r0 (.fl .f32 y0)]) => match decide (r0 = r ∧ y0 = l) with | true => some x0 | false => none
  | _ => none
theorem oi_mx {n : Nat} {r : Bool} {l : List Nat} {o : Option (V × H)} {z : Nat} (h : o_mx n r l o = some z) : o = some (.fl .f32 z, [.at r (.fl .f32 l)]) := by
  unfold o_mx at h
  split at h
  · split at h
    · rename_i hd
      obtain ⟨rfl, rfl⟩ := of_decide_eq_true hd
      cases h
      rfl
    · cases h
  · cases h
noncomputable def d_mx (n : Nat) (r : Bool) (l : List Nat) : Option (Nat) := o_mx n r l (md_mx 50 n r l)
noncomputable def v_mx (n : Nat) (r : Bool) (l : List Nat) : Nat := (d_mx n r l).getD 0
noncomputable def g_mx : GT := fun vs h => match vs, h with
  | [.sl 0 0 n], [.at r (.fl .f32 l)] => .ite (d_mx n r l).isSome (.ret (.fl .f32 (v_mx n r l)) [.at r (.fl .f32 l)]) .no
  | _, _ => .no
theorem ok_mx : FnT Try.prog 20 g_mx := by
  refine fnT tabok_mx Try.func20 rfl rfl an_mx fun vs h v h' e => ⟨50, ?_⟩
  unfold g_mx at e
  split at e
  · rename_i n r l
    obtain ⟨hs, e⟩ := T.pre_inv e
    obtain ⟨rfl, rfl⟩ := T.ret_inv e
    skip
    refine Eq.trans (mdl_mx 50 n r l) ?_
    obtain ⟨z, hz⟩ := Option.isSome_iff_exists.mp hs
    have hv : v_mx n r l = z := by unfold v_mx; rw [hz]; rfl
    rw [hv]
    exact oi_mx hz
  · exact (T.no_inv e).elim
noncomputable def tab_ar : Fns := tabT [(26, gAllT finB), (17, gT (gF1 finB))]
theorem tabok_ar : ∀ f, FnT Try.prog f (tab_ar f) := (tabT_cons (k := 26) ok_areFinite (tabT_cons (k := 17) ok_IsFinite tabT_nil))
theorem run_ar (N : Nat) (n : Nat) (b : Nat) (r : Bool) (l : List Nat) : run ty tab_ar ann0 N Try.f15 [.sl 0 0 n, .fl .f32 b] [.at r (.fl .f32 l)]
    = (match decide ((((n : Nat) : Int) : Int) ≥ 1) with | true => (match decide ((((n : Nat) : Int) : Int) ≤ 48) with | true => (match decide (l.length = n ∧ n < 2147483648) with | true => (match l.all finB with | true => some (.bool (finB b), [.at r (.fl .f32 l)]) | false => some (.bool false, [.at r (.fl .f32 l)])) | false => none) | false => some (.bool false, [.at r (.fl .f32 l)])) | false => some (.bool false, [.at r (.fl .f32 l)])) := by
  kernel_rfl
noncomputable def md_ar (N : Nat) (n : Nat) (b : Nat) (r : Bool) (l : List Nat) : Option (V × H) := (match decide ((((n : Nat) : Int) : Int) ≥ 1) with | true => (match decide ((((n : Nat) : Int) : Int) ≤ 48) with | true => (match decide (l.length = n ∧ n < 2147483648) with | true => (match l.all finB with | true => some (.bool (finB b), [.at r (.fl .f32 l)]) | false => some (.bool false, [.at r (.fl .f32 l)])) | false => none) | false => some (.bool false, [.at r (.fl .f32 l)])) | false => some (.bool false, [.at r (.fl .f32 l)]))
theorem mdl_ar (N : Nat) (n : Nat) (b : Nat) (r : Bool) (l : List Nat) : run ty tab_ar ann0 N Try.f15 [.sl 0 0 n, .fl .f32 b] [.at r (.fl .f32 l)] = md_ar N n b r l := by
  rw [run_ar]
  unfold md_ar
  first | (simp only [eq_self]; done) | (simp only [eq_self]; kernel_rfl) | rfl
def o_ar (n : Nat) (b : Nat) (r : Bool) (l : List Nat) : Option (V × H) → Option (Bool)
  | some (.bool x0, [.at r0 (.fl .f32 y0)]) => match decide (r0 = r ∧ y0 = l) with | true => some x0 | false => none
  | _ => none
theorem oi_ar {n : Nat} {b : Nat} {r : Bool} {l : List Nat} {o : Option (V × H)} {z : Bool} (h : o_ar n b r l o = some z) : o = some (.bool z, [.at r (.fl .f32 l)]) := by
  unfold o_ar at h
  split at h
  · split at h
    · rename_i hd
      obtain ⟨rfl, rfl⟩ := of_decide_eq_true hd
      cases h
      rfl
    · cases h
  · cases h
noncomputable def d_ar (n : Nat) (b : Nat) (r : Bool) (l : List Nat) : Option (Bool) := o_ar n b r l (md_ar 50 n b r l)
noncomputable def v_ar (n : Nat) (b : Nat) (r : Bool) (l : List Nat) : Bool := (d_ar n b r l).getD false
noncomputable def g_ar : GT := fun vs h => match vs, h with
  | [.sl 0 0 n, .fl .f32 b], [.at r (.fl .f32 l)] => .ite (d_ar n b r l).isSome (.ret (.bool (v_ar n b r l)) [.at r (.fl .f32 l)]) .no
  | _, _ => .no
theorem ok_ar : FnT Try.prog 15 g_ar := by
  refine fnT tabok_ar Try.func15 rfl rfl ann0 fun vs h v h' e => ⟨50, ?_⟩
  unfold g_ar at e
  split at e
  · rename_i n b r l
    obtain ⟨hs, e⟩ := T.pre_inv e
    obtain ⟨rfl, rfl⟩ := T.ret_inv e
    skip
    refine Eq.trans (mdl_ar 50 n b r l) ?_
    obtain ⟨z, hz⟩ := Option.isSome_iff_exists.mp hs
    have hv : v_ar n b r l = z := by unfold v_ar; rw [hz]; rfl
    rw [hv]
    exact oi_ar hz
  · exact (T.no_inv e).elim
def an_cb : Ann := ⟨fun r => if r = 3 then some ([1, 2, 7, 8, 11, 12, 13], [7]) else none, fun _ _ => .quiet⟩
noncomputable def tab_cb : Fns := tabT [(23, gT gNz)]
theorem tabok_cb : ∀ f, FnT Try.prog f (tab_cb f) := (tabT_cons (k := 23) ok_nz tabT_nil)
def st_cb3 (beside1 : Nat) (energy2 : Nat) (many7 : Int) (q8 : Nat) (t11n : Nat) (t12 : Int) (t13 : Int) (rw0 : Bool) (l0 : List Nat) : St := ⟨(.any :: .fl .f32 beside1 :: .fl .f32 energy2 :: .any :: .any :: .any :: .any :: .int .i64 many7 :: .fl .f32 q8 :: .any :: .any :: .sl 0 0 t11n :: .int .i64 t12 :: .int .i64 t13 :: (anys 26 [])), [.at rw0 (.fl .f32 l0)]⟩
abbrev kp_cb3 : Option (List Nat × List Nat) := some ([1, 2, 7, 8, 11, 12, 13], [7])
noncomputable def lp_cb3 {R : Type} (N M : Nat) (s : St) (K : X → St → Option R) : Option R := loopH 1 kp_cb3 (fun st K => exec ty tab_cb an_cb N 1 (atOf [true, true, false, true, false, false] Try.f18) st K) M s K
noncomputable def kt_cb3 {R : Type} (N : Nat) (K : X → St → Option R) : X → St → Option R := kBlkR 0 (kSeqR tab_cb an_cb N 1 (atOf [true, true, true] Try.f18) (K))
def en_cb3_0 (many7 : Int) (rw0 : Bool) (l0 : List Nat) : St := ⟨(anys 7 (.int .i64 many7 :: (anys 32 []))), [.at rw0 (.fl .f32 l0)]⟩
theorem run_cb (N : Nat) (n : Nat) (b : Nat) (x : Nat) (r : Bool) (l : List Nat) : run ty tab_cb an_cb N Try.f18 [.sl 0 0 n, .fl .f32 b, .fl .f32 x] [.at r (.fl .f32 l)]
    = lp_cb3 N N (st_cb3 b x 0 0 n ((n : Nat) : Int) 0 r l) (kt_cb3 N (kEnd Try.f18 1)) := by
  kernel_rfl
theorem step_cb3 {R : Type} (N M : Nat) (K : X → St → Option R) (beside1 : Nat) (energy2 : Nat) (many7 : Int) (q8 : Nat) (t11n : Nat) (t12 : Int) (t13 : Int) (rw0 : Bool) (l0 : List Nat) : lp_cb3 N (M + 1) (st_cb3 beside1 energy2 many7 q8 t11n t12 t13 rw0 l0) K
    = (match decide ((t13 : Int) < t12) with | true => (match decide (0 ≤ (t13 : Int) ∧ (t13 : Int) < ((t11n : Nat) : Int)) with | true => (match l0[0 + (t13).toNat * 1]? with | some e1 => (match t13 == 0 with | true => (match ltB (nzF (fop .sub .f32 e1 energy2)) 0 with | true => lp_cb3 N M (st_cb3 beside1 energy2 (IntKind.i64.wrap (many7 + 1)) (nzF (fop .sub .f32 e1 energy2)) t11n t12 (IntKind.i64.wrap (t13 + 1)) rw0 l0) K | false => lp_cb3 N M (st_cb3 beside1 energy2 many7 (nzF (fop .sub .f32 e1 energy2)) t11n t12 (IntKind.i64.wrap (t13 + 1)) rw0 l0) K) | false => (match ltB (nzF (fop .sub .f32 (fop .sub .f32 e1 energy2) (fop .quo .f32 (fop .mul .f32 beside1 beside1) q8))) 0 with | true => lp_cb3 N M (st_cb3 beside1 energy2 (IntKind.i64.wrap (many7 + 1)) (nzF (fop .sub .f32 (fop .sub .f32 e1 energy2) (fop .quo .f32 (fop .mul .f32 beside1 beside1) q8))) t11n t12 (IntKind.i64.wrap (t13 + 1)) rw0 l0) K | false => lp_cb3 N M (st_cb3 beside1 energy2 many7 (nzF (fop .sub .f32 (fop .sub .f32 e1 energy2) (fop .quo .f32 (fop .mul .f32 beside1 beside1) q8))) t11n t12 (IntKind.i64.wrap (t13 + 1)) rw0 l0) K)) | none => none) | false => none) | false => K (.exit 0) (en_cb3_0 many7 rw0 l0)) := by
  kernel_rfl
theorem end_cb3_0 (N : Nat) (many7 : Int) (rw0 : Bool) (l0 : List Nat) : kt_cb3 N (kEnd Try.f18 1) (.exit 0) (en_cb3_0 many7 rw0 l0)
    = some (.int .i64 many7, [.at rw0 (.fl .f32 l0)]) := by
  kernel_rfl
noncomputable def ce_cb3_0 (N : Nat) (many7 : Int) (rw0 : Bool) (l0 : List Nat) : Option (V × H) := some (.int .i64 many7, [.at rw0 (.fl .f32 l0)])
noncomputable def mb_cb3 (N : Nat) (k0 : Int → Bool → List Nat → Option (V × H)) (rq : Nat → Nat → Int → Nat → Nat → Int → Int → Bool → List Nat → Option (V × H)) : Nat → Nat → Int → Nat → Nat → Int → Int → Bool → List Nat → Option (V × H) := fun (beside1 : Nat) (energy2 : Nat) (many7 : Int) (q8 : Nat) (t11n : Nat) (t12 : Int) (t13 : Int) (rw0 : Bool) (l0 : List Nat) => (match decide ((t13 : Int) < t12) with | true => (match decide (0 ≤ (t13 : Int) ∧ (t13 : Int) < ((t11n : Nat) : Int)) with | true => (match l0[0 + (t13).toNat * 1]? with | some e1 => (match t13 == 0 with | true => (match ltB (nzF (fop .sub .f32 e1 energy2)) 0 with | true => (rq beside1 energy2 (IntKind.i64.wrap (many7 + 1)) (nzF (fop .sub .f32 e1 energy2)) t11n t12 (IntKind.i64.wrap (t13 + 1)) rw0 l0) | false => (rq beside1 energy2 many7 (nzF (fop .sub .f32 e1 energy2)) t11n t12 (IntKind.i64.wrap (t13 + 1)) rw0 l0)) | false => (match ltB (nzF (fop .sub .f32 (fop .sub .f32 e1 energy2) (fop .quo .f32 (fop .mul .f32 beside1 beside1) q8))) 0 with | true => (rq beside1 energy2 (IntKind.i64.wrap (many7 + 1)) (nzF (fop .sub .f32 (fop .sub .f32 e1 energy2) (fop .quo .f32 (fop .mul .f32 beside1 beside1) q8))) t11n t12 (IntKind.i64.wrap (t13 + 1)) rw0 l0) | false => (rq beside1 energy2 many7 (nzF (fop .sub .f32 (fop .sub .f32 e1 energy2) (fop .quo .f32 (fop .mul .f32 beside1 beside1) q8))) t11n t12 (IntKind.i64.wrap (t13 + 1)) rw0 l0))) | none => none) | false => none) | false => (k0 many7 rw0 l0))
noncomputable def mr_cb3 (N : Nat) (k0 : Int → Bool → List Nat → Option (V × H)) (M : Nat) : Nat → Nat → Int → Nat → Nat → Int → Int → Bool → List Nat → Option (V × H) := Nat.rec (motive := fun _ => Nat → Nat → Int → Nat → Nat → Int → Int → Bool → List Nat → Option (V × H)) (fun (_ : Nat) (_ : Nat) (_ : Int) (_ : Nat) (_ : Nat) (_ : Int) (_ : Int) (_ : Bool) (_ : List Nat) => none) (fun _ rq => mb_cb3 N k0 rq) M
theorem mrs_cb3 (N : Nat) (k0 : Int → Bool → List Nat → Option (V × H)) (M : Nat) (beside1 : Nat) (energy2 : Nat) (many7 : Int) (q8 : Nat) (t11n : Nat) (t12 : Int) (t13 : Int) (rw0 : Bool) (l0 : List Nat) : mr_cb3 N k0 (M + 1) beside1 energy2 many7 q8 t11n t12 t13 rw0 l0 = mb_cb3 N k0 (mr_cb3 N k0 M) beside1 energy2 many7 q8 t11n t12 t13 rw0 l0 := rfl
theorem H_cb3 (N : Nat) : ∀ (M : Nat) (beside1 : Nat) (energy2 : Nat) (many7 : Int) (q8 : Nat) (t11n : Nat) (t12 : Int) (t13 : Int) (rw0 : Bool) (l0 : List Nat), lp_cb3 N M (st_cb3 beside1 energy2 many7 q8 t11n t12 t13 rw0 l0) (kt_cb3 N (kEnd Try.f18 1)) = mr_cb3 N (ce_cb3_0 N) M beside1 energy2 many7 q8 t11n t12 t13 rw0 l0 := by
  have he0 : ∀ (many7 : Int) (rw0 : Bool) (l0 : List Nat), kt_cb3 N (kEnd Try.f18 1) (.exit 0) (en_cb3_0 many7 rw0 l0) = ce_cb3_0 N many7 rw0 l0 := by
    intro many7 rw0 l0
    rw [end_cb3_0]
    unfold ce_cb3_0
    first | (simp only []; done) | (simp only []; kernel_rfl) | rfl
  intro M
  induction M with
  | zero => intros; rfl
  | succ M ih =>
    intro beside1 energy2 many7 q8 t11n t12 t13 rw0 l0
    rw [step_cb3]
    rw [mrs_cb3]
    unfold mb_cb3
    first | (simp only [ih, he0]; done) | (simp only [ih, he0]; kernel_rfl) | rfl
noncomputable def md_cb (N : Nat) (n : Nat) (b : Nat) (x : Nat) (r : Bool) (l : List Nat) : Option (V × H) := (mr_cb3 N (ce_cb3_0 N) N b x 0 0 n ((n : Nat) : Int) 0 r l)
theorem mdl_cb (N : Nat) (n : Nat) (b : Nat) (x : Nat) (r : Bool) (l : List Nat) : run ty tab_cb an_cb N Try.f18 [.sl 0 0 n, .fl .f32 b, .fl .f32 x] [.at r (.fl .f32 l)] = md_cb N n b x r l := by
  rw [run_cb]
  unfold md_cb
  first | (simp only [H_cb3 N N]; done) | (simp only [H_cb3 N N]; kernel_rfl) | rfl
def o_cb (n : Nat) (b : Nat) (x : Nat) (r : Bool) (l : List Nat) : Option (V × H) → Option (Int)
  | some (.int .i64 x0, [.at r0 (.fl .f32 y0)]) => match decide (r0 = r ∧ y0 = l) with | true => some x0 | false => none
  | _ => none
theorem oi_cb {n : Nat} {b : Nat} {x : Nat} {r : Bool} {l : List Nat} {o : Option (V × H)} {z : Int} (h : o_cb n b x r l o = some z) : o = some (.int .i64 z, [.at r (.fl .f32 l)]) := by
  unfold o_cb at h
  split at h
  · split at h
    · rename_i hd
      obtain ⟨rfl, rfl⟩ := of_decide_eq_true hd
      cases h
      rfl
    · cases h
  · cases h
noncomputable def d_cb (n : Nat) (b : Nat) (x : Nat) (r : Bool) (l : List Nat) : Option (Int) := o_cb n b x r l (md_cb 50 n b x r l)
noncomputable def v_cb (n : Nat) (b : Nat) (x : Nat) (r : Bool) (l : List Nat) : Int := (d_cb n b x r l).getD 0
noncomputable def g_cb : GT := fun vs h => match vs, h with
  | [.sl 0 0 n, .fl .f32 b, .fl .f32 x], [.at r (.fl .f32 l)] => .ite (d_cb n b x r l).isSome (.ret (.int .i64 (v_cb n b x r l)) [.at r (.fl .f32 l)]) .no
  | _, _ => .no
theorem ok_cb : FnT Try.prog 18 g_cb := by
  refine fnT tabok_cb Try.func18 rfl rfl an_cb fun vs h v h' e => ⟨50, ?_⟩
  unfold g_cb at e
  split at e
  · rename_i n b x r l
    obtain ⟨hs, e⟩ := T.pre_inv e
    obtain ⟨rfl, rfl⟩ := T.ret_inv e
    skip
    refine Eq.trans (mdl_cb 50 n b x r l) ?_
    obtain ⟨z, hz⟩ := Option.isSome_iff_exists.mp hs
    have hv : v_cb n b x r l = z := by unfold v_cb; rw [hz]; rfl
    rw [hv]
    exact oi_cb hz
  · exact (T.no_inv e).elim
noncomputable def tab_CB : Fns := tabT [(15, g_ar), (17, gT (gF1 finB)), (18, g_cb)]
theorem tabok_CB : ∀ f, FnT Try.prog f (tab_CB f) := (tabT_cons (k := 15) ok_ar (tabT_cons (k := 17) ok_IsFinite (tabT_cons (k := 18) ok_cb tabT_nil)))
theorem run_CB (N : Nat) (n : Nat) (b : Nat) (x : Nat) (r : Bool) (l : List Nat) : run ty tab_CB ann0 N Try.f8 [.sl 0 0 n, .fl .f32 b, .fl .f32 x] [.at r (.fl .f32 l)]
    = (match (d_ar n b r l).isSome with | true => (match !(v_ar n b r l) with | true => some (.tup [.a (.int .i64 0), .a (.bool false)], [.at r (.fl .f32 l)]) | false => (match !(finB x) with | true => some (.tup [.a (.int .i64 0), .a (.bool false)], [.at r (.fl .f32 l)]) | false => (match (d_cb n b x r l).isSome with | true => some (.tup [.a (.int .i64 (v_cb n b x r l)), .a (.bool true)], [.at r (.fl .f32 l)]) | false => none))) | false => none) := by
  kernel_rfl
noncomputable def md_CB (N : Nat) (n : Nat) (b : Nat) (x : Nat) (r : Bool) (l : List Nat) : Option (V × H) := (match (d_ar n b r l).isSome with | true => (match !(v_ar n b r l) with | true => some (.tup [.a (.int .i64 0), .a (.bool false)], [.at r (.fl .f32 l)]) | false => (match !(finB x) with | true => some (.tup [.a (.int .i64 0), .a (.bool false)], [.at r (.fl .f32 l)]) | false => (match (d_cb n b x r l).isSome with | true => some (.tup [.a (.int .i64 (v_cb n b x r l)), .a (.bool true)], [.at r (.fl .f32 l)]) | false => none))) | false => none)
theorem mdl_CB (N : Nat) (n : Nat) (b : Nat) (x : Nat) (r : Bool) (l : List Nat) : run ty tab_CB ann0 N Try.f8 [.sl 0 0 n, .fl .f32 b, .fl .f32 x] [.at r (.fl .f32 l)] = md_CB N n b x r l := by
  rw [run_CB]
  unfold md_CB
  first | (simp only [eq_self]; done) | (simp only [eq_self]; kernel_rfl) | rfl
def o_CB (n : Nat) (b : Nat) (x : Nat) (r : Bool) (l : List Nat) : Option (V × H) → Option (Int × Bool)
  | some (.tup [.a (.int .i64 x0), .a (.bool x1)], [.at r0 (.fl .f32 y0)]) => match decide (r0 = r ∧ y0 = l) with | true => some (x0, x1) | false => none
  | _ => none
theorem oi_CB {n : Nat} {b : Nat} {x : Nat} {r : Bool} {l : List Nat} {o : Option (V × H)} {z : Int × Bool} (h : o_CB n b x r l o = some z) : o = some (.tup [.a (.int .i64 z.1), .a (.bool z.2)], [.at r (.fl .f32 l)]) := by
  unfold o_CB at h
  split at h
  · split at h
    · rename_i hd
      obtain ⟨rfl, rfl⟩ := of_decide_eq_true hd
      cases h
      rfl
    · cases h
  · cases h
noncomputable def d_CB (n : Nat) (b : Nat) (x : Nat) (r : Bool) (l : List Nat) : Option (Int × Bool) := o_CB n b x r l (md_CB 50 n b x r l)
noncomputable def v_CB (n : Nat) (b : Nat) (x : Nat) (r : Bool) (l : List Nat) : Int × Bool := (d_CB n b x r l).getD (0, false)
noncomputable def g_CB : GT := fun vs h => match vs, h with
  | [.sl 0 0 n, .fl .f32 b, .fl .f32 x], [.at r (.fl .f32 l)] => .ite (d_CB n b x r l).isSome (.ret (.tup [.a (.int .i64 ((v_CB n b x r l).1)), .a (.bool ((v_CB n b x r l).2))]) [.at r (.fl .f32 l)]) .no
  | _, _ => .no
theorem ok_CB : FnT Try.prog 8 g_CB := by
  refine fnT tabok_CB Try.func8 rfl rfl ann0 fun vs h v h' e => ⟨50, ?_⟩
  unfold g_CB at e
  split at e
  · rename_i n b x r l
    obtain ⟨hs, e⟩ := T.pre_inv e
    obtain ⟨rfl, rfl⟩ := T.ret_inv e
    skip
    refine Eq.trans (mdl_CB 50 n b x r l) ?_
    obtain ⟨z, hz⟩ := Option.isSome_iff_exists.mp hs
    have hv : v_CB n b x r l = z := by unfold v_CB; rw [hz]; rfl
    rw [hv]
    exact oi_CB hz
  · exact (T.no_inv e).elim
def an_lo : Ann := ⟨fun r => if r = 8 then some ([0, 1, 2, 11, 12, 48, 49], [8, 9, 12]) else none, fun _ _ => .quiet⟩
noncomputable def tab_lo : Fns := tabT [(15, g_ar), (16, gT gIn), (19, g_mn), (20, g_mx), (8, g_CB), (21, gNumT)]
theorem tabok_lo : ∀ f, FnT Try.prog f (tab_lo f) := (tabT_cons (k := 15) ok_ar (tabT_cons (k := 16) ok_within (tabT_cons (k := 19) ok_mn (tabT_cons (k := 20) ok_mx (tabT_cons (k := 8) ok_CB (tabT_cons (k := 21) ok_checked tabT_nil))))))
def st_lo8 (rows0n : Nat) (beside1 : Nat) (k2 : Int) (low11 : Nat) (high12 : Nat) (t48 : Int) (t49 : Int) (rw0 : Bool) (l0 : List Nat) : St := ⟨(.sl 0 0 rows0n :: .fl .f32 beside1 :: .int .i64 k2 :: (anys 8 (.fl .f32 low11 :: .fl .f32 high12 :: (anys 35 (.int .i64 t48 :: .int .i64 t49 :: (anys 24 [])))))), [.at rw0 (.fl .f32 l0)]⟩
abbrev kp_lo8 : Option (List Nat × List Nat) := some ([0, 1, 2, 11, 12, 48, 49], [8, 9, 12])
noncomputable def lp_lo8 {R : Type} (N M : Nat) (s : St) (K : X → St → Option R) : Option R := loopH 1 kp_lo8 (fun st K => exec ty tab_lo an_lo N 1 (atOf [true, true, true, true, true, false, true, false, false] Try.f9) st K) M s K
noncomputable def kt_lo8 {R : Type} (N : Nat) (K : X → St → Option R) : X → St → Option R := kBlkR 0 (kSeqR tab_lo an_lo N 1 (atOf [true, true, true, true, true, true] Try.f9) (K))
def en_lo8_0 (high12 : Nat) (rw0 : Bool) (l0 : List Nat) : St := ⟨(anys 8 (.fl .f32 0 :: .bool false :: .any :: .any :: .fl .f32 high12 :: (anys 61 []))), [.at rw0 (.fl .f32 l0)]⟩
def en_lo8_1 (high12 : Nat) (rw0 : Bool) (l0 : List Nat) : St := ⟨(anys 12 (.fl .f32 high12 :: (anys 61 []))), [.at rw0 (.fl .f32 l0)]⟩
theorem run_lo (N : Nat) (n : Nat) (b : Nat) (k : Int) (q : Int) (r : Bool) (l : List Nat) : run ty tab_lo an_lo N Try.f9 [.sl 0 0 n, .fl .f32 b, .int .i64 k, .int .i64 q] [.at r (.fl .f32 l)]
    = (match (d_ar n b r l).isSome with | true => (match !(v_ar n b r l) with | true => some (.tup [.a (.fl .f32 0), .a (.bool false)], [.at r (.fl .f32 l)]) | false => (match !(inB k 0 (IntKind.i64.wrap (((n : Nat) : Int) - 1))) with | true => some (.tup [.a (.fl .f32 0), .a (.bool false)], [.at r (.fl .f32 l)]) | false => (match !(inB q 1 40) with | true => some (.tup [.a (.fl .f32 0), .a (.bool false)], [.at r (.fl .f32 l)]) | false => (match ltB b 0 with | true => (match (d_mn n r l).isSome with | true => (match (d_mx n r l).isSome with | true => lp_lo8 N N (st_lo8 n b k (fop .sub .f32 (v_mn n r l) (fop .mul .f32 1073741824 (fneg .f32 b))) (fop .add .f32 (v_mx n r l) (fop .mul .f32 1073741824 (fneg .f32 b))) q 0 r l) (kt_lo8 N (kEnd Try.f9 1)) | false => none) | false => none) | false => (match (d_mn n r l).isSome with | true => (match (d_mx n r l).isSome with | true => lp_lo8 N N (st_lo8 n b k (fop .sub .f32 (v_mn n r l) (fop .mul .f32 1073741824 b)) (fop .add .f32 (v_mx n r l) (fop .mul .f32 1073741824 b)) q 0 r l) (kt_lo8 N (kEnd Try.f9 1)) | false => none) | false => none))))) | false => none) := by
  kernel_rfl
theorem step_lo8 {R : Type} (N M : Nat) (K : X → St → Option R) (rows0n : Nat) (beside1 : Nat) (k2 : Int) (low11 : Nat) (high12 : Nat) (t48 : Int) (t49 : Int) (rw0 : Bool) (l0 : List Nat) : lp_lo8 N (M + 1) (st_lo8 rows0n beside1 k2 low11 high12 t48 t49 rw0 l0) K
    = (match decide ((t49 : Int) < t48) with | true => (match (d_CB rows0n beside1 (fop .mul .f32 1056964608 (fop .add .f32 low11 high12)) rw0 l0).isSome with | true => (match !((v_CB rows0n beside1 (fop .mul .f32 1056964608 (fop .add .f32 low11 high12)) rw0 l0).2) with | true => K .ret (en_lo8_0 high12 rw0 l0) | false => (match decide (((v_CB rows0n beside1 (fop .mul .f32 1056964608 (fop .add .f32 low11 high12)) rw0 l0).1 : Int) > k2) with | true => lp_lo8 N M (st_lo8 rows0n beside1 k2 low11 (fop .mul .f32 1056964608 (fop .add .f32 low11 high12)) t48 (IntKind.i64.wrap (t49 + 1)) rw0 l0) K | false => lp_lo8 N M (st_lo8 rows0n beside1 k2 (fop .mul .f32 1056964608 (fop .add .f32 low11 high12)) high12 t48 (IntKind.i64.wrap (t49 + 1)) rw0 l0) K)) | false => none) | false => K (.exit 0) (en_lo8_1 high12 rw0 l0)) := by
  kernel_rfl
theorem end_lo8_0 (N : Nat) (high12 : Nat) (rw0 : Bool) (l0 : List Nat) : kt_lo8 N (kEnd Try.f9 1) .ret (en_lo8_0 high12 rw0 l0)
    = some (.tup [.a (.fl .f32 0), .a (.bool false)], [.at rw0 (.fl .f32 l0)]) := by
  kernel_rfl
theorem end_lo8_1 (N : Nat) (high12 : Nat) (rw0 : Bool) (l0 : List Nat) : kt_lo8 N (kEnd Try.f9 1) (.exit 0) (en_lo8_1 high12 rw0 l0)
    = (match finB high12 with | true => some (.tup [.a (.fl .f32 high12), .a (.bool true)], [.at rw0 (.fl .f32 l0)]) | false => some (.tup [.a (.fl .f32 0), .a (.bool false)], [.at rw0 (.fl .f32 l0)])) := by
  kernel_rfl
noncomputable def ce_lo8_0 (N : Nat) (high12 : Nat) (rw0 : Bool) (l0 : List Nat) : Option (V × H) := some (.tup [.a (.fl .f32 0), .a (.bool false)], [.at rw0 (.fl .f32 l0)])
noncomputable def ce_lo8_1 (N : Nat) (high12 : Nat) (rw0 : Bool) (l0 : List Nat) : Option (V × H) := (match finB high12 with | true => some (.tup [.a (.fl .f32 high12), .a (.bool true)], [.at rw0 (.fl .f32 l0)]) | false => some (.tup [.a (.fl .f32 0), .a (.bool false)], [.at rw0 (.fl .f32 l0)]))
noncomputable def mb_lo8 (N : Nat) (k0 : Nat → Bool → List Nat → Option (V × H)) (k1 : Nat → Bool → List Nat → Option (V × H)) (rq : Nat → Nat → Int → Nat → Nat → Int → Int → Bool → List Nat → Option (V × H)) : Nat → Nat → Int → Nat → Nat → Int → Int → Bool → List Nat → Option (V × H) := fun (rows0n : Nat) (beside1 : Nat) (k2 : Int) (low11 : Nat) (high12 : Nat) (t48 : Int) (t49 : Int) (rw0 : Bool) (l0 : List Nat) => (match decide ((t49 : Int) < t48) with | true => (match (d_CB rows0n beside1 (fop .mul .f32 1056964608 (fop .add .f32 low11 high12)) rw0 l0).isSome with | true => (match !((v_CB rows0n beside1 (fop .mul .f32 1056964608 (fop .add .f32 low11 high12)) rw0 l0).2) with | true => (k0 high12 rw0 l0) | false => (match decide (((v_CB rows0n beside1 (fop .mul .f32 1056964608 (fop .add .f32 low11 high12)) rw0 l0).1 : Int) > k2) with | true => (rq rows0n beside1 k2 low11 (fop .mul .f32 1056964608 (fop .add .f32 low11 high12)) t48 (IntKind.i64.wrap (t49 + 1)) rw0 l0) | false => (rq rows0n beside1 k2 (fop .mul .f32 1056964608 (fop .add .f32 low11 high12)) high12 t48 (IntKind.i64.wrap (t49 + 1)) rw0 l0))) | false => none) | false => (k1 high12 rw0 l0))
noncomputable def mr_lo8 (N : Nat) (k0 : Nat → Bool → List Nat → Option (V × H)) (k1 : Nat → Bool → List Nat → Option (V × H)) (M : Nat) : Nat → Nat → Int → Nat → Nat → Int → Int → Bool → List Nat → Option (V × H) := Nat.rec (motive := fun _ => Nat → Nat → Int → Nat → Nat → Int → Int → Bool → List Nat → Option (V × H)) (fun (_ : Nat) (_ : Nat) (_ : Int) (_ : Nat) (_ : Nat) (_ : Int) (_ : Int) (_ : Bool) (_ : List Nat) => none) (fun _ rq => mb_lo8 N k0 k1 rq) M
theorem mrs_lo8 (N : Nat) (k0 : Nat → Bool → List Nat → Option (V × H)) (k1 : Nat → Bool → List Nat → Option (V × H)) (M : Nat) (rows0n : Nat) (beside1 : Nat) (k2 : Int) (low11 : Nat) (high12 : Nat) (t48 : Int) (t49 : Int) (rw0 : Bool) (l0 : List Nat) : mr_lo8 N k0 k1 (M + 1) rows0n beside1 k2 low11 high12 t48 t49 rw0 l0 = mb_lo8 N k0 k1 (mr_lo8 N k0 k1 M) rows0n beside1 k2 low11 high12 t48 t49 rw0 l0 := rfl
theorem H_lo8 (N : Nat) : ∀ (M : Nat) (rows0n : Nat) (beside1 : Nat) (k2 : Int) (low11 : Nat) (high12 : Nat) (t48 : Int) (t49 : Int) (rw0 : Bool) (l0 : List Nat), lp_lo8 N M (st_lo8 rows0n beside1 k2 low11 high12 t48 t49 rw0 l0) (kt_lo8 N (kEnd Try.f9 1)) = mr_lo8 N (ce_lo8_0 N) (ce_lo8_1 N) M rows0n beside1 k2 low11 high12 t48 t49 rw0 l0 := by
  have he0 : ∀ (high12 : Nat) (rw0 : Bool) (l0 : List Nat), kt_lo8 N (kEnd Try.f9 1) .ret (en_lo8_0 high12 rw0 l0) = ce_lo8_0 N high12 rw0 l0 := by
    intro high12 rw0 l0
    rw [end_lo8_0]
    unfold ce_lo8_0
    first | (simp only []; done) | (simp only []; kernel_rfl) | rfl
  have he1 : ∀ (high12 : Nat) (rw0 : Bool) (l0 : List Nat), kt_lo8 N (kEnd Try.f9 1) (.exit 0) (en_lo8_1 high12 rw0 l0) = ce_lo8_1 N high12 rw0 l0 := by
    intro high12 rw0 l0
    rw [end_lo8_1]
    unfold ce_lo8_1
    first | (simp only []; done) | (simp only []; kernel_rfl) | rfl
  intro M
  induction M with
  | zero => intros; rfl
  | succ M ih =>
    intro rows0n beside1 k2 low11 high12 t48 t49 rw0 l0
    rw [step_lo8]
    rw [mrs_lo8]
    unfold mb_lo8
    first | (simp only [ih, he0, he1]; done) | (simp only [ih, he0, he1]; kernel_rfl) | rfl
noncomputable def md_lo (N : Nat) (n : Nat) (b : Nat) (k : Int) (q : Int) (r : Bool) (l : List Nat) : Option (V × H) := (match (d_ar n b r l).isSome with | true => (match !(v_ar n b r l) with | true => some (.tup [.a (.fl .f32 0), .a (.bool false)], [.at r (.fl .f32 l)]) | false => (match !(inB k 0 (IntKind.i64.wrap (((n : Nat) : Int) - 1))) with | true => some (.tup [.a (.fl .f32 0), .a (.bool false)], [.at r (.fl .f32 l)]) | false => (match !(inB q 1 40) with | true => some (.tup [.a (.fl .f32 0), .a (.bool false)], [.at r (.fl .f32 l)]) | false => (match ltB b 0 with | true => (match (d_mn n r l).isSome with | true => (match (d_mx n r l).isSome with | true => (mr_lo8 N (ce_lo8_0 N) (ce_lo8_1 N) N n b k (fop .sub .f32 (v_mn n r l) (fop .mul .f32 1073741824 (fneg .f32 b))) (fop .add .f32 (v_mx n r l) (fop .mul .f32 1073741824 (fneg .f32 b))) q 0 r l) | false => none) | false => none) | false => (match (d_mn n r l).isSome with | true => (match (d_mx n r l).isSome with | true => (mr_lo8 N (ce_lo8_0 N) (ce_lo8_1 N) N n b k (fop .sub .f32 (v_mn n r l) (fop .mul .f32 1073741824 b)) (fop .add .f32 (v_mx n r l) (fop .mul .f32 1073741824 b)) q 0 r l) | false => none) | false => none))))) | false => none)
theorem mdl_lo (N : Nat) (n : Nat) (b : Nat) (k : Int) (q : Int) (r : Bool) (l : List Nat) : run ty tab_lo an_lo N Try.f9 [.sl 0 0 n, .fl .f32 b, .int .i64 k, .int .i64 q] [.at r (.fl .f32 l)] = md_lo N n b k q r l := by
  rw [run_lo]
  unfold md_lo
  first | (simp only [H_lo8 N N]; done) | (simp only [H_lo8 N N]; kernel_rfl) | rfl
def o_lo (n : Nat) (b : Nat) (k : Int) (q : Int) (r : Bool) (l : List Nat) : Option (V × H) → Option (Nat × Bool)
  | some (.tup [.a (.fl .f32 x0), .a (.bool x1)], [.at r0 (.fl .f32 y0)]) => match decide (r0 = r ∧ y0 = l) with | true => some (x0, x1) | false => none
  | _ => none
theorem oi_lo {n : Nat} {b : Nat} {k : Int} {q : Int} {r : Bool} {l : List Nat} {o : Option (V × H)} {z : Nat × Bool} (h : o_lo n b k q r l o = some z) : o = some (.tup [.a (.fl .f32 z.1), .a (.bool z.2)], [.at r (.fl .f32 l)]) := by
  unfold o_lo at h
  split at h
  · split at h
    · rename_i hd
      obtain ⟨rfl, rfl⟩ := of_decide_eq_true hd
      cases h
      rfl
    · cases h
  · cases h
noncomputable def d_lo (n : Nat) (b : Nat) (k : Int) (q : Int) (r : Bool) (l : List Nat) : Option (Nat × Bool) := o_lo n b k q r l (md_lo 50 n b k q r l)
noncomputable def v_lo (n : Nat) (b : Nat) (k : Int) (q : Int) (r : Bool) (l : List Nat) : Nat × Bool := (d_lo n b k q r l).getD (0, false)
noncomputable def g_lo : GT := fun vs h => match vs, h with
  | [.sl 0 0 n, .fl .f32 b, .int .i64 k, .int .i64 q], [.at r (.fl .f32 l)] => .ite (d_lo n b k q r l).isSome (.ret (.tup [.a (.fl .f32 ((v_lo n b k q r l).1)), .a (.bool ((v_lo n b k q r l).2))]) [.at r (.fl .f32 l)]) .no
  | _, _ => .no
theorem ok_lo : FnT Try.prog 9 g_lo := by
  refine fnT tabok_lo Try.func9 rfl rfl an_lo fun vs h v h' e => ⟨50, ?_⟩
  unfold g_lo at e
  split at e
  · rename_i n b k q r l
    obtain ⟨hs, e⟩ := T.pre_inv e
    obtain ⟨rfl, rfl⟩ := T.ret_inv e
    skip
    refine Eq.trans (mdl_lo 50 n b k q r l) ?_
    obtain ⟨z, hz⟩ := Option.isSome_iff_exists.mp hs
    have hv : v_lo n b k q r l = z := by unfold v_lo; rw [hz]; rfl
    rw [hv]
    exact oi_lo hz
  · exact (T.no_inv e).elim
def an_gl : Ann := ⟨fun r => if r = 5 then some ([0, 1, 3, 10, 31, 32], [8, 9, 10]) else none, fun _ _ => .quiet⟩
noncomputable def tab_gl : Fns := tabT [(15, g_ar), (16, gT gIn), (9, g_lo)]
theorem tabok_gl : ∀ f, FnT Try.prog f (tab_gl f) := (tabT_cons (k := 15) ok_ar (tabT_cons (k := 16) ok_within (tabT_cons (k := 9) ok_lo tabT_nil)))
def st_gl5 (rows0n : Nat) (beside1 : Nat) (rounds3 : Int) (out10n : Nat) (t31 : Int) (t32 : Int) (rw0 : Bool) (l0 : List Nat) (l1 : List Nat) : St := ⟨(.sl 0 0 rows0n :: .fl .f32 beside1 :: .any :: .int .i64 rounds3 :: (anys 6 (.sl 1 0 out10n :: (anys 20 (.int .i64 t31 :: .int .i64 t32 :: (anys 18 [])))))), [.at rw0 (.fl .f32 l0), .at true (.fl .f32 l1)]⟩
abbrev kp_gl5 : Option (List Nat × List Nat) := some ([0, 1, 3, 10, 31, 32], [8, 9, 10])
noncomputable def lp_gl5 {R : Type} (N M : Nat) (s : St) (K : X → St → Option R) : Option R := loopH 1 kp_gl5 (fun st K => exec ty tab_gl an_gl N 1 (atOf [true, true, true, false, true, false, false] Try.f7) st K) M s K
noncomputable def kt_gl5 {R : Type} (N : Nat) (K : X → St → Option R) : X → St → Option R := kBlkR 0 (kSeqR tab_gl an_gl N 1 (atOf [true, true, true, true] Try.f7) (K))
def en_gl5_0 (out10n : Nat) (rw0 : Bool) (l0 : List Nat) (l1 : List Nat) : St := ⟨(anys 8 (.nil :: .bool false :: .sl 1 0 out10n :: (anys 40 []))), [.at rw0 (.fl .f32 l0), .at true (.fl .f32 l1)]⟩
def en_gl5_1 (out10n : Nat) (rw0 : Bool) (l0 : List Nat) (l1 : List Nat) : St := ⟨(anys 10 (.sl 1 0 out10n :: (anys 40 []))), [.at rw0 (.fl .f32 l0), .at true (.fl .f32 l1)]⟩
theorem run_gl (N : Nat) (n : Nat) (b : Nat) (k : Int) (q : Int) (r : Bool) (l : List Nat) : run ty tab_gl an_gl N Try.f7 [.sl 0 0 n, .fl .f32 b, .int .i64 k, .int .i64 q] [.at r (.fl .f32 l)]
    = (match (d_ar n b r l).isSome with | true => (match !(v_ar n b r l) with | true => some (.tup [.a (.nil), .a (.bool false)], [.at r (.fl .f32 l)]) | false => (match !(inB k 1 ((n : Nat) : Int)) with | true => some (.tup [.a (.nil), .a (.bool false)], [.at r (.fl .f32 l)]) | false => (match !(inB q 1 40) with | true => some (.tup [.a (.nil), .a (.bool false)], [.at r (.fl .f32 l)]) | false => lp_gl5 N N (st_gl5 n b q 0 k 0 r l ([] : List Nat)) (kt_gl5 N (kEnd Try.f7 1))))) | false => none) := by
  kernel_rfl
theorem step_gl5 {R : Type} (N M : Nat) (K : X → St → Option R) (rows0n : Nat) (beside1 : Nat) (rounds3 : Int) (out10n : Nat) (t31 : Int) (t32 : Int) (rw0 : Bool) (l0 : List Nat) (l1 : List Nat) : lp_gl5 N (M + 1) (st_gl5 rows0n beside1 rounds3 out10n t31 t32 rw0 l0 l1) K
    = (match decide ((t32 : Int) < t31) with | true => (match (d_lo rows0n beside1 t32 rounds3 rw0 l0).isSome with | true => (match !((v_lo rows0n beside1 t32 rounds3 rw0 l0).2) with | true => K .ret (en_gl5_0 out10n rw0 l0 l1) | false => (match apok true out10n 1 l1.length 1 (out10n + 1) 4 with | true => lp_gl5 N M (st_gl5 rows0n beside1 rounds3 (out10n + 1) t31 (IntKind.i64.wrap (t32 + 1)) rw0 l0 (l1 ++ [(v_lo rows0n beside1 t32 rounds3 rw0 l0).1])) K | false => none)) | false => none) | false => K (.exit 0) (en_gl5_1 out10n rw0 l0 l1)) := by
  kernel_rfl
theorem end_gl5_0 (N : Nat) (out10n : Nat) (rw0 : Bool) (l0 : List Nat) (l1 : List Nat) : kt_gl5 N (kEnd Try.f7 1) .ret (en_gl5_0 out10n rw0 l0 l1)
    = some (.tup [.a (.nil), .a (.bool false)], [.at rw0 (.fl .f32 l0)]) := by
  kernel_rfl
theorem end_gl5_1 (N : Nat) (out10n : Nat) (rw0 : Bool) (l0 : List Nat) (l1 : List Nat) : kt_gl5 N (kEnd Try.f7 1) (.exit 0) (en_gl5_1 out10n rw0 l0 l1)
    = some (.tup [.a (.sl 1 0 out10n), .a (.bool true)], [.at rw0 (.fl .f32 l0), .at true (.fl .f32 l1)]) := by
  kernel_rfl
noncomputable def ce_gl5_0 (N : Nat) (out10n : Nat) (rw0 : Bool) (l0 : List Nat) (l1 : List Nat) : Option (V × H) := some (.tup [.a (.nil), .a (.bool false)], [.at rw0 (.fl .f32 l0)])
noncomputable def ce_gl5_1 (N : Nat) (out10n : Nat) (rw0 : Bool) (l0 : List Nat) (l1 : List Nat) : Option (V × H) := some (.tup [.a (.sl 1 0 out10n), .a (.bool true)], [.at rw0 (.fl .f32 l0), .at true (.fl .f32 l1)])
noncomputable def mb_gl5 (N : Nat) (k0 : Nat → Bool → List Nat → List Nat → Option (V × H)) (k1 : Nat → Bool → List Nat → List Nat → Option (V × H)) (rq : Nat → Nat → Int → Nat → Int → Int → Bool → List Nat → List Nat → Option (V × H)) : Nat → Nat → Int → Nat → Int → Int → Bool → List Nat → List Nat → Option (V × H) := fun (rows0n : Nat) (beside1 : Nat) (rounds3 : Int) (out10n : Nat) (t31 : Int) (t32 : Int) (rw0 : Bool) (l0 : List Nat) (l1 : List Nat) => (match decide ((t32 : Int) < t31) with | true => (match (d_lo rows0n beside1 t32 rounds3 rw0 l0).isSome with | true => (match !((v_lo rows0n beside1 t32 rounds3 rw0 l0).2) with | true => (k0 out10n rw0 l0 l1) | false => (match apok true out10n 1 l1.length 1 (out10n + 1) 4 with | true => (rq rows0n beside1 rounds3 (out10n + 1) t31 (IntKind.i64.wrap (t32 + 1)) rw0 l0 (l1 ++ [(v_lo rows0n beside1 t32 rounds3 rw0 l0).1])) | false => none)) | false => none) | false => (k1 out10n rw0 l0 l1))
noncomputable def mr_gl5 (N : Nat) (k0 : Nat → Bool → List Nat → List Nat → Option (V × H)) (k1 : Nat → Bool → List Nat → List Nat → Option (V × H)) (M : Nat) : Nat → Nat → Int → Nat → Int → Int → Bool → List Nat → List Nat → Option (V × H) := Nat.rec (motive := fun _ => Nat → Nat → Int → Nat → Int → Int → Bool → List Nat → List Nat → Option (V × H)) (fun (_ : Nat) (_ : Nat) (_ : Int) (_ : Nat) (_ : Int) (_ : Int) (_ : Bool) (_ : List Nat) (_ : List Nat) => none) (fun _ rq => mb_gl5 N k0 k1 rq) M
theorem mrs_gl5 (N : Nat) (k0 : Nat → Bool → List Nat → List Nat → Option (V × H)) (k1 : Nat → Bool → List Nat → List Nat → Option (V × H)) (M : Nat) (rows0n : Nat) (beside1 : Nat) (rounds3 : Int) (out10n : Nat) (t31 : Int) (t32 : Int) (rw0 : Bool) (l0 : List Nat) (l1 : List Nat) : mr_gl5 N k0 k1 (M + 1) rows0n beside1 rounds3 out10n t31 t32 rw0 l0 l1 = mb_gl5 N k0 k1 (mr_gl5 N k0 k1 M) rows0n beside1 rounds3 out10n t31 t32 rw0 l0 l1 := rfl
theorem H_gl5 (N : Nat) : ∀ (M : Nat) (rows0n : Nat) (beside1 : Nat) (rounds3 : Int) (out10n : Nat) (t31 : Int) (t32 : Int) (rw0 : Bool) (l0 : List Nat) (l1 : List Nat), lp_gl5 N M (st_gl5 rows0n beside1 rounds3 out10n t31 t32 rw0 l0 l1) (kt_gl5 N (kEnd Try.f7 1)) = mr_gl5 N (ce_gl5_0 N) (ce_gl5_1 N) M rows0n beside1 rounds3 out10n t31 t32 rw0 l0 l1 := by
  have he0 : ∀ (out10n : Nat) (rw0 : Bool) (l0 : List Nat) (l1 : List Nat), kt_gl5 N (kEnd Try.f7 1) .ret (en_gl5_0 out10n rw0 l0 l1) = ce_gl5_0 N out10n rw0 l0 l1 := by
    intro out10n rw0 l0 l1
    rw [end_gl5_0]
    unfold ce_gl5_0
    first | (simp only []; done) | (simp only []; kernel_rfl) | rfl
  have he1 : ∀ (out10n : Nat) (rw0 : Bool) (l0 : List Nat) (l1 : List Nat), kt_gl5 N (kEnd Try.f7 1) (.exit 0) (en_gl5_1 out10n rw0 l0 l1) = ce_gl5_1 N out10n rw0 l0 l1 := by
    intro out10n rw0 l0 l1
    rw [end_gl5_1]
    unfold ce_gl5_1
    first | (simp only []; done) | (simp only []; kernel_rfl) | rfl
  intro M
  induction M with
  | zero => intros; rfl
  | succ M ih =>
    intro rows0n beside1 rounds3 out10n t31 t32 rw0 l0 l1
    rw [step_gl5]
    rw [mrs_gl5]
    unfold mb_gl5
    first | (simp only [ih, he0, he1]; done) | (simp only [ih, he0, he1]; kernel_rfl) | rfl
noncomputable def md_gl (N : Nat) (n : Nat) (b : Nat) (k : Int) (q : Int) (r : Bool) (l : List Nat) : Option (V × H) := (match (d_ar n b r l).isSome with | true => (match !(v_ar n b r l) with | true => some (.tup [.a (.nil), .a (.bool false)], [.at r (.fl .f32 l)]) | false => (match !(inB k 1 ((n : Nat) : Int)) with | true => some (.tup [.a (.nil), .a (.bool false)], [.at r (.fl .f32 l)]) | false => (match !(inB q 1 40) with | true => some (.tup [.a (.nil), .a (.bool false)], [.at r (.fl .f32 l)]) | false => (mr_gl5 N (ce_gl5_0 N) (ce_gl5_1 N) N n b q 0 k 0 r l ([] : List Nat))))) | false => none)
theorem mdl_gl (N : Nat) (n : Nat) (b : Nat) (k : Int) (q : Int) (r : Bool) (l : List Nat) : run ty tab_gl an_gl N Try.f7 [.sl 0 0 n, .fl .f32 b, .int .i64 k, .int .i64 q] [.at r (.fl .f32 l)] = md_gl N n b k q r l := by
  rw [run_gl]
  unfold md_gl
  first | (simp only [H_gl5 N N]; done) | (simp only [H_gl5 N N]; kernel_rfl) | rfl
def o_gl (n : Nat) (b : Nat) (k : Int) (q : Int) (r : Bool) (l : List Nat) : Option (V × H) → Option (Nat × List Nat)
  | some (.tup [.a (.sl 1 0 x1), .a (.bool true)], [.at r0 (.fl .f32 y0), .at true (.fl .f32 x3)]) => match decide (r0 = r ∧ y0 = l) with | true => some (x1, x3) | false => none
  | _ => none
theorem oi_gl {n : Nat} {b : Nat} {k : Int} {q : Int} {r : Bool} {l : List Nat} {o : Option (V × H)} {z : Nat × List Nat} (h : o_gl n b k q r l o = some z) : o = some (.tup [.a (.sl 1 0 z.1), .a (.bool true)], [.at r (.fl .f32 l), .at true (.fl .f32 z.2)]) := by
  unfold o_gl at h
  split at h
  · split at h
    · rename_i hd
      obtain ⟨rfl, rfl⟩ := of_decide_eq_true hd
      cases h
      rfl
    · cases h
  · cases h
noncomputable def d_gl (n : Nat) (b : Nat) (k : Int) (q : Int) (r : Bool) (l : List Nat) : Option (Nat × List Nat) := o_gl n b k q r l (md_gl 50 n b k q r l)
noncomputable def v_gl (n : Nat) (b : Nat) (k : Int) (q : Int) (r : Bool) (l : List Nat) : Nat × List Nat := (d_gl n b k q r l).getD (0, [])
noncomputable def g_gl : GT := fun vs h => match vs, h with
  | [.sl 0 0 n, .fl .f32 b, .int .i64 k, .int .i64 q], [.at r (.fl .f32 l)] => .ite (d_gl n b k q r l).isSome (.ret (.tup [.a (.sl 1 0 ((v_gl n b k q r l).1)), .a (.bool true)]) [.at r (.fl .f32 l), .at true (.fl .f32 ((v_gl n b k q r l).2))]) .no
  | _, _ => .no
theorem ok_gl : FnT Try.prog 7 g_gl := by
  refine fnT tabok_gl Try.func7 rfl rfl an_gl fun vs h v h' e => ⟨50, ?_⟩
  unfold g_gl at e
  split at e
  · rename_i n b k q r l
    obtain ⟨hs, e⟩ := T.pre_inv e
    obtain ⟨rfl, rfl⟩ := T.ret_inv e
    skip
    refine Eq.trans (mdl_gl 50 n b k q r l) ?_
    obtain ⟨z, hz⟩ := Option.isSome_iff_exists.mp hs
    have hv : v_gl n b k q r l = z := by unfold v_gl; rw [hz]; rfl
    rw [hv]
    exact oi_gl hz
  · exact (T.no_inv e).elim
def an_ov : Ann := ⟨fun r => if r = 5 then some ([1, 6, 34, 35, 36], [6]) else none, fun _ _ => .quiet⟩
noncomputable def tab_ov : Fns := tabT [(26, gAllT finB), (21, gNumT)]
theorem tabok_ov : ∀ f, FnT Try.prog f (tab_ov f) := (tabT_cons (k := 26) ok_areFinite (tabT_cons (k := 21) ok_checked tabT_nil))
def st_ov5 (b1n : Nat) (all6 : Nat) (t34n : Nat) (t35 : Int) (t36 : Int) (rw0 : Bool) (l0 : List Nat) : St := ⟨(.any :: .sl 0 0 b1n :: .any :: .any :: .any :: .any :: .fl .f32 all6 :: (anys 27 (.sl 0 0 t34n :: .int .i64 t35 :: .int .i64 t36 :: (anys 17 [])))), [.at rw0 (.fl .f32 l0)]⟩
abbrev kp_ov5 : Option (List Nat × List Nat) := some ([1, 6, 34, 35, 36], [6])
noncomputable def lp_ov5 {R : Type} (N M : Nat) (s : St) (K : X → St → Option R) : Option R := loopH 1 kp_ov5 (fun st K => exec ty tab_ov an_ov N 1 (atOf [true, true, true, false, true, false, false] Try.f12) st K) M s K
noncomputable def kt_ov5 {R : Type} (N : Nat) (K : X → St → Option R) : X → St → Option R := kBlkR 0 (kSeqR tab_ov an_ov N 1 (atOf [true, true, true, true] Try.f12) (K))
def en_ov5_0 (all6 : Nat) (rw0 : Bool) (l0 : List Nat) : St := ⟨(anys 6 (.fl .f32 all6 :: (anys 47 []))), [.at rw0 (.fl .f32 l0)]⟩
theorem run_ov (N : Nat) (n : Nat) (m : Nat) (r : Bool) (l : List Nat) : run ty tab_ov an_ov N Try.f12 [.sl 0 0 n, .sl 0 0 m] [.at r (.fl .f32 l)]
    = (match decide ((((n : Nat) : Int) : Int) < 1) with | true => some (.tup [.a (.fl .f32 0), .a (.bool false)], [.at r (.fl .f32 l)]) | false => (match decide ((((n : Nat) : Int) : Int) > 48) with | true => some (.tup [.a (.fl .f32 0), .a (.bool false)], [.at r (.fl .f32 l)]) | false => (match ((m : Nat) : Int) != ((n : Nat) : Int) with | true => some (.tup [.a (.fl .f32 0), .a (.bool false)], [.at r (.fl .f32 l)]) | false => (match decide (l.length = n ∧ n < 2147483648) with | true => (match !(l.all finB) with | true => some (.tup [.a (.fl .f32 0), .a (.bool false)], [.at r (.fl .f32 l)]) | false => (match decide (l.length = m ∧ m < 2147483648) with | true => (match !(l.all finB) with | true => some (.tup [.a (.fl .f32 0), .a (.bool false)], [.at r (.fl .f32 l)]) | false => lp_ov5 N N (st_ov5 m 0 n ((n : Nat) : Int) 0 r l) (kt_ov5 N (kEnd Try.f12 1))) | false => none)) | false => none)))) := by
  kernel_rfl
theorem step_ov5 {R : Type} (N M : Nat) (K : X → St → Option R) (b1n : Nat) (all6 : Nat) (t34n : Nat) (t35 : Int) (t36 : Int) (rw0 : Bool) (l0 : List Nat) : lp_ov5 N (M + 1) (st_ov5 b1n all6 t34n t35 t36 rw0 l0) K
    = (match decide ((t36 : Int) < t35) with | true => (match decide (0 ≤ (t36 : Int) ∧ (t36 : Int) < ((t34n : Nat) : Int)) with | true => (match l0[0 + (t36).toNat * 1]? with | some e1 => (match decide (0 ≤ (t36 : Int) ∧ (t36 : Int) < ((b1n : Nat) : Int)) with | true => (match l0[0 + (t36).toNat * 1]? with | some e2 => lp_ov5 N M (st_ov5 b1n (fop .add .f32 all6 (fop .mul .f32 e1 e2)) t34n t35 (IntKind.i64.wrap (t36 + 1)) rw0 l0) K | none => none) | false => none) | none => none) | false => none) | false => K (.exit 0) (en_ov5_0 all6 rw0 l0)) := by
  kernel_rfl
theorem end_ov5_0 (N : Nat) (all6 : Nat) (rw0 : Bool) (l0 : List Nat) : kt_ov5 N (kEnd Try.f12 1) (.exit 0) (en_ov5_0 all6 rw0 l0)
    = (match finB all6 with | true => some (.tup [.a (.fl .f32 all6), .a (.bool true)], [.at rw0 (.fl .f32 l0)]) | false => some (.tup [.a (.fl .f32 0), .a (.bool false)], [.at rw0 (.fl .f32 l0)])) := by
  kernel_rfl
noncomputable def ce_ov5_0 (N : Nat) (all6 : Nat) (rw0 : Bool) (l0 : List Nat) : Option (V × H) := (match finB all6 with | true => some (.tup [.a (.fl .f32 all6), .a (.bool true)], [.at rw0 (.fl .f32 l0)]) | false => some (.tup [.a (.fl .f32 0), .a (.bool false)], [.at rw0 (.fl .f32 l0)]))
noncomputable def mb_ov5 (N : Nat) (k0 : Nat → Bool → List Nat → Option (V × H)) (rq : Nat → Nat → Nat → Int → Int → Bool → List Nat → Option (V × H)) : Nat → Nat → Nat → Int → Int → Bool → List Nat → Option (V × H) := fun (b1n : Nat) (all6 : Nat) (t34n : Nat) (t35 : Int) (t36 : Int) (rw0 : Bool) (l0 : List Nat) => (match decide ((t36 : Int) < t35) with | true => (match decide (0 ≤ (t36 : Int) ∧ (t36 : Int) < ((t34n : Nat) : Int)) with | true => (match l0[0 + (t36).toNat * 1]? with | some e1 => (match decide (0 ≤ (t36 : Int) ∧ (t36 : Int) < ((b1n : Nat) : Int)) with | true => (match l0[0 + (t36).toNat * 1]? with | some e2 => (rq b1n (fop .add .f32 all6 (fop .mul .f32 e1 e2)) t34n t35 (IntKind.i64.wrap (t36 + 1)) rw0 l0) | none => none) | false => none) | none => none) | false => none) | false => (k0 all6 rw0 l0))
noncomputable def mr_ov5 (N : Nat) (k0 : Nat → Bool → List Nat → Option (V × H)) (M : Nat) : Nat → Nat → Nat → Int → Int → Bool → List Nat → Option (V × H) := Nat.rec (motive := fun _ => Nat → Nat → Nat → Int → Int → Bool → List Nat → Option (V × H)) (fun (_ : Nat) (_ : Nat) (_ : Nat) (_ : Int) (_ : Int) (_ : Bool) (_ : List Nat) => none) (fun _ rq => mb_ov5 N k0 rq) M
theorem mrs_ov5 (N : Nat) (k0 : Nat → Bool → List Nat → Option (V × H)) (M : Nat) (b1n : Nat) (all6 : Nat) (t34n : Nat) (t35 : Int) (t36 : Int) (rw0 : Bool) (l0 : List Nat) : mr_ov5 N k0 (M + 1) b1n all6 t34n t35 t36 rw0 l0 = mb_ov5 N k0 (mr_ov5 N k0 M) b1n all6 t34n t35 t36 rw0 l0 := rfl
theorem H_ov5 (N : Nat) : ∀ (M : Nat) (b1n : Nat) (all6 : Nat) (t34n : Nat) (t35 : Int) (t36 : Int) (rw0 : Bool) (l0 : List Nat), lp_ov5 N M (st_ov5 b1n all6 t34n t35 t36 rw0 l0) (kt_ov5 N (kEnd Try.f12 1)) = mr_ov5 N (ce_ov5_0 N) M b1n all6 t34n t35 t36 rw0 l0 := by
  have he0 : ∀ (all6 : Nat) (rw0 : Bool) (l0 : List Nat), kt_ov5 N (kEnd Try.f12 1) (.exit 0) (en_ov5_0 all6 rw0 l0) = ce_ov5_0 N all6 rw0 l0 := by
    intro all6 rw0 l0
    rw [end_ov5_0]
    unfold ce_ov5_0
    first | (simp only []; done) | (simp only []; kernel_rfl) | rfl
  intro M
  induction M with
  | zero => intros; rfl
  | succ M ih =>
    intro b1n all6 t34n t35 t36 rw0 l0
    rw [step_ov5]
    rw [mrs_ov5]
    unfold mb_ov5
    first | (simp only [ih, he0]; done) | (simp only [ih, he0]; kernel_rfl) | rfl
noncomputable def md_ov (N : Nat) (n : Nat) (m : Nat) (r : Bool) (l : List Nat) : Option (V × H) := (match decide ((((n : Nat) : Int) : Int) < 1) with | true => some (.tup [.a (.fl .f32 0), .a (.bool false)], [.at r (.fl .f32 l)]) | false => (match decide ((((n : Nat) : Int) : Int) > 48) with | true => some (.tup [.a (.fl .f32 0), .a (.bool false)], [.at r (.fl .f32 l)]) | false => (match ((m : Nat) : Int) != ((n : Nat) : Int) with | true => some (.tup [.a (.fl .f32 0), .a (.bool false)], [.at r (.fl .f32 l)]) | false => (match decide (l.length = n ∧ n < 2147483648) with | true => (match !(l.all finB) with | true => some (.tup [.a (.fl .f32 0), .a (.bool false)], [.at r (.fl .f32 l)]) | false => (match decide (l.length = m ∧ m < 2147483648) with | true => (match !(l.all finB) with | true => some (.tup [.a (.fl .f32 0), .a (.bool false)], [.at r (.fl .f32 l)]) | false => (mr_ov5 N (ce_ov5_0 N) N m 0 n ((n : Nat) : Int) 0 r l)) | false => none)) | false => none))))
theorem mdl_ov (N : Nat) (n : Nat) (m : Nat) (r : Bool) (l : List Nat) : run ty tab_ov an_ov N Try.f12 [.sl 0 0 n, .sl 0 0 m] [.at r (.fl .f32 l)] = md_ov N n m r l := by
  rw [run_ov]
  unfold md_ov
  first | (simp only [H_ov5 N N]; done) | (simp only [H_ov5 N N]; kernel_rfl) | rfl
def o_ov (n : Nat) (m : Nat) (r : Bool) (l : List Nat) : Option (V × H) → Option (Nat × Bool)
  | some (.tup [.a (.fl .f32 x0), .a (.bool x1)], [.at r0 (.fl .f32 y0)]) => match decide (r0 = r ∧ y0 = l) with | true => some (x0, x1) | false => none
  | _ => none
theorem oi_ov {n : Nat} {m : Nat} {r : Bool} {l : List Nat} {o : Option (V × H)} {z : Nat × Bool} (h : o_ov n m r l o = some z) : o = some (.tup [.a (.fl .f32 z.1), .a (.bool z.2)], [.at r (.fl .f32 l)]) := by
  unfold o_ov at h
  split at h
  · split at h
    · rename_i hd
      obtain ⟨rfl, rfl⟩ := of_decide_eq_true hd
      cases h
      rfl
    · cases h
  · cases h
noncomputable def d_ov (n : Nat) (m : Nat) (r : Bool) (l : List Nat) : Option (Nat × Bool) := o_ov n m r l (md_ov 50 n m r l)
noncomputable def v_ov (n : Nat) (m : Nat) (r : Bool) (l : List Nat) : Nat × Bool := (d_ov n m r l).getD (0, false)
noncomputable def g_ov : GT := fun vs h => match vs, h with
  | [.sl 0 0 n, .sl 0 0 m], [.at r (.fl .f32 l)] => .ite (d_ov n m r l).isSome (.ret (.tup [.a (.fl .f32 ((v_ov n m r l).1)), .a (.bool ((v_ov n m r l).2))]) [.at r (.fl .f32 l)]) .no
  | _, _ => .no
theorem ok_ov : FnT Try.prog 12 g_ov := by
  refine fnT tabok_ov Try.func12 rfl rfl an_ov fun vs h v h' e => ⟨50, ?_⟩
  unfold g_ov at e
  split at e
  · rename_i n m r l
    obtain ⟨hs, e⟩ := T.pre_inv e
    obtain ⟨rfl, rfl⟩ := T.ret_inv e
    skip
    refine Eq.trans (mdl_ov 50 n m r l) ?_
    obtain ⟨z, hz⟩ := Option.isSome_iff_exists.mp hs
    have hv : v_ov n m r l = z := by unfold v_ov; rw [hz]; rfl
    rw [hv]
    exact oi_ov hz
  · exact (T.no_inv e).elim
end Go.Proofs.Ytpeplbbphpamhaa.Ab

namespace Go.Proofs.Ytpeplbbphpamhaa.Ab
set_option linter.unusedVariables false
set_option linter.unusedSimpArgs false
open Go
theorem ixg {l : List Nat} {n i : Nat} (h : l.length = n) (hi : i < n) : l[0 + ((i : Nat) : Int).toNat * 1]? = some (l.getD i 0) := by
  have e : 0 + ((i : Nat) : Int).toNat * 1 = i := by omega
  rw [e, List.getD_eq_getElem?_getD, List.getElem?_eq_getElem (by omega)]
  rfl
theorem dl {i n : Nat} (h : i < n) : decide (((i : Nat) : Int) < ((n : Nat) : Int)) = true := decide_eq_true (by omega)
theorem dn {i n : Nat} (h : ¬ i < n) : decide (((i : Nat) : Int) < ((n : Nat) : Int)) = false := decide_eq_false (by omega)
theorem d01 {i n : Nat} (h : i < n) : decide (0 ≤ ((i : Nat) : Int) ∧ ((i : Nat) : Int) < ((n : Nat) : Int)) = true := decide_eq_true (by omega)
theorem d00 {n : Nat} (h : 0 < n) : decide (0 ≤ (0 : Int) ∧ (0 : Int) < ((n : Nat) : Int)) = true := decide_eq_true (by omega)
theorem wi {i : Nat} (h : i < 1000) : IntKind.i64.wrap (((i : Nat) : Int) + 1) = ((i + 1 : Nat) : Int) := wr (by omega)
theorem drop_cons {l : List Nat} {n i : Nat} (h : l.length = n) (hi : i < n) : l.drop i = l.getD i 0 :: l.drop (i + 1) := by
  rw [List.drop_eq_getElem_cons (by omega), List.getD_eq_getElem?_getD, List.getElem?_eq_getElem (by omega)]
  rfl
theorem drop_end {l : List Nat} {n : Nat} (h : l.length = n) : l.drop n = [] := List.drop_eq_nil_of_le (by omega)
theorem mn_loop {N : Nat} {k0 : Nat → Bool → List Nat → Option (V × H)} {r : Bool} {l : List Nat} {n : Nat} (h : l.length = n) (hn : n < 100) : ∀ (t i M m : Nat), i + t = n → t < M → mr_mn5 N k0 M n m ((i : Nat) : Int) r l = k0 (minW m (l.drop i)) r l
  | 0, i, M + 1, m, hi, hM => by
    rw [mrs_mn5]
    unfold mb_mn5
    try dsimp only
    rw [dn (show ¬ i < n by omega), show i = n by omega, drop_end h]
    rfl
  | t + 1, i, M + 1, m, hi, hM => by
    rw [mrs_mn5]
    unfold mb_mn5
    try dsimp only
    rw [dl (show i < n by omega), d01 (show i < n by omega), ixg h (show i < n by omega), wi (by omega)]
    try dsimp only
    rw [mn_loop h hn t (i + 1) M _ (by omega) (by omega), drop_cons h (show i < n by omega)]
    rfl
theorem mx_loop {N : Nat} {k0 : Nat → Bool → List Nat → Option (V × H)} {r : Bool} {l : List Nat} {n : Nat} (h : l.length = n) (hn : n < 100) : ∀ (t i M m : Nat), i + t = n → t < M → mr_mx5 N k0 M n m ((i : Nat) : Int) r l = k0 (maxW m (l.drop i)) r l
  | 0, i, M + 1, m, hi, hM => by
    rw [mrs_mx5]
    unfold mb_mx5
    try dsimp only
    rw [dn (show ¬ i < n by omega), show i = n by omega, drop_end h]
    rfl
  | t + 1, i, M + 1, m, hi, hM => by
    rw [mrs_mx5]
    unfold mb_mx5
    try dsimp only
    rw [dl (show i < n by omega), d01 (show i < n by omega), ixg h (show i < n by omega), wi (by omega)]
    try dsimp only
    rw [mx_loop h hn t (i + 1) M _ (by omega) (by omega), drop_cons h (show i < n by omega)]
    rfl
theorem at0 {l : List Nat} {n : Nat} (h : l.length = n) (hi : 0 < n) : l[0]? = some (l.getD 0 0) := by
  rw [List.getD_eq_getElem?_getD, List.getElem?_eq_getElem (by omega)]
  rfl
theorem eq_self {α : Type} [DecidableEq α] {β : Type} [DecidableEq β] (a : α) (b : β) : decide (a = a ∧ b = b) = true := decide_eq_true ⟨rfl, rfl⟩
theorem mn_ok {r : Bool} {l : List Nat} {n : Nat} (h : l.length = n) (h0 : 0 < n) (hn : n < 40) : d_mn n r l = some (minW (l.getD 0 0) l.tail) := by
  unfold d_mn md_mn
  rw [decide_eq_false (show ¬ (((n : Nat) : Int) : Int) < 1 by omega), d00 h0, at0 h h0]
  try dsimp only
  have := mn_loop (N := 50) (k0 := ce_mn5_0 50) (r := r) h (by omega) (n - 1) 1 50 (l.getD 0 0) (by omega) (by omega)
  rw [show (((1 : Nat) : Int)) = 1 from rfl] at this
  rw [this]
  unfold ce_mn5_0 o_mn
  try dsimp only
  rw [eq_self, List.drop_one]
theorem mx_ok {r : Bool} {l : List Nat} {n : Nat} (h : l.length = n) (h0 : 0 < n) (hn : n < 40) : d_mx n r l = some (maxW (l.getD 0 0) l.tail) := by
  unfold d_mx md_mx
  rw [decide_eq_false (show ¬ (((n : Nat) : Int) : Int) < 1 by omega), d00 h0, at0 h h0]
  try dsimp only
  have := mx_loop (N := 50) (k0 := ce_mx5_0 50) (r := r) h (by omega) (n - 1) 1 50 (l.getD 0 0) (by omega) (by omega)
  rw [show (((1 : Nat) : Int)) = 1 from rfl] at this
  rw [this]
  unfold ce_mx5_0 o_mx
  try dsimp only
  rw [eq_self, List.drop_one]
theorem ar_ok {r : Bool} {l : List Nat} {n b : Nat} (h : l.length = n) (h0 : 0 < n) (hn : n < 40) (hl : l.all finB = true) (hb : finB b = true) : d_ar n b r l = some true := by
  unfold d_ar md_ar
  rw [decide_eq_true (show (((n : Nat) : Int) : Int) ≥ 1 by omega), decide_eq_true (show (((n : Nat) : Int) : Int) ≤ 48 by omega), decide_eq_true (show l.length = n ∧ n < 2147483648 by omega), hl, hb]
  unfold o_ar
  try dsimp only
  rw [eq_self]
theorem cb_loop {N : Nat} {k0 : Int → Bool → List Nat → Option (V × H)} {r : Bool} {l : List Nat} {n b x : Nat} (h : l.length = n) (hn : n < 100) : ∀ (t i M q many : Nat), i + t = n → t < M → many ≤ i → mr_cb3 N k0 M b x ((many : Nat) : Int) q n ((n : Nat) : Int) ((i : Nat) : Int) r l = k0 ((many + cbF b x (if i = 0 then none else some q) (l.drop i) : Nat) : Int) r l
  | 0, i, M + 1, q, many, hi, hM, hm => by
    rw [mrs_cb3]
    unfold mb_cb3
    try dsimp only
    rw [dn (show ¬ i < n by omega), show i = n by omega, drop_end h]
    rfl
  | t + 1, i, M + 1, q, many, hi, hM, hm => by
    rw [mrs_cb3]
    unfold mb_cb3
    try dsimp only
    rw [dl (show i < n by omega), d01 (show i < n by omega), ixg h (show i < n by omega), wi (show i < 1000 by omega), wi (show many < 1000 by omega)]
    try dsimp only
    rw [drop_cons h (show i < n by omega)]
    by_cases h0 : i = 0
    · rw [if_pos h0]
      rw [show (((i : Nat) : Int) == 0) = true by subst h0; rfl]
      try dsimp only
      have hne : (if i + 1 = 0 then none else some (nzF (fop .sub .f32 (l.getD i 0) x))) = some (nzF (fop .sub .f32 (l.getD i 0) x)) := if_neg (by omega)
      have hc : cbF b x none (l.getD i 0 :: l.drop (i + 1)) = (ltB (nzF (fop .sub .f32 (l.getD i 0) x)) 0).toNat + cbF b x (some (nzF (fop .sub .f32 (l.getD i 0) x))) (l.drop (i + 1)) := rfl
      rw [hc]
      cases hlt : ltB (nzF (fop .sub .f32 (l.getD i 0) x)) 0 with
      | true =>
        try dsimp only
        rw [cb_loop h hn t (i + 1) M _ (many + 1) (by omega) (by omega) (by omega), hne, Bool.toNat_true, Nat.add_assoc]
      | false =>
        try dsimp only
        rw [cb_loop h hn t (i + 1) M _ many (by omega) (by omega) (by omega), hne, Bool.toNat_false, Nat.zero_add]
    · rw [if_neg h0]
      rw [show (((i : Nat) : Int) == 0) = false by cases hb : ((i : Nat) : Int) == 0 with | false => rfl | true => have := eq_of_beq hb; omega]
      try dsimp only
      have hne : (if i + 1 = 0 then none else some (nzF (fop .sub .f32 (fop .sub .f32 (l.getD i 0) x) (fop .quo .f32 (fop .mul .f32 b b) q)))) = some (nzF (fop .sub .f32 (fop .sub .f32 (l.getD i 0) x) (fop .quo .f32 (fop .mul .f32 b b) q))) := if_neg (by omega)
      have hc : cbF b x (some q) (l.getD i 0 :: l.drop (i + 1)) = (ltB (nzF (fop .sub .f32 (fop .sub .f32 (l.getD i 0) x) (fop .quo .f32 (fop .mul .f32 b b) q))) 0).toNat + cbF b x (some (nzF (fop .sub .f32 (fop .sub .f32 (l.getD i 0) x) (fop .quo .f32 (fop .mul .f32 b b) q)))) (l.drop (i + 1)) := rfl
      rw [hc]
      cases hlt : ltB (nzF (fop .sub .f32 (fop .sub .f32 (l.getD i 0) x) (fop .quo .f32 (fop .mul .f32 b b) q))) 0 with
      | true =>
        try dsimp only
        rw [cb_loop h hn t (i + 1) M _ (many + 1) (by omega) (by omega) (by omega), hne, Bool.toNat_true, Nat.add_assoc]
      | false =>
        try dsimp only
        rw [cb_loop h hn t (i + 1) M _ many (by omega) (by omega) (by omega), hne, Bool.toNat_false, Nat.zero_add]
theorem cb_ok {r : Bool} {l : List Nat} {n b x : Nat} (h : l.length = n) (hn : n < 40) : d_cb n b x r l = some ((cbF b x none l : Nat) : Int) := by
  unfold d_cb md_cb
  have := cb_loop (N := 50) (k0 := ce_cb3_0 50) (r := r) (b := b) (x := x) h (by omega) n 0 50 0 0 (by omega) (by omega) (by omega)
  rw [show (((0 : Nat) : Int)) = 0 from rfl] at this
  rw [this]
  rw [if_pos rfl, List.drop_zero, Nat.zero_add]
  unfold ce_cb3_0 o_cb
  try dsimp only
  rw [eq_self]
theorem CB_ok {r : Bool} {l : List Nat} {n b x : Nat} (h : l.length = n) (h0 : 0 < n) (hn : n < 40) (hl : l.all finB = true) (hb : finB b = true) (hx : finB x = true) : d_CB n b x r l = some (((cbF b x none l : Nat) : Int), true) := by
  unfold d_CB md_CB v_ar v_cb
  rw [ar_ok h h0 hn hl hb, cb_ok h hn, hx]
  unfold o_CB
  show (match decide (r = r ∧ l = l) with | true => _ | false => _) = _
  rw [eq_self]
  rfl
theorem lo_loop {N : Nat} {k0 k1 : Nat → Bool → List Nat → Option (V × H)} {r : Bool} {l : List Nat} {n b k : Nat} (h : l.length = n) (h0 : 0 < n) (hn : n < 40) (hl : l.all finB = true) (hb : finB b = true) (P : Nat → Nat → Nat → Prop) (hP : ∀ t lo hi, P (t + 1) lo hi → finB (mdF lo hi) = true ∧ P t lo (mdF lo hi) ∧ P t (mdF lo hi) hi) :
    ∀ (t i M lo hi : Nat), i + t = 36 → t < M → P t lo hi → mr_lo8 N k0 k1 M n b ((k : Nat) : Int) lo hi 36 ((i : Nat) : Int) r l = k1 (bisF b l k t lo hi) r l
  | 0, i, M + 1, lo, hi, hi', hM, _ => by
    rw [mrs_lo8]
    unfold mb_lo8
    try dsimp only
    rw [decide_eq_false (show ¬ ((i : Nat) : Int) < 36 by omega)]
    rfl
  | t + 1, i, M + 1, lo, hi, hi', hM, hp => by
    obtain ⟨p1, p2, p3⟩ := hP t lo hi hp
    rw [mrs_lo8]
    unfold mb_lo8
    try dsimp only
    rw [decide_eq_true (show ((i : Nat) : Int) < 36 by omega)]
    have hcb : d_CB n b (fop .mul .f32 1056964608 (fop .add .f32 lo hi)) r l = some (((cbF b (mdF lo hi) none l : Nat) : Int), true) := CB_ok h h0 hn hl hb p1
    unfold v_CB
    rw [hcb, wi (show i < 1000 by omega)]
    unfold bisF
    show (match decide (((cbF b (mdF lo hi) none l : Nat) : Int) > ((k : Nat) : Int)) with | true => mr_lo8 N k0 k1 M n b ((k : Nat) : Int) lo (mdF lo hi) 36 ((i + 1 : Nat) : Int) r l | false => mr_lo8 N k0 k1 M n b ((k : Nat) : Int) (mdF lo hi) hi 36 ((i + 1 : Nat) : Int) r l) = _
    by_cases hlt : k < cbF b (mdF lo hi) none l
    · rw [decide_eq_true (show ((cbF b (mdF lo hi) none l : Nat) : Int) > ((k : Nat) : Int) by omega), decide_eq_true hlt]
      exact lo_loop h h0 hn hl hb P hP t (i + 1) M lo (mdF lo hi) (by omega) (by omega) p2
    · rw [decide_eq_false (show ¬ ((cbF b (mdF lo hi) none l : Nat) : Int) > ((k : Nat) : Int) by omega), decide_eq_false hlt]
      exact lo_loop h h0 hn hl hb P hP t (i + 1) M (mdF lo hi) hi (by omega) (by omega) p3
def BisP (t lo hi : Nat) : Prop := ∃ L H, V32 lo L ∧ V32 hi H ∧ L ≤ H ∧ -16 ≤ L ∧ H ≤ 16 ∧ ∃ s : Nat, s + t = 40 ∧ (∃ j : Int, L = j * tw (-(s : Int))) ∧ (∃ j : Int, H = j * tw (-(s : Int)))
theorem bisP_step (t lo hi : Nat) (h : BisP (t + 1) lo hi) : finB (mdF lo hi) = true ∧ BisP t lo (mdF lo hi) ∧ BisP t (mdF lo hi) hi := by
  obtain ⟨L, H, h1, h2, h3, h4, h5, s, hs, ml, mh⟩ := h
  obtain ⟨M, m1, m2, m3, m4, m5⟩ := mid_v h1 h2 h3 h4 h5 ml mh
  have e1 : -(s : Int) - 1 = -((s + 1 : Nat) : Int) := by omega
  rw [e1] at m5
  have up : ∀ x : Rat, (∃ j : Int, x = j * tw (-(s : Int))) → ∃ j : Int, x = j * tw (-((s + 1 : Nat) : Int)) := fun x ⟨j, hj⟩ => mult_up hj (by omega)
  exact ⟨finB_v m1, ⟨L, M, h1, m1, m2, h4, by grind, s + 1, by omega, up L ml, m5⟩, ⟨M, H, m1, h2, m3, by grind, h5, s + 1, by omega, m5, up H mh⟩⟩
structure PreL (b : Nat) (l : List Nat) (ar : List Rat) (g : Rat) : Prop where
  bes : Bes b g
  neg : ltB b 0 = true
  rows : DrawnL l ar
  h0 : 0 < l.length
  h8 : l.length ≤ 8
theorem drawn_fin : ∀ {l : List Nat} {ar : List Rat}, DrawnL l ar → l.all finB = true
  | [], [], _ => rfl
  | x :: xs, a :: ar, h => by rw [List.all_cons, finB_v h.1.v, drawn_fin h.2]; rfl
theorem lo_ok {r : Bool} {l : List Nat} {n b k : Nat} {ar : List Rat} {g : Rat} (p : PreL b l ar g) (h : l.length = n) (hk : k < n) : d_lo n b ((k : Nat) : Int) 36 r l = some (levW b l k, true) := by
  have h0 := p.h0
  have h8 := p.h8
  have hfl := drawn_fin p.rows
  have hfb := finB_v p.bes.v
  unfold d_lo md_lo v_ar v_mn v_mx
  rw [ar_ok h (by omega) (by omega) hfl hfb, mn_ok h (by omega) (by omega), mx_ok h (by omega) (by omega), p.neg]
  obtain ⟨L, H, e⟩ := ends p.bes p.rows p.h0
  have e1 := e.l0
  have e2 := e.h0
  have hin : inB ((k : Nat) : Int) 0 (IntKind.i64.wrap (((n : Nat) : Int) - 1)) = true := by
    unfold inB
    rw [wrap_z (by omega) (by omega), decide_eq_true (show ((k : Nat) : Int) ≥ 0 by omega), decide_eq_true (show ((k : Nat) : Int) ≤ ((n : Nat) : Int) - 1 by omega)]
    rfl
  have hP0 : BisP 36 (loW b l) (hiW b l) := ⟨L, H, e.lo, e.hi, e.le, by grind, by grind, 4, rfl, e.ml, e.mh⟩
  have hloop := lo_loop (N := 50) (k0 := ce_lo8_0 50) (k1 := ce_lo8_1 50) (r := r) (k := k) h (by omega) (by omega) hfl hfb BisP bisP_step 36 0 50 (loW b l) (hiW b l) rfl (by decide) hP0
  rw [show (((0 : Nat) : Int)) = 0 from rfl] at hloop
  rw [hin]
  have hlv : finB (levW b l k) = true := by
    obtain ⟨r, hr⟩ := level p.bes p.rows p.h0 p.h8 (k := k) (by omega)
    exact finB_v hr.v
  show o_lo n b ((k : Nat) : Int) 36 r l (mr_lo8 50 (ce_lo8_0 50) (ce_lo8_1 50) 50 n b ((k : Nat) : Int) (loW b l) (hiW b l) 36 0 r l) = _
  rw [hloop]
  show o_lo n b ((k : Nat) : Int) 36 r l (ce_lo8_1 50 (levW b l k) r l) = _
  unfold ce_lo8_1
  rw [hlv]
  unfold o_lo
  try dsimp only
  rw [eq_self]
def levs (b : Nat) (l : List Nat) (n : Nat) : List Nat := (List.range n).map fun k => levW b l k
theorem levs_len (b : Nat) (l : List Nat) (n : Nat) : (levs b l n).length = n := by unfold levs; rw [List.length_map, List.length_range]
theorem levs_succ (b : Nat) (l : List Nat) (n : Nat) : levs b l (n + 1) = levs b l n ++ [levW b l n] := by
  unfold levs
  rw [List.range_succ, List.map_append]
  rfl
theorem levs_get {b : Nat} {l : List Nat} {n i : Nat} (h : i < n) : (levs b l n).getD i 0 = levW b l i := by
  unfold levs
  rw [List.getD_eq_getElem?_getD, List.getElem?_map, List.getElem?_range h]
  rfl
theorem gl_loop {N : Nat} {k0 k1 : Nat → Bool → List Nat → List Nat → Option (V × H)} {r : Bool} {l : List Nat} {n b : Nat} {ar : List Rat} {g : Rat} (p : PreL b l ar g) (h : l.length = n) :
    ∀ (t i M : Nat), i + t = n → t < M → mr_gl5 N k0 k1 M n b 36 i ((n : Nat) : Int) ((i : Nat) : Int) r l (levs b l i) = k1 n r l (levs b l n)
  | 0, i, M + 1, hi, hM => by
    rw [mrs_gl5]
    unfold mb_gl5
    try dsimp only
    rw [dn (show ¬ i < n by omega), show i = n by omega]
  | t + 1, i, M + 1, hi, hM => by
    have h8 := p.h8
    rw [mrs_gl5]
    unfold mb_gl5 v_lo
    try dsimp only
    rw [dl (show i < n by omega), lo_ok p h (show i < n by omega), wi (show i < 1000 by omega), apc (levs_len b l i) (by omega) (by decide)]
    dsimp only [Option.isSome, Option.getD, Bool.not_true]
    rw [← levs_succ]
    exact gl_loop p h t (i + 1) M (by omega) (by omega)
theorem gl_ok {r : Bool} {l : List Nat} {n b : Nat} {ar : List Rat} {g : Rat} (p : PreL b l ar g) (h : l.length = n) : d_gl n b ((n : Nat) : Int) 36 r l = some (n, levs b l n) := by
  have h0 := p.h0
  have h8 := p.h8
  have hfl := drawn_fin p.rows
  have hfb := finB_v p.bes.v
  have hin : inB ((n : Nat) : Int) 1 ((n : Nat) : Int) = true := by
    unfold inB
    rw [decide_eq_true (show ((n : Nat) : Int) ≥ 1 by omega), decide_eq_true (show ((n : Nat) : Int) ≤ ((n : Nat) : Int) by omega)]
    rfl
  have hloop := gl_loop (N := 50) (k0 := ce_gl5_0 50) (k1 := ce_gl5_1 50) (r := r) p h n 0 50 (by omega) (by omega)
  unfold d_gl md_gl v_ar
  rw [ar_ok h (by omega) (by omega) hfl hfb, hin]
  show o_gl n b ((n : Nat) : Int) 36 r l (mr_gl5 50 (ce_gl5_0 50) (ce_gl5_1 50) 50 n b 36 0 ((n : Nat) : Int) 0 r l []) = _
  have e0 : levs b l 0 = [] := rfl
  rw [e0, show (((0 : Nat) : Int)) = 0 from rfl] at hloop
  rw [hloop]
  show (match decide (r = r ∧ l = l) with | true => some (n, levs b l n) | false => none) = _
  rw [eq_self]
theorem ov_loop {N : Nat} {k0 : Nat → Bool → List Nat → Option (V × H)} {r : Bool} {l : List Nat} {n : Nat} (h : l.length = n) (hn : n < 100) : ∀ (t i M : Nat), i + t = n → t < M → mr_ov5 N k0 M n (ovW (fun j => l.getD j 0) i) n ((n : Nat) : Int) ((i : Nat) : Int) r l = k0 (ovW (fun j => l.getD j 0) n) r l
  | 0, i, M + 1, hi, hM => by
    rw [mrs_ov5]
    unfold mb_ov5
    try dsimp only
    rw [dn (show ¬ i < n by omega), show i = n by omega]
  | t + 1, i, M + 1, hi, hM => by
    rw [mrs_ov5]
    unfold mb_ov5
    try dsimp only
    rw [dl (show i < n by omega), d01 (show i < n by omega), ixg h (show i < n by omega), wi (show i < 1000 by omega)]
    try dsimp only
    exact ov_loop h hn t (i + 1) M (by omega) (by omega)
theorem ov_ok {r : Bool} {l : List Nat} {n : Nat} (h : l.length = n) (h0 : 0 < n) (hn : n < 40) (hl : l.all finB = true) (hf : finB (ovW (fun j => l.getD j 0) n) = true) : d_ov n n r l = some (ovW (fun j => l.getD j 0) n, true) := by
  have hloop := ov_loop (N := 50) (k0 := ce_ov5_0 50) (r := r) h (by omega) n 0 50 (by omega) (by omega)
  unfold d_ov md_ov
  rw [decide_eq_false (show ¬ (((n : Nat) : Int) : Int) < 1 by omega), decide_eq_false (show ¬ (((n : Nat) : Int) : Int) > 48 by omega), decide_eq_true (show l.length = n ∧ n < 2147483648 by omega), hl]
  rw [show (((n : Nat) : Int) != ((n : Nat) : Int)) = false by simp]
  show o_ov n n r l (mr_ov5 50 (ce_ov5_0 50) 50 n 0 n ((n : Nat) : Int) 0 r l) = _
  have e0 : ovW (fun j => l.getD j 0) 0 = 0 := rfl
  rw [e0, show (((0 : Nat) : Int)) = 0 from rfl] at hloop
  rw [hloop]
  unfold ce_ov5_0
  rw [hf]
  unfold o_ov
  try dsimp only
  rw [eq_self]
end Go.Proofs.Ytpeplbbphpamhaa.Ab

namespace Go.Proofs.Ytpeplbbphpamhaa.Ab
set_option linter.unusedVariables false
set_option linter.unusedSimpArgs false
open Go
inductive Told
  | no
  | one (c : Bool) (s : St)
  | two (b c1 : Bool) (s1 : St) (c2 : Bool) (s2 : St)
def tu1 (g : St → Option (Bool × St)) (st : St) : Told := match g st with | some (c, s) => .one c s | none => .no
abbrev GsA := Nat → Option (St → Told)
def execA {R : Type} (ty : Ty) (fns : Fns) (an : Ann) (gs : GsA) (N k : Nat) : Code → St → (X → St → Option R) → Option R
  | .skip, st, K => K .norm st
  | .label _, st, K => K .norm st
  | .region id ops draw, st, K =>
    match gs id with
    | some g => match g st with
      | .one c st' => match c with
        | true => K .norm st'
        | false => none
      | .two b c1 s1 c2 s2 => match b with
        | true => match c1 with
          | true => K .norm s1
          | false => none
        | false => match c2 with
          | true => K .norm s2
          | false => none
      | .no => none
    | none =>
      match draw with
      | true => match drawOk (an.cl id) ops with
        | true => opsK ty fns (an.cl id) ops 0 ops.toList st.t st.h fun t h => K .norm ⟨t, h⟩
        | false => none
      | false => opsK ty fns (fun _ => .plain) ops 0 ops.toList st.t st.h fun t h => K .norm ⟨t, h⟩
  | .seq a b, st, K => execA ty fns an gs N k a st fun x st => match x with
    | .norm => execA ty fns an gs N k b st K
    | x => K x st
  | .cond c a b, st, K => match ev st.t c with
    | .bool p => match p with
      | true => execA ty fns an gs N k a st K
      | false => execA ty fns an gs N k b st K
    | _ => none
  | .block id b, st, K => execA ty fns an gs N k b st fun x st => match x with
    | .exit j => match decide (j = id) with
      | true => K .norm st
      | false => K (.exit j) st
    | x => K x st
  | .loop b, st, K => loopK k ((firstRegion b).bind an.keep) (fun st K => execA ty fns an gs N k b st K) N st K
  | .exit id, st, K => K (.exit id) st
  | .ret, st, K => K .ret st
  | _, _, _ => none
def runA (ty : Ty) (fns : Fns) (an : Ann) (gs : GsA) (N : Nat) (fn : Func) (vs : List V) (h : H) : Option (V × H) :=
  match fn.body with
  | none => none
  | some code => execA ty fns an gs N h.length code ⟨vs ++ List.replicate (fn.ntmps - vs.length) V.no, h⟩ fun x st => match x with
    | .exit _ => none
    | _ => finish ty fn h.length st
section
variable {P : Program} {R : Type} {r : R}
def EndsA (P : Program) (id : Nat) (ops : Array Oper) (draw : Bool) (μ0 : Mu) (h0 : H) (w0 : World) (st s : St) : Prop :=
  ∀ (Q : Exit → Act → World → Prop), (∀ μ a w, Inv μ0 h0 w0 μ s a w → Q .normal a w) → ∀ μ a w, Inv μ0 h0 w0 μ st a w → (Code.region id ops draw).wp P Q a w
def GSoundA (P : Program) (id : Nat) (ops : Array Oper) (draw : Bool) (g : St → Told) : Prop :=
  ∀ (μ0 : Mu) (h0 : H) (w0 : World) (st : St), (∀ s, g st = .one true s → EndsA P id ops draw μ0 h0 w0 st s) ∧
    (∀ s1 c2 s2, g st = .two true true s1 c2 s2 → EndsA P id ops draw μ0 h0 w0 st s1) ∧ (∀ c1 s1 s2, g st = .two false c1 s1 true s2 → EndsA P id ops draw μ0 h0 w0 st s2)
def GSound1 (P : Program) (id : Nat) (ops : Array Oper) (draw : Bool) (g : St → Option (Bool × St)) : Prop :=
  ∀ (μ0 : Mu) (h0 : H) (w0 : World) (st st' : St), g st = some (true, st') → ∀ (Q : Exit → Act → World → Prop), (∀ μ a w, Inv μ0 h0 w0 μ st' a w → Q .normal a w) → ∀ μ a w, Inv μ0 h0 w0 μ st a w → (Code.region id ops draw).wp P Q a w
theorem tu1_inv {g : St → Option (Bool × St)} {st s : St} (h : tu1 g st = .one true s) : g st = some (true, s) := by
  unfold tu1 at h
  split at h
  · rename_i c s' e
    cases h
    exact e
  · cases h
theorem tu1_snd {id : Nat} {ops : Array Oper} {draw : Bool} {g : St → Option (Bool × St)} (h : GSound1 P id ops draw g) : GSoundA P id ops draw (tu1 g) := by
  intro μ0 h0 w0 st
  refine ⟨fun s e => h μ0 h0 w0 st s (tu1_inv e), fun s1 c2 s2 e => ?_, fun c1 s1 s2 e => ?_⟩
  all_goals
    unfold tu1 at e
    split at e <;> cases e
def RegOkA (P : Program) (gs : GsA) : Code → Prop
  | .region id ops draw => match gs id with | some g => GSoundA P id ops draw g | none => True
  | .seq a b => RegOkA P gs a ∧ RegOkA P gs b
  | .cond _ a b => RegOkA P gs a ∧ RegOkA P gs b
  | .block _ b => RegOkA P gs b
  | .loop b => RegOkA P gs b
  | _ => True
theorem execA_ok {ty : Ty} (hty : TyOk P ty) {fns : Fns} (hfn : ∀ f, FnT P f (fns f)) (hm : P.follows .mixedOrders = true) {an : Ann} {gs : GsA} {N : Nat} {μ0 : Mu} {h0 : H} {w0 : World} :
    ∀ (c : Code), RegOkA P gs c → ∀ {st : St} {K : X → St → Option R}, execA ty fns an gs N μ0.l.length c st K = some r →
      ∀ Q, (∀ x st', K x st' = some r → ∀ μ a w, Inv μ0 h0 w0 μ st' a w → Q (X.to x) a w) → ∀ μ a w, Inv μ0 h0 w0 μ st a w → c.wp P Q a w := by
  intro c
  induction c with
  | skip => intro hg st K e Q hQ μ a w hi; exact wp_skip (hQ .norm st e μ a w hi)
  | label l => intro hg st K e Q hQ μ a w hi; exact wp_label (hQ .norm st e μ a w hi)
  | region id ops draw =>
    intro hg st K e Q hQ μ a w hi
    simp only [execA] at e
    simp only [RegOkA] at hg
    cases hgs : gs id with
    | some g =>
      rw [hgs] at e hg
      simp only at e hg
      obtain ⟨g1, g2, g3⟩ := hg μ0 h0 w0 st
      cases hgst : g st with
      | no => rw [hgst] at e; cases e
      | one c st' =>
        rw [hgst] at e
        cases c with
        | false => cases e
        | true => exact g1 st' hgst Q (fun μ a w hi => hQ .norm st' e μ a w hi) μ a w hi
      | two b c1 s1 c2 s2 =>
        rw [hgst] at e
        cases b with
        | true =>
          cases c1 with
          | false => cases e
          | true => exact g2 s1 c2 s2 hgst Q (fun μ a w hi => hQ .norm s1 e μ a w hi) μ a w hi
        | false =>
          cases c2 with
          | false => cases e
          | true => exact g3 c1 s1 s2 hgst Q (fun μ a w hi => hQ .norm s2 e μ a w hi) μ a w hi
    | none =>
      rw [hgs] at e
      simp only at e
      split at e
      · split at e
        · rename_i hok
          obtain ⟨t', h', h1, h2⟩ := opsK_lex hty hfn e
          exact wp_region_any hm (draw_wp (fun μ a w hi => hQ .norm _ h1 μ a w hi) hok h2 ⟨hi.slots, hi.defers, hi.ev.trans (Ev.drewN hi.ev.rel 1)⟩)
        · cases e
      · obtain ⟨t', h', h1, h2⟩ := opsK_lex hty hfn e
        exact wp_region_list (lex_wp (fun μ a w hi => hQ .norm _ h1 μ a w hi) h2 hi)
  | seq x y ihx ihy =>
    intro hg st K e Q hQ μ a w hi
    simp only [execA] at e
    refine wp_seq (ihx hg.1 e _ (fun x st' hx μ' a' w' hi' => ?_) μ a w hi)
    cases x with
    | norm => exact ihy hg.2 hx Q hQ μ' a' w' hi'
    | exit id => exact hQ _ st' hx μ' a' w' hi'
    | ret => exact hQ _ st' hx μ' a' w' hi'
  | cond c x y ihx ihy =>
    intro hg st K e Q hQ μ a w hi
    simp only [execA] at e
    split at e
    · rename_i p hc
      have h1 := ev_rep hi.slots c
      rw [hc] at h1
      split at e
      · exact wp_cond_true (repBool h1) (ihx hg.1 e Q hQ μ a w hi)
      · exact wp_cond_false (repBool h1) (ihy hg.2 e Q hQ μ a w hi)
    · cases e
  | block id b ih =>
    intro hg st K e Q hQ μ a w hi
    simp only [execA] at e
    refine wp_block (ih hg e _ (fun x st' hx μ' a' w' hi' => ?_) μ a w hi)
    cases x with
    | norm => exact hQ _ st' hx μ' a' w' hi'
    | exit j =>
      simp only at hx
      simp only [X.to, Exit.inBlock]
      split at hx
      · rename_i hj
        simp only [decide_eq_true_eq] at hj
        rw [if_pos hj]
        exact hQ _ st' hx μ' a' w' hi'
      · rename_i hj
        simp only [decide_eq_false_iff_not] at hj
        rw [if_neg hj]
        exact hQ _ st' hx μ' a' w' hi'
    | ret => exact hQ _ st' hx μ' a' w' hi'
  | loop b ih =>
    intro hg st K e Q hQ μ a w hi
    simp only [execA, loopK] at e
    obtain ⟨st', h1, h2⟩ := tidy_ok (h0 := h0) (w0 := w0) e
    obtain ⟨μ', hi'⟩ := h2 μ a w hi
    exact wp_loop_rounds N (loopH_ok (fun hb Q' hQ' => ih hg hb Q' hQ') hQ h1 μ' a w hi')
  | rangeFunc f ps x y _ _ => intro hg st K e; simp only [execA] at e; cases e
  | exit id => intro hg st K e Q hQ μ a w hi; exact wp_exit (hQ (.exit id) st e μ a w hi)
  | scope b _ => intro hg st K e; simp only [execA] at e; cases e
  | goto l => intro hg st K e; simp only [execA] at e; cases e
  | ret => intro hg st K e Q hQ μ a w hi; exact wp_ret (hQ .ret st e μ a w hi)
  | refuse s => intro hg st K e; simp only [execA] at e; cases e
def GuardOk (ops : Array Oper) (o : Oper) (t : List V) : Prop := ∀ g want, o.guard = some (g, want) → ∃ d, dstAt ops g = some d ∧ nth t d = .bool want
def AnyRun (P : Program) (ops : Array Oper) (fin : List V → H → Prop) : Nat → Array Bool → List V → H → Prop
  | 0, listed, t, h => Region.ready .any ops listed = [] ∧ fin t h
  | n + 1, listed, t, h => (Region.ready .any ops listed = [] → fin t h) ∧
    ∀ i ∈ Region.ready .any ops listed, ∃ o, ops[i]? = some o ∧
      ((∃ v h1, GuardOk ops o t ∧ OpOk P o t h v h1 ∧ AnyRun P ops fin n (listed.setIfInBounds i true) (putV t o.dst v) h1) ∨
       (∃ g want d, o.guard = some (g, want) ∧ dstAt ops g = some d ∧ (nth t d = .bool (!want) ∨ nth t d = V.no) ∧ AnyRun P ops fin n (listed.setIfInBounds i true) (putV t o.dst V.no) h))
theorem any_wp {ops : Array Oper} {Q : Exit → Act → World → Prop} {μ0 : Mu} {h0 : H} {w0 : World} {fin : List V → H → Prop} (hQ : ∀ t h, fin t h → ∀ μ a w, Inv μ0 h0 w0 μ ⟨t, h⟩ a w → Q .normal a w) :
    ∀ (n : Nat) {listed : Array Bool} {t : List V} {h : H}, AnyRun P ops fin n listed t h → ∀ {μ : Mu} {a : Act} {w : World}, Inv μ0 h0 w0 μ ⟨t, h⟩ a w → wpAny P .any ops Q n listed a w
  | 0, listed, t, h, hA, μ, a, w, hi => ⟨hA.1, hQ t h hA.2 μ a w hi⟩
  | n + 1, listed, t, h, hA, μ, a, w, hi => by
    refine ⟨fun h0 => hQ t h (hA.1 h0) μ a w hi, fun i hr => ?_⟩
    obtain ⟨o, ho, hh⟩ := hA.2 i hr
    unfold wpOp
    simp only [ho]
    rcases hh with ⟨v, h1, hg, hop, hA'⟩ | ⟨g, want, d, hg, hd, hn, hA'⟩
    · have hw : Region.wanted o (yielded ops a.tmps) = true := by
        cases hgd : o.guard with
        | none => unfold Region.wanted; rw [hgd]
        | some p =>
          obtain ⟨g, want⟩ := p
          obtain ⟨d, hd, hn⟩ := hg g want hgd
          exact (wanted_of hi.slots hgd hd).1 hn
      rw [if_pos hw]
      left
      refine hop μ a w (fun x _ => ev_rep hi.slots x) hi.ev.rel _ Q fun cv w' hgo => ?_
      obtain ⟨μ', he, hcv⟩ := hgo
      exact any_wp hQ n hA' ⟨(hi.slots.pre he.pre).put hcv, by cases o.dst <;> exact hi.defers, hi.ev.trans he⟩
    · have hw := (wanted_of hi.slots hg hd).2 hn
      rw [if_neg (by rw [hw]; simp)]
      exact any_wp hQ n hA' ⟨hi.slots.put (RepV.no μ), by cases o.dst <;> exact hi.defers, hi.ev⟩
def FinTo (keep : List Nat) (k : Nat) (st' : St) (t : List V) (h : H) : Prop :=
  ∃ ids, ids.Nodup ∧ ids.take k = List.range k ∧ optMap (V.ren ids) (mask keep 0 t) = some st'.t ∧ subH h ids = some st'.h
def viewT (keep : List Nat) (n : Nat) (t : List V) : List V := (List.range n).map fun i => match keep.contains i with | true => nth t i | false => .any
theorem view_congr {keep : List Nat} {n : Nat} {t T0 : List V} (h : ∀ i ∈ keep, nth t i = nth T0 i) : viewT keep n t = viewT keep n T0 := by
  unfold viewT
  refine List.map_congr_left fun i _ => ?_
  cases hc : keep.contains i with
  | true => exact h i (List.contains_iff_mem.mp hc)
  | false => rfl
theorem nth_get : ∀ {t : List V} {i : Nat} {v : V}, t[i]? = some v → nth t i = v
  | [], i, v, h => by simp at h
  | x :: t, 0, v, h => by simpa [nth] using h
  | x :: t, i + 1, v, h => by
    have h2 : t[i]? = some v := by simpa using h
    have h3 : nth t i = v := nth_get (t := t) (i := i) h2
    exact h3
theorem nth_out : ∀ {t : List V} {i : Nat}, t.length ≤ i → nth t i = nth [] i
  | [], i, _ => rfl
  | x :: t, 0, h => by simp at h
  | x :: t, i + 1, h => by
    have h2 : t.length ≤ i := by simpa using h
    have h3 := nth_out h2
    show nth t i = _
    rw [h3]
    cases i <;> rfl
theorem view_nth {keep : List Nat} {n : Nat} {t : List V} (hl : t.length = n) (i : Nat) : nth (viewT keep n t) i = nth t i ∨ nth (viewT keep n t) i = V.any := by
  by_cases hi : i < n
  · have e : (viewT keep n t)[i]? = some (match keep.contains i with | true => nth t i | false => .any) := by
      unfold viewT
      rw [List.getElem?_map, List.getElem?_range hi]
      rfl
    rw [nth_get e]
    cases keep.contains i with
    | true => exact .inl rfl
    | false => exact .inr rfl
  · left
    rw [nth_out (t := viewT keep n t) (by unfold viewT; simp; omega), nth_out (t := t) (by omega)]
theorem told {ops : Array Oper} {id : Nat} {Q : Exit → Act → World → Prop} {μ0 : Mu} {h0 : H} {w0 : World} {st st' : St} (keep : List Nat) (hm : P.follows .mixedOrders = true)
    {n : Nat} (hs : ops.size = n) {L0 : Array Bool} (hl0 : Array.replicate n false = L0) {T0 : List V} {H0 : H} {k : Nat} {keep0 : List Nat} {n0 : Nat} (hl : st.t.length = n0) (et : viewT keep0 n0 st.t = T0) (eh : st.h = H0) (ek : H0.length = k) (hA : AnyRun P ops (FinTo keep k st') n L0 T0 H0)
    (hQ : ∀ μ a w, Inv μ0 h0 w0 μ st' a w → Q .normal a w) {μ : Mu} {a : Act} {w : World} (hi : Inv μ0 h0 w0 μ st a w) : (Code.region id ops true).wp P Q a w := by
  subst hl0
  subst hs
  subst ek
  subst et
  subst eh
  refine wp_region_any hm ?_
  have hk0 : μ0.l.length ≤ st.h.length := by
    have h1 := hi.ev.pre.len
    have h2 := hi.ev.rel.len
    omega
  have hsl : Slots μ (viewT keep0 n0 st.t) a := by
    refine ⟨?_, fun i => ?_⟩
    · rw [hi.slots.1, hl]
      unfold viewT
      simp
    · rcases view_nth (keep := keep0) hl i with h | h
      · rw [h]; exact hi.slots.2 i
      · rw [h]; trivial
  have hj : Inv μ0 h0 w0 μ ⟨viewT keep0 n0 st.t, st.h⟩ a (w.drewN 1) := ⟨hsl, hi.defers, hi.ev.trans (Ev.drewN hi.ev.rel 1)⟩
  refine any_wp (fun t h hf μ' a' w' hi' => ?_) ops.size hA hj
  obtain ⟨ids, f1, f2, f3, f4⟩ := hf
  have hids : ids = List.range μ0.l.length ++ ids.drop μ0.l.length := by
    conv => lhs; rw [← List.take_append_drop μ0.l.length ids]
    congr 1
    have : ids.take μ0.l.length = (ids.take st.h.length).take μ0.l.length := by rw [List.take_take, Nat.min_eq_left hk0]
    rw [this, f2, List.take_range, Nat.min_eq_left hk0]
  obtain ⟨q1, q2⟩ := hi'.ev.pick hids f1 f4
  refine hQ (pick μ' ids) a' w' ⟨⟨?_, fun i => ?_⟩, hi'.defers, q1⟩
  · rw [hi'.slots.1, optMap_len f3, mask_len]
  · refine nth_ren q2 f3 ?_
    rcases mask_nth (keep := keep) (t := t) (n := 0) (i := i) with h3 | h3
    · rw [h3]; exact hi'.slots.2 i
    · rw [h3]; trivial
theorem fnA_ok {ty : Ty} (hty : TyOk P ty) {fns : Fns} (hfn : ∀ f, FnT P f (fns f)) (hm : P.follows .mixedOrders = true) {f : FuncId} {fn : Func} {code : Code} (hf : P.funcs[f]? = some fn) (hb : fn.body = some code)
    (hname : (fn.name == "runtime.NumGoroutine") = false) {g : List V → H → T} (an : Ann) (gs : GsA) (hgs : RegOkA P gs code)
    (H : ∀ vs h v h', (g vs h).run = some (v, h') → ∃ N, runA ty fns an gs N fn vs h = some (v, h')) : FnT P f g := by
  intro vs h v h' hg μ w cvs hr hv
  left
  obtain ⟨N, hrun⟩ := H vs h v h' hg
  refine ⟨?_, ?_⟩
  · have hname' : ¬ (fn.name = "runtime.NumGoroutine") := by simpa using hname
    simp [callFunc, hf, hname', hb]
  · refine calls_of_wp hf hb ?_
    unfold runA at hrun
    rw [hb] at hrun
    dsimp only at hrun
    rw [← hr.len] at hrun
    obtain ⟨hlen, hnth⟩ := repVs_nth (n := fn.ntmps - vs.length) hv
    have hinv : Inv μ h w μ ⟨vs ++ List.replicate (fn.ntmps - vs.length) V.no, h⟩ { tmps := ⟨cvs⟩ ++ Array.replicate (fn.ntmps - (⟨cvs⟩ : Array Value).size) undef, defers := [] } w := by
      refine ⟨⟨by simp [hlen], fun i => ?_⟩, rfl, Ev.refl hr⟩
      have := hnth i
      rw [Array.getD_eq_getD_getElem?]
      have e : ((⟨cvs⟩ : Array Value) ++ Array.replicate (fn.ntmps - (⟨cvs⟩ : Array Value).size) undef)[i]? = (cvs ++ List.replicate (fn.ntmps - vs.length) undef)[i]? := by
        rw [← Array.getElem?_toList, Array.toList_append, Array.toList_replicate]
        rw [show (⟨cvs⟩ : Array Value).size = vs.length from hlen.symm]
      rw [e]
      exact this
    have hend := finish_ok (P := P) (fn := fn) (μ := μ) (h := h) (w := w) (v := v) (h' := h') hty
    refine execA_ok hty hfn hm code hgs hrun _ (fun x st' hx μ' a' w' hi' => ?_) μ _ w hinv
    cases x with
    | norm => exact hend st' a' w' hx μ' hi'
    | exit id => cases hx
    | ret => exact hend st' a' w' hx μ' hi'
def NextOk (P : Program) (ops : Array Oper) (fin : List V → H → Prop) (n : Nat) (listed : Array Bool) (t : List V) (h : H) (i : Nat) : Prop := ∃ o, ops[i]? = some o ∧
      ((∃ v h1, GuardOk ops o t ∧ OpOk P o t h v h1 ∧ AnyRun P ops fin n (listed.setIfInBounds i true) (putV t o.dst v) h1) ∨
       (∃ g want d, o.guard = some (g, want) ∧ dstAt ops g = some d ∧ (nth t d = .bool (!want) ∨ nth t d = V.no) ∧ AnyRun P ops fin n (listed.setIfInBounds i true) (putV t o.dst V.no) h))
theorem any_next {ops : Array Oper} {fin : List V → H → Prop} {n : Nat} {listed : Array Bool} {t : List V} {h : H} (rs : List Nat) (hr : Region.ready .any ops listed = rs) (hne : rs ≠ [])
    (hs : ∀ i ∈ rs, NextOk P ops fin n listed t h i) : AnyRun P ops fin (n + 1) listed t h :=
  ⟨fun h0 => absurd (hr ▸ h0) hne, hr ▸ hs⟩
end
def bitsA (n k : Nat) : Array Bool := ((List.range n).map fun i => k.testBit i).toArray
def setsA : List (Nat × V) → List V → List V
  | [], t => t
  | (d, v) :: l, t => setsA l (t.set d v)
def selA (k : Nat) (l : List (Nat × Nat)) (v : Nat → V) : List (Nat × V) := l.filterMap fun p => match k.testBit p.1 with | true => some (p.2, v p.1) | false => none
theorem two1 {i a : Nat} (h : i ∈ [a]) : i = a := by simpa using h
theorem two2 {i a b : Nat} (h : i ∈ [a, b]) : i = a ∨ i = b := by simpa using h
def opD3 (o : Oper) : Op × Option Tmp × Option (Nat × Bool) := (o.op, o.dst, o.guard)
def GuardAt (ops : Array Oper) (t : List V) : Option (Nat × Bool) → Prop
  | none => True
  | some (g, want) => ∃ d, dstAt ops g = some d ∧ nth t d = .bool want
theorem any_one {ops : Array Oper} {fin : List V → H → Prop} {n : Nat} {listed l1 : Array Bool} {t t1 : List V} {h h1 : H} {i : Nat} {op : Op} {d : Option Tmp} {v : V} {fns : Fns} (gd : Option (Nat × Bool)) (hfn : ∀ f, FnT Try.prog f (fns f))
    (hop : (ops[i]?).map opD3 = some (op, d, gd)) (hg : GuardAt ops t gd) (e : stepK ty fns .plain t h op (fun v h => some (v, h)) = some (v, h1)) (hl : listed.setIfInBounds i true = l1) (ht : putV t d v = t1)
    (hA : AnyRun Try.prog ops fin n l1 t1 h1) : NextOk Try.prog ops fin n listed t h i := by
  rw [Option.map_eq_some_iff] at hop
  obtain ⟨o, ho, he⟩ := hop
  unfold opD3 at he
  simp only [Prod.mk.injEq] at he
  obtain ⟨a, b, c⟩ := he
  obtain ⟨v', h', e1, e2, _⟩ := step_ok tyOk hfn a e
  cases e1
  subst hl
  refine ⟨o, ho, .inl ⟨v, h1, fun g want hgd => ?_, e2, ?_⟩⟩
  · rw [c] at hgd
    subst hgd
    exact hg
  · rw [b, ht]
    exact hA
def regAt : Code → Nat → Option (Array Oper)
  | .region i ops _, id => if i = id then some ops else none
  | .seq a b, id => match regAt a id with | some x => some x | none => regAt b id
  | .cond _ a b, id => match regAt a id with | some x => some x | none => regAt b id
  | .block _ b, id => regAt b id
  | .loop b, id => regAt b id
  | _, _ => none
def codeOf (fn : Func) : Code := fn.body.getD .skip
def regList : Code → List (Nat × Array Oper × Bool)
  | .region i ops d => [(i, ops, d)]
  | .seq a b => regList a ++ regList b
  | .cond _ a b => regList a ++ regList b
  | .block _ b => regList b
  | .loop b => regList b
  | _ => []
theorem regOk_list {P : Program} {gs : GsA} : ∀ c : Code, (∀ p ∈ regList c, ∀ g, gs p.1 = some g → GSoundA P p.1 p.2.1 p.2.2 g) → RegOkA P gs c := by
  intro c
  induction c with
  | region i ops d =>
    intro h
    show match gs i with | some g => GSoundA P i ops d g | none => True
    cases hg : gs i with
    | none => trivial
    | some g => exact h (i, ops, d) (by simp [regList]) g hg
  | seq a b iha ihb => intro h; exact ⟨iha fun p hp => h p (by simp [regList, hp]), ihb fun p hp => h p (by simp [regList, hp])⟩
  | cond x a b iha ihb => intro h; exact ⟨iha fun p hp => h p (by simp [regList, hp]), ihb fun p hp => h p (by simp [regList, hp])⟩
  | block i b ih => intro h; exact ih fun p hp => h p (by simpa [regList] using hp)
  | loop b ih => intro h; exact ih fun p hp => h p (by simpa [regList] using hp)
  | _ => intro _; trivial
abbrev kEndA (fn : Func) (k : Nat) : X → St → Option (V × H) := fun x st => match x with | .exit _ => none | _ => finish ty fn k st
abbrev kSeqA {R : Type} (fns : Fns) (an : Ann) (gs : GsA) (N k : Nat) (c : Code) (K : X → St → Option R) : X → St → Option R := fun x st => match x with | .norm => execA ty fns an gs N k c st K | x => K x st
end Go.Proofs.Ytpeplbbphpamhaa.Ab

namespace Go.Proofs.Ytpeplbbphpamhaa.Ab
set_option linter.unusedVariables false
set_option linter.unusedSimpArgs false
open Go
def an_so : Ann := ⟨fun r => if r = 6 then some ([0, 1, 2, 3, 10, 11, 44, 45], [0, 1, 2, 3, 10, 11]) else if r = 11 then some ([0, 1, 2, 10, 11, 52, 53], [11]) else if r = 14 then some ([0, 1, 2, 10, 11, 13, 14, 52, 53, 59, 60, 61], [0, 1, 2, 10, 11, 13, 14, 52, 53]) else if r = 25 then some ([0, 1, 2, 10, 11, 13, 14, 18, 19, 20, 52, 53], [0, 1, 2, 10, 11, 19, 52, 53]) else if r = 30 then some ([0, 1, 2, 10, 11, 19, 52, 53, 136, 137, 138], [0, 1, 2, 10, 11, 19, 52, 53]) else if r = 36 then some ([0, 1, 2, 10, 11, 23, 52, 53, 151, 152], [0, 1, 2, 10, 11, 52, 53]) else none, fun _ _ => .quiet⟩
noncomputable def tab_so : Fns := tabT [(15, g_ar), (17, gT (gF1 finB)), (16, gT gIn), (22, gClone), (23, gT gNz), (25, gLsT), (24, gT gRoot)]
theorem tabok_so : ∀ f, FnT Try.prog f (tab_so f) := (tabT_cons (k := 15) ok_ar (tabT_cons (k := 17) ok_IsFinite (tabT_cons (k := 16) ok_within (tabT_cons (k := 22) ok_cl (tabT_cons (k := 23) ok_nz (tabT_cons (k := 25) ok_checkedNumbers (tabT_cons (k := 24) ok_RootNumber tabT_nil)))))))
noncomputable def opsso_12 : Array Oper := (regAt (codeOf Try.f11) 12).getD #[]
def gso_12 (st : St) : Option (Bool × St) := (match decide (st.t.length = 168) with | true => (match nth st.t 0 with | .sl 0 0 z1 => (match nth st.t 1 with | .fl .f32 z2 => (match nth st.t 2 with | .fl .f32 z3 => (match nth st.t 10 with | .int .i64 z4 => (match nth st.t 11 with | .sl 1 0 z6 => (match nth st.t 52 with | .int .i64 z7 => (match nth st.t 53 with | .int .i64 z8 => (match st.h with | [.at true (.fl .f32 z9), .at true (.fl .f32 z10)] => some ((decide (0 ≤ (z4 : Int) ∧ (z4 : Int) ≤ z4 ∧ (z4 : Int) ≤ 9223372036854775807 ∧ (z4 : Int).toNat * 4 ≤ 140737488355328 ∧ 0 < 1 ∧ 1 = 1)) && (decide (z10.length = z6 ∧ z6 < 2147483648)), ⟨(.sl 0 0 z1 :: .fl .f32 z2 :: .fl .f32 z3 :: (anys 7 (.int .i64 z4 :: .sl 1 0 z6 :: .any :: .sl 2 0 ((z4 : Int).toNat) :: .sl 3 0 z6 :: (anys 37 (.int .i64 z7 :: .int .i64 z8 :: (anys 114 [])))))), [.at true (.fl .f32 z9), .at true (.fl .f32 z10), .at true (.fl .f32 (List.replicate ((z4 : Int).toNat) 0)), .at true (.fl .f32 z10)]⟩) | _ => none) | _ => none) | _ => none) | _ => none) | _ => none) | _ => none) | _ => none) | _ => none) | false => none)
abbrev zso_12 := Nat × Nat × Nat × Int × Nat × Int × Int × List Nat × List Nat
abbrev yso_120 (z : zso_12) : Nat := z.1
abbrev yso_121 (z : zso_12) : Nat := z.2.1
abbrev yso_122 (z : zso_12) : Nat := z.2.2.1
abbrev yso_123 (z : zso_12) : Int := z.2.2.2.1
abbrev yso_124 (z : zso_12) : Nat := z.2.2.2.2.1
abbrev yso_125 (z : zso_12) : Int := z.2.2.2.2.2.1
abbrev yso_126 (z : zso_12) : Int := z.2.2.2.2.2.2.1
abbrev yso_127 (z : zso_12) : List Nat := z.2.2.2.2.2.2.2.1
abbrev yso_128 (z : zso_12) : List Nat := z.2.2.2.2.2.2.2.2
def sso_12 (z : zso_12) : List V := (.sl 0 0 (yso_120 z) :: .fl .f32 (yso_121 z) :: .fl .f32 (yso_122 z) :: (anys 7 (.int .i64 (yso_123 z) :: .sl 1 0 (yso_124 z) :: (anys 40 (.int .i64 (yso_125 z) :: .int .i64 (yso_126 z) :: (anys 114 []))))))
def hso_12 (z : zso_12) : H := [.at true (.fl .f32 (yso_127 z)), .at true (.fl .f32 (yso_128 z))]
theorem hoso_12_0 : (opsso_12[0]?).map opD3 = some (.move (.tmp 10), some 55, none) := by kernel_rfl
theorem hoso_12_1 : (opsso_12[1]?).map opD3 = some (.makeSlice 25 (.tmp 55) (.tmp 55), some 56, none) := by kernel_rfl
theorem hoso_12_2 : (opsso_12[2]?).map opD3 = some (.move (.tmp 11), some 57, none) := by kernel_rfl
theorem hoso_12_3 : (opsso_12[3]?).map opD3 = some (.call ⟨.value (.func 22), #[.tmp 57], #[25]⟩, some 58, none) := by kernel_rfl
theorem hoso_12_4 : (opsso_12[4]?).map opD3 = some (.assign (.tmp 56), some 13, none) := by kernel_rfl
theorem hoso_12_5 : (opsso_12[5]?).map opD3 = some (.assign (.tmp 58), some 14, none) := by kernel_rfl
def vso_12_0 (z : zso_12) : Nat → V
  | 0 => .int .i64 (yso_123 z)
  | 1 => .sl 2 0 (((yso_123 z) : Int).toNat)
  | 2 => .sl 1 0 (yso_124 z)
  | 3 => .sl 3 0 (yso_124 z)
  | 4 => .sl 2 0 (((yso_123 z) : Int).toNat)
  | 5 => .sl 3 0 (yso_124 z)
  | _ => .any
def qso_12_0 (z : zso_12) (k : Nat) (l : List (Nat × V)) : List V := setsA l (setsA (selA k [(0, 55), (1, 56), (2, 57), (3, 58), (4, 13), (5, 14)] (vso_12_0 z)) (sso_12 z))
def cso_12_0 (z : zso_12) : Prop := (decide (0 ≤ ((yso_123 z) : Int) ∧ ((yso_123 z) : Int) ≤ (yso_123 z) ∧ ((yso_123 z) : Int) ≤ 9223372036854775807 ∧ ((yso_123 z) : Int).toNat * 4 ≤ 140737488355328 ∧ 0 < 1 ∧ 1 = 1)) = true ∧ (decide ((yso_128 z).length = (yso_124 z) ∧ (yso_124 z) < 2147483648)) = true
abbrev aso_12_0 (z : zso_12) (m k : Nat) (t : List V) (h : H) : Prop := AnyRun Try.prog opsso_12 (FinTo [0, 1, 2, 10, 11, 13, 14, 52, 53] 2 (⟨(.sl 0 0 (yso_120 z) :: .fl .f32 (yso_121 z) :: .fl .f32 (yso_122 z) :: (anys 7 (.int .i64 (yso_123 z) :: .sl 1 0 (yso_124 z) :: .any :: .sl 2 0 (((yso_123 z) : Int).toNat) :: .sl 3 0 (yso_124 z) :: (anys 37 (.int .i64 (yso_125 z) :: .int .i64 (yso_126 z) :: (anys 114 [])))))), [.at true (.fl .f32 (yso_127 z)), .at true (.fl .f32 (yso_128 z)), .at true (.fl .f32 (List.replicate (((yso_123 z) : Int).toNat) 0)), .at true (.fl .f32 (yso_128 z))]⟩ : St)) m (bitsA 6 k) t h
def bso_12_0 (z : zso_12) : Nat → B
  | 0 => .at true (.fl .f32 (List.replicate (((yso_123 z) : Int).toNat) 0))
  | 1 => .at true (.fl .f32 (yso_128 z))
  | _ => .gone
def Hso_12_0 (z : zso_12) (l : List Nat) : H := hso_12 z ++ l.map (bso_12_0 z)
theorem anso_12_1 {z : zso_12} (hc : cso_12_0 z) : aso_12_0 z 0 63 (qso_12_0 z 63 []) (Hso_12_0 z [0, 1]) := ⟨by kernel_rfl, [0, 1, 2, 3], by decide, by decide, by kernel_rfl, by kernel_rfl⟩
theorem anso_12_2 {z : zso_12} (hc : cso_12_0 z) : aso_12_0 z 1 31 (qso_12_0 z 31 []) (Hso_12_0 z [0, 1]) := by
  refine any_next [5] (by kernel_rfl) (by decide) fun i hi => ?_
  obtain rfl := two1 hi
  · exact any_one _ (v := vso_12_0 z 5) tabok_so hoso_12_5 (trivial) (by kernel_rfl) (by kernel_rfl) (by kernel_rfl) (anso_12_1 hc)
theorem anso_12_3 {z : zso_12} (hc : cso_12_0 z) : aso_12_0 z 2 15 (qso_12_0 z 15 []) (Hso_12_0 z [0, 1]) := by
  refine any_next [4] (by kernel_rfl) (by decide) fun i hi => ?_
  obtain rfl := two1 hi
  · exact any_one _ (v := vso_12_0 z 4) tabok_so hoso_12_4 (trivial) (by kernel_rfl) (by kernel_rfl) (by kernel_rfl) (anso_12_2 hc)
theorem anso_12_4 {z : zso_12} (hc : cso_12_0 z) : aso_12_0 z 3 7 (qso_12_0 z 7 []) (Hso_12_0 z [0]) := by
  refine any_next [3] (by kernel_rfl) (by decide) fun i hi => ?_
  obtain rfl := two1 hi
  · exact any_one _ (v := vso_12_0 z 3) tabok_so hoso_12_3 (trivial) (by
      refine Eq.trans (b := (match decide ((yso_128 z).length = (yso_124 z) ∧ (yso_124 z) < 2147483648) with | true => some ((.sl 3 0 (yso_124 z)), [.at true (.fl .f32 (yso_127 z)), .at true (.fl .f32 (yso_128 z)), .at true (.fl .f32 (List.replicate (((yso_123 z) : Int).toNat) 0)), .at true (.fl .f32 (yso_128 z))]) | false => none)) (by kernel_rfl) ?_
      rw [hc.2]
      try rfl) (by kernel_rfl) (by kernel_rfl) (anso_12_3 hc)
theorem anso_12_5 {z : zso_12} (hc : cso_12_0 z) : aso_12_0 z 4 3 (qso_12_0 z 3 []) (Hso_12_0 z [0]) := by
  refine any_next [2] (by kernel_rfl) (by decide) fun i hi => ?_
  obtain rfl := two1 hi
  · exact any_one _ (v := vso_12_0 z 2) tabok_so hoso_12_2 (trivial) (by kernel_rfl) (by kernel_rfl) (by kernel_rfl) (anso_12_4 hc)
theorem anso_12_6 {z : zso_12} (hc : cso_12_0 z) : aso_12_0 z 0 63 (qso_12_0 z 63 [(13, .sl 3 0 (((yso_123 z) : Int).toNat)), (14, .sl 2 0 (yso_124 z)), (56, .sl 3 0 (((yso_123 z) : Int).toNat)), (58, .sl 2 0 (yso_124 z))]) (Hso_12_0 z [1, 0]) := ⟨by kernel_rfl, [0, 1, 3, 2], by decide, by decide, by kernel_rfl, by kernel_rfl⟩
theorem anso_12_7 {z : zso_12} (hc : cso_12_0 z) : aso_12_0 z 1 31 (qso_12_0 z 31 [(13, .sl 3 0 (((yso_123 z) : Int).toNat)), (56, .sl 3 0 (((yso_123 z) : Int).toNat)), (58, .sl 2 0 (yso_124 z))]) (Hso_12_0 z [1, 0]) := by
  refine any_next [5] (by kernel_rfl) (by decide) fun i hi => ?_
  obtain rfl := two1 hi
  · exact any_one _ (v := .sl 2 0 (yso_124 z)) tabok_so hoso_12_5 (trivial) (by kernel_rfl) (by kernel_rfl) (by kernel_rfl) (anso_12_6 hc)
theorem anso_12_8 {z : zso_12} (hc : cso_12_0 z) : aso_12_0 z 2 15 (qso_12_0 z 15 [(56, .sl 3 0 (((yso_123 z) : Int).toNat)), (58, .sl 2 0 (yso_124 z))]) (Hso_12_0 z [1, 0]) := by
  refine any_next [4] (by kernel_rfl) (by decide) fun i hi => ?_
  obtain rfl := two1 hi
  · exact any_one _ (v := .sl 3 0 (((yso_123 z) : Int).toNat)) tabok_so hoso_12_4 (trivial) (by kernel_rfl) (by kernel_rfl) (by kernel_rfl) (anso_12_7 hc)
theorem anso_12_9 {z : zso_12} (hc : cso_12_0 z) : aso_12_0 z 3 13 (qso_12_0 z 13 [(58, .sl 2 0 (yso_124 z))]) (Hso_12_0 z [1]) := by
  refine any_next [1] (by kernel_rfl) (by decide) fun i hi => ?_
  obtain rfl := two1 hi
  · exact any_one _ (v := .sl 3 0 (((yso_123 z) : Int).toNat)) tabok_so hoso_12_1 (trivial) (by
      refine Eq.trans (b := (match decide (0 ≤ ((yso_123 z) : Int) ∧ ((yso_123 z) : Int) ≤ (yso_123 z) ∧ ((yso_123 z) : Int) ≤ 9223372036854775807 ∧ ((yso_123 z) : Int).toNat * 4 ≤ 140737488355328 ∧ 0 < 1 ∧ 1 = 1) with | true => some ((.sl 3 0 (((yso_123 z) : Int).toNat)), [.at true (.fl .f32 (yso_127 z)), .at true (.fl .f32 (yso_128 z)), .at true (.fl .f32 (yso_128 z)), .at true (.fl .f32 (List.replicate (((yso_123 z) : Int).toNat) 0))]) | false => none)) (by kernel_rfl) ?_
      rw [hc.1]
      try rfl) (by kernel_rfl) (by kernel_rfl) (anso_12_8 hc)
theorem anso_12_10 {z : zso_12} (hc : cso_12_0 z) : aso_12_0 z 4 5 (qso_12_0 z 5 []) (Hso_12_0 z []) := by
  refine any_next [1, 3] (by kernel_rfl) (by decide) fun i hi => ?_
  rcases two2 hi with rfl | rfl
  · exact any_one _ (v := vso_12_0 z 1) tabok_so hoso_12_1 (trivial) (by
      refine Eq.trans (b := (match decide (0 ≤ ((yso_123 z) : Int) ∧ ((yso_123 z) : Int) ≤ (yso_123 z) ∧ ((yso_123 z) : Int) ≤ 9223372036854775807 ∧ ((yso_123 z) : Int).toNat * 4 ≤ 140737488355328 ∧ 0 < 1 ∧ 1 = 1) with | true => some ((.sl 2 0 (((yso_123 z) : Int).toNat)), [.at true (.fl .f32 (yso_127 z)), .at true (.fl .f32 (yso_128 z)), .at true (.fl .f32 (List.replicate (((yso_123 z) : Int).toNat) 0))]) | false => none)) (by kernel_rfl) ?_
      rw [hc.1]
      try rfl) (by kernel_rfl) (by kernel_rfl) (anso_12_4 hc)
  · exact any_one _ (v := .sl 2 0 (yso_124 z)) tabok_so hoso_12_3 (trivial) (by
      refine Eq.trans (b := (match decide ((yso_128 z).length = (yso_124 z) ∧ (yso_124 z) < 2147483648) with | true => some ((.sl 2 0 (yso_124 z)), [.at true (.fl .f32 (yso_127 z)), .at true (.fl .f32 (yso_128 z)), .at true (.fl .f32 (yso_128 z))]) | false => none)) (by kernel_rfl) ?_
      rw [hc.2]
      try rfl) (by kernel_rfl) (by kernel_rfl) (anso_12_9 hc)
theorem anso_12_11 {z : zso_12} (hc : cso_12_0 z) : aso_12_0 z 5 1 (qso_12_0 z 1 []) (Hso_12_0 z []) := by
  refine any_next [1, 2] (by kernel_rfl) (by decide) fun i hi => ?_
  rcases two2 hi with rfl | rfl
  · exact any_one _ (v := vso_12_0 z 1) tabok_so hoso_12_1 (trivial) (by
      refine Eq.trans (b := (match decide (0 ≤ ((yso_123 z) : Int) ∧ ((yso_123 z) : Int) ≤ (yso_123 z) ∧ ((yso_123 z) : Int) ≤ 9223372036854775807 ∧ ((yso_123 z) : Int).toNat * 4 ≤ 140737488355328 ∧ 0 < 1 ∧ 1 = 1) with | true => some ((.sl 2 0 (((yso_123 z) : Int).toNat)), [.at true (.fl .f32 (yso_127 z)), .at true (.fl .f32 (yso_128 z)), .at true (.fl .f32 (List.replicate (((yso_123 z) : Int).toNat) 0))]) | false => none)) (by kernel_rfl) ?_
      rw [hc.1]
      try rfl) (by kernel_rfl) (by kernel_rfl) (anso_12_5 hc)
  · exact any_one _ (v := vso_12_0 z 2) tabok_so hoso_12_2 (trivial) (by kernel_rfl) (by kernel_rfl) (by kernel_rfl) (anso_12_10 hc)
theorem anso_12_12 {z : zso_12} (hc : cso_12_0 z) : aso_12_0 z 4 12 (qso_12_0 z 12 [(58, .sl 2 0 (yso_124 z))]) (Hso_12_0 z [1]) := by
  refine any_next [0] (by kernel_rfl) (by decide) fun i hi => ?_
  obtain rfl := two1 hi
  · exact any_one _ (v := vso_12_0 z 0) tabok_so hoso_12_0 (trivial) (by kernel_rfl) (by kernel_rfl) (by kernel_rfl) (anso_12_9 hc)
theorem anso_12_13 {z : zso_12} (hc : cso_12_0 z) : aso_12_0 z 5 4 (qso_12_0 z 4 []) (Hso_12_0 z []) := by
  refine any_next [0, 3] (by kernel_rfl) (by decide) fun i hi => ?_
  rcases two2 hi with rfl | rfl
  · exact any_one _ (v := vso_12_0 z 0) tabok_so hoso_12_0 (trivial) (by kernel_rfl) (by kernel_rfl) (by kernel_rfl) (anso_12_10 hc)
  · exact any_one _ (v := .sl 2 0 (yso_124 z)) tabok_so hoso_12_3 (trivial) (by
      refine Eq.trans (b := (match decide ((yso_128 z).length = (yso_124 z) ∧ (yso_124 z) < 2147483648) with | true => some ((.sl 2 0 (yso_124 z)), [.at true (.fl .f32 (yso_127 z)), .at true (.fl .f32 (yso_128 z)), .at true (.fl .f32 (yso_128 z))]) | false => none)) (by kernel_rfl) ?_
      rw [hc.2]
      try rfl) (by kernel_rfl) (by kernel_rfl) (anso_12_12 hc)
theorem anso_12_14 {z : zso_12} (hc : cso_12_0 z) : aso_12_0 z 6 0 (qso_12_0 z 0 []) (Hso_12_0 z []) := by
  refine any_next [0, 2] (by kernel_rfl) (by decide) fun i hi => ?_
  rcases two2 hi with rfl | rfl
  · exact any_one _ (v := vso_12_0 z 0) tabok_so hoso_12_0 (trivial) (by kernel_rfl) (by kernel_rfl) (by kernel_rfl) (anso_12_11 hc)
  · exact any_one _ (v := vso_12_0 z 2) tabok_so hoso_12_2 (trivial) (by kernel_rfl) (by kernel_rfl) (by kernel_rfl) (anso_12_13 hc)
theorem tolso_12_0 (z1 : Nat) (z2 : Nat) (z3 : Nat) (z4 : Int) (z6 : Nat) (z7 : Int) (z8 : Int) (z9 : List Nat) (z10 : List Nat) (hc : cso_12_0 (z1, z2, z3, z4, z6, z7, z8, z9, z10)) {st : St} (hl : st.t.length = 168) (et : viewT [0, 1, 2, 10, 11, 52, 53] 168 st.t = (.sl 0 0 z1 :: .fl .f32 z2 :: .fl .f32 z3 :: (anys 7 (.int .i64 z4 :: .sl 1 0 z6 :: (anys 40 (.int .i64 z7 :: .int .i64 z8 :: (anys 114 []))))))) (eh : st.h = [.at true (.fl .f32 z9), .at true (.fl .f32 z10)]) {μ0 : Mu} {h0 : H} {w0 : World} {Q : Exit → Act → World → Prop} (hQ : ∀ μ a w, Inv μ0 h0 w0 μ (⟨(.sl 0 0 z1 :: .fl .f32 z2 :: .fl .f32 z3 :: (anys 7 (.int .i64 z4 :: .sl 1 0 z6 :: .any :: .sl 2 0 ((z4 : Int).toNat) :: .sl 3 0 z6 :: (anys 37 (.int .i64 z7 :: .int .i64 z8 :: (anys 114 [])))))), [.at true (.fl .f32 z9), .at true (.fl .f32 z10), .at true (.fl .f32 (List.replicate ((z4 : Int).toNat) 0)), .at true (.fl .f32 z10)]⟩ : St) a w → Q .normal a w) {μ : Mu} {a : Act} {w : World} (hi : Inv μ0 h0 w0 μ st a w) : (Code.region 12 opsso_12 true).wp Try.prog Q a w :=
  told (L0 := bitsA 6 0) (T0 := qso_12_0 (z1, z2, z3, z4, z6, z7, z8, z9, z10) 0 []) (H0 := Hso_12_0 (z1, z2, z3, z4, z6, z7, z8, z9, z10) []) [0, 1, 2, 10, 11, 13, 14, 52, 53] mixed (by kernel_rfl : opsso_12.size = 6) (by kernel_rfl) hl (et.trans (by kernel_rfl)) (eh.trans (by kernel_rfl)) rfl (anso_12_14 hc) hQ hi
set_option maxRecDepth 100000 in
theorem sndso_12 : GSound1 Try.prog 12 opsso_12 true gso_12 := by
  intro μ0 h0 w0 st st' hg Q hQ μ a w hi
  unfold gso_12 at hg
  split at hg
  case h_2 => cases hg
  rename_i hl_
  have hl_ := of_decide_eq_true hl_
  split at hg
  case h_2 => cases hg
  rename_i z1 e0_
  split at hg
  case h_2 => cases hg
  rename_i z2 e1_
  split at hg
  case h_2 => cases hg
  rename_i z3 e2_
  split at hg
  case h_2 => cases hg
  rename_i z4 e10_
  split at hg
  case h_2 => cases hg
  rename_i z6 e11_
  split at hg
  case h_2 => cases hg
  rename_i z7 e52_
  split at hg
  case h_2 => cases hg
  rename_i z8 e53_
  split at hg
  case h_2 => cases hg
  rename_i z9 z10 eh_
  have hg := Option.some.inj hg
  have hc := congrArg Prod.fst hg
  have hg := congrArg Prod.snd hg
  dsimp only at hc hg
  subst hg
  obtain ⟨hc, hc1⟩ := Bool.and_eq_true_iff.mp hc
  have hc0 := hc
  exact tolso_12_0 z1 z2 z3 z4 z6 z7 z8 z9 z10 ⟨hc0, hc1⟩ hl_ ((view_congr (T0 := (.sl 0 0 z1 :: .fl .f32 z2 :: .fl .f32 z3 :: (anys 7 (.int .i64 z4 :: .sl 1 0 z6 :: (anys 40 (.int .i64 z7 :: .int .i64 z8 :: (anys 114 []))))))) (fun i hi => by
    simp only [List.mem_cons, List.not_mem_nil, or_false] at hi
    rcases hi with rfl | rfl | rfl | rfl | rfl | rfl | rfl
    · exact e0_.trans rfl
    · exact e1_.trans rfl
    · exact e2_.trans rfl
    · exact e10_.trans rfl
    · exact e11_.trans rfl
    · exact e52_.trans rfl
    · exact e53_.trans rfl)).trans (by kernel_rfl)) eh_ hQ hi
noncomputable def gs_so : GsA := fun i => if i = 12 then some (tu1 gso_12) else none
theorem regs_so : (regList (codeOf Try.f11)).filter (fun p => (gs_so p.1).isSome) = [(12, opsso_12, true)] := by kernel_rfl
theorem regOk_so : RegOkA Try.prog gs_so (codeOf Try.f11) := by
  refine regOk_list _ fun p hp g hg => ?_
  have h : p ∈ (regList (codeOf Try.f11)).filter (fun p => (gs_so p.1).isSome) := List.mem_filter.2 ⟨hp, by rw [hg]; rfl⟩
  rw [regs_so] at h
  simp only [List.mem_cons, List.not_mem_nil, or_false] at h
  rcases h with rfl
  · cases hg; exact tu1_snd sndso_12
def st_so6 (rows0n : Nat) (beside1 : Nat) (energy2 : Nat) (rounds3 : Int) (n10 : Int) (state11n : Nat) (t44 : Int) (t45 : Int) (l0 : List Nat) (l1 : List Nat) : St := ⟨(.sl 0 0 rows0n :: .fl .f32 beside1 :: .fl .f32 energy2 :: .int .i64 rounds3 :: (anys 6 (.int .i64 n10 :: .sl 1 0 state11n :: (anys 32 (.int .i64 t44 :: .int .i64 t45 :: (anys 122 [])))))), [.at true (.fl .f32 l0), .at true (.fl .f32 l1)]⟩
abbrev kp_so6 : Option (List Nat × List Nat) := some ([0, 1, 2, 3, 10, 11, 44, 45], [0, 1, 2, 3, 10, 11])
noncomputable def lp_so6 {R : Type} (N M : Nat) (s : St) (K : X → St → Option R) : Option R := loopH 1 kp_so6 (fun st K => execA ty tab_so an_so gs_so N 1 (atOf [true, true, true, true, false, true, false, false] Try.f11) st K) M s K
noncomputable def kt_so6 {R : Type} (N : Nat) (K : X → St → Option R) : X → St → Option R := kBlkR 0 (kSeqA tab_so an_so gs_so N 1 (atOf [true, true, true, true, true] Try.f11) (K))
def st_so11 (rows0n : Nat) (beside1 : Nat) (energy2 : Nat) (n10 : Int) (state11n : Nat) (t52 : Int) (t53 : Int) (l0 : List Nat) (l1 : List Nat) : St := ⟨(.sl 0 0 rows0n :: .fl .f32 beside1 :: .fl .f32 energy2 :: (anys 7 (.int .i64 n10 :: .sl 1 0 state11n :: (anys 40 (.int .i64 t52 :: .int .i64 t53 :: (anys 114 [])))))), [.at true (.fl .f32 l0), .at true (.fl .f32 l1)]⟩
abbrev kp_so11 : Option (List Nat × List Nat) := some ([0, 1, 2, 10, 11, 52, 53], [11])
noncomputable def lp_so11 {R : Type} (N M : Nat) (s : St) (K : X → St → Option R) : Option R := loopH 1 kp_so11 (fun st K => execA ty tab_so an_so gs_so N 1 (atOf [true, true, true, true, true, false, true, false, false] Try.f11) st K) M s K
noncomputable def bk_so11 {R : Type} (N M : Nat) (K : X → St → Option R) : X → St → Option R := fun x st => match x with | .norm => tidyK 1 (kp_so11.map (·.1)) st fun st => lp_so11 N M st K | x => tidyK 1 (kp_so11.map (·.2)) st fun st => K x st
noncomputable def kt_so11 {R : Type} (N : Nat) (K : X → St → Option R) : X → St → Option R := kBlkR 2 (kSeqA tab_so an_so gs_so N 1 (atOf [true, true, true, true, true, true] Try.f11) (K))
def st_so14 (rows0n : Nat) (beside1 : Nat) (energy2 : Nat) (n10 : Int) (state11n : Nat) (middles13n : Nat) (t52 : Int) (t53 : Int) (t60 : Int) (t61 : Int) (l0 : List Nat) (l1 : List Nat) (l2 : List Nat) (l3 : List Nat) : St := ⟨(.sl 0 0 rows0n :: .fl .f32 beside1 :: .fl .f32 energy2 :: (anys 7 (.int .i64 n10 :: .sl 1 0 state11n :: .any :: .sl 2 0 middles13n :: .sl 3 0 state11n :: (anys 37 (.int .i64 t52 :: .int .i64 t53 :: .any :: .any :: .any :: .any :: .any :: .sl 0 0 rows0n :: .int .i64 t60 :: .int .i64 t61 :: (anys 106 [])))))), [.at true (.fl .f32 l0), .at true (.fl .f32 l1), .at true (.fl .f32 l2), .at true (.fl .f32 l3)]⟩
abbrev kp_so14 : Option (List Nat × List Nat) := some ([0, 1, 2, 10, 11, 13, 14, 52, 53, 59, 60, 61], [0, 1, 2, 10, 11, 13, 14, 52, 53])
noncomputable def lp_so14 {R : Type} (N M : Nat) (s : St) (K : X → St → Option R) : Option R := loopH 1 kp_so14 (fun st K => execA ty tab_so an_so gs_so N 1 (atOf [true, true, true, true, true, false, true, false, false, true, true, false, false, true, false, true, false, false] Try.f11) st K) M s K
noncomputable def kt_so14 {R : Type} (N : Nat) (K : X → St → Option R) : X → St → Option R := kBlkR 4 (kSeqA tab_so an_so gs_so N 1 (atOf [true, true, true, true, true, false, true, false, false, true, true, false, false, true, true] Try.f11) (kBlkR 3 (kSeqA tab_so an_so gs_so N 1 (atOf [true, true, true, true, true, false, true, false, false, true, true, true] Try.f11) (K))))
def st_so25 (rows0n : Nat) (beside1 : Nat) (energy2 : Nat) (n10 : Int) (state11n : Nat) (middles13n : Nat) (behind18 : Nat) (i20 : Int) (t52 : Int) (t53 : Int) (l0 : List Nat) (l1 : List Nat) (l2 : List Nat) (l3 : List Nat) : St := ⟨(.sl 0 0 rows0n :: .fl .f32 beside1 :: .fl .f32 energy2 :: (anys 7 (.int .i64 n10 :: .sl 1 0 state11n :: .any :: .sl 2 0 middles13n :: .sl 3 0 state11n :: .any :: .any :: .any :: .fl .f32 behind18 :: .fl .f32 0 :: .int .i64 i20 :: (anys 31 (.int .i64 t52 :: .int .i64 t53 :: (anys 114 [])))))), [.at true (.fl .f32 l0), .at true (.fl .f32 l1), .at true (.fl .f32 l2), .at true (.fl .f32 l3)]⟩
abbrev kp_so25 : Option (List Nat × List Nat) := some ([0, 1, 2, 10, 11, 13, 14, 18, 19, 20, 52, 53], [0, 1, 2, 10, 11, 19, 52, 53])
noncomputable def lp_so25 {R : Type} (N M : Nat) (s : St) (K : X → St → Option R) : Option R := loopH 1 kp_so25 (fun st K => execA ty tab_so an_so gs_so N 1 (atOf [true, true, true, true, true, false, true, false, false, true, true, false, false, true, true, true, false, true, false, false] Try.f11) st K) M s K
noncomputable def kt_so25 {R : Type} (N : Nat) (K : X → St → Option R) : X → St → Option R := kBlkR 6 (kSeqA tab_so an_so gs_so N 1 (atOf [true, true, true, true, true, false, true, false, false, true, true, false, false, true, true, true, true] Try.f11) (kBlkR 3 (kSeqA tab_so an_so gs_so N 1 (atOf [true, true, true, true, true, false, true, false, false, true, true, true] Try.f11) (K))))
def st_so30 (rows0n : Nat) (beside1 : Nat) (energy2 : Nat) (n10 : Int) (state11n : Nat) (squares19 : Nat) (t52 : Int) (t53 : Int) (t137 : Int) (t138 : Int) (l0 : List Nat) (l1 : List Nat) : St := ⟨(.sl 0 0 rows0n :: .fl .f32 beside1 :: .fl .f32 energy2 :: (anys 7 (.int .i64 n10 :: .sl 1 0 state11n :: (anys 7 (.fl .f32 squares19 :: (anys 32 (.int .i64 t52 :: .int .i64 t53 :: (anys 82 (.sl 1 0 state11n :: .int .i64 t137 :: .int .i64 t138 :: (anys 29 [])))))))))), [.at true (.fl .f32 l0), .at true (.fl .f32 l1)]⟩
abbrev kp_so30 : Option (List Nat × List Nat) := some ([0, 1, 2, 10, 11, 19, 52, 53, 136, 137, 138], [0, 1, 2, 10, 11, 19, 52, 53])
noncomputable def lp_so30 {R : Type} (N M : Nat) (s : St) (K : X → St → Option R) : Option R := loopH 1 kp_so30 (fun st K => execA ty tab_so an_so gs_so N 1 (atOf [true, true, true, true, true, false, true, false, false, true, true, false, false, true, true, true, true, false, true, false, false] Try.f11) st K) M s K
noncomputable def kt_so30 {R : Type} (N : Nat) (K : X → St → Option R) : X → St → Option R := kBlkR 8 (kSeqA tab_so an_so gs_so N 1 (atOf [true, true, true, true, true, false, true, false, false, true, true, false, false, true, true, true, true, true] Try.f11) (kBlkR 3 (kSeqA tab_so an_so gs_so N 1 (atOf [true, true, true, true, true, false, true, false, false, true, true, true] Try.f11) (K))))
def st_so36 (rows0n : Nat) (beside1 : Nat) (energy2 : Nat) (n10 : Int) (state11n : Nat) (root23 : Nat) (t52 : Int) (t53 : Int) (t151 : Int) (t152 : Int) (l0 : List Nat) (l1 : List Nat) : St := ⟨(.sl 0 0 rows0n :: .fl .f32 beside1 :: .fl .f32 energy2 :: (anys 7 (.int .i64 n10 :: .sl 1 0 state11n :: (anys 11 (.fl .f32 root23 :: (anys 28 (.int .i64 t52 :: .int .i64 t53 :: (anys 97 (.int .i64 t151 :: .int .i64 t152 :: (anys 15 [])))))))))), [.at true (.fl .f32 l0), .at true (.fl .f32 l1)]⟩
abbrev kp_so36 : Option (List Nat × List Nat) := some ([0, 1, 2, 10, 11, 23, 52, 53, 151, 152], [0, 1, 2, 10, 11, 52, 53])
noncomputable def lp_so36 {R : Type} (N M : Nat) (s : St) (K : X → St → Option R) : Option R := loopH 1 kp_so36 (fun st K => execA ty tab_so an_so gs_so N 1 (atOf [true, true, true, true, true, false, true, false, false, true, true, false, false, true, true, true, true, true, true, true, false, false] Try.f11) st K) M s K
noncomputable def kt_so36 {R : Type} (N : Nat) (K : X → St → Option R) : X → St → Option R := kBlkR 10 (kBlkR 3 (kSeqA tab_so an_so gs_so N 1 (atOf [true, true, true, true, true, false, true, false, false, true, true, true] Try.f11) (K)))
def en_so6_0 (rows0n : Nat) (beside1 : Nat) (energy2 : Nat) (rounds3 : Int) (n10 : Int) (state11n : Nat) (l0 : List Nat) (l1 : List Nat) : St := ⟨(.sl 0 0 rows0n :: .fl .f32 beside1 :: .fl .f32 energy2 :: .int .i64 rounds3 :: (anys 6 (.int .i64 n10 :: .sl 1 0 state11n :: (anys 156 [])))), [.at true (.fl .f32 l0), .at true (.fl .f32 l1)]⟩
def en_so11_0 (state11n : Nat) (l0 : List Nat) (l1 : List Nat) : St := ⟨(anys 11 (.sl 1 0 state11n :: (anys 156 []))), [.at true (.fl .f32 l0), .at true (.fl .f32 l1)]⟩
def en_so14_0 (rows0n : Nat) (beside1 : Nat) (energy2 : Nat) (n10 : Int) (state11n : Nat) (middles13n : Nat) (t52 : Int) (t53 : Int) (l0 : List Nat) (l1 : List Nat) (l2 : List Nat) (l3 : List Nat) : St := ⟨(.sl 0 0 rows0n :: .fl .f32 beside1 :: .fl .f32 energy2 :: (anys 7 (.int .i64 n10 :: .sl 1 0 state11n :: .any :: .sl 2 0 middles13n :: .sl 3 0 state11n :: (anys 37 (.int .i64 t52 :: .int .i64 t53 :: (anys 114 [])))))), [.at true (.fl .f32 l0), .at true (.fl .f32 l1), .at true (.fl .f32 l2), .at true (.fl .f32 l3)]⟩
def en_so25_0 (rows0n : Nat) (beside1 : Nat) (energy2 : Nat) (n10 : Int) (state11n : Nat) (t52 : Int) (t53 : Int) (l0 : List Nat) (l1 : List Nat) : St := ⟨(.sl 0 0 rows0n :: .fl .f32 beside1 :: .fl .f32 energy2 :: (anys 7 (.int .i64 n10 :: .sl 1 0 state11n :: (anys 7 (.fl .f32 0 :: (anys 32 (.int .i64 t52 :: .int .i64 t53 :: (anys 114 [])))))))), [.at true (.fl .f32 l0), .at true (.fl .f32 l1)]⟩
def en_so30_0 (rows0n : Nat) (beside1 : Nat) (energy2 : Nat) (n10 : Int) (state11n : Nat) (squares19 : Nat) (t52 : Int) (t53 : Int) (l0 : List Nat) (l1 : List Nat) : St := ⟨(.sl 0 0 rows0n :: .fl .f32 beside1 :: .fl .f32 energy2 :: (anys 7 (.int .i64 n10 :: .sl 1 0 state11n :: (anys 7 (.fl .f32 squares19 :: (anys 32 (.int .i64 t52 :: .int .i64 t53 :: (anys 114 [])))))))), [.at true (.fl .f32 l0), .at true (.fl .f32 l1)]⟩
def en_so36_0 (rows0n : Nat) (beside1 : Nat) (energy2 : Nat) (n10 : Int) (state11n : Nat) (t52 : Int) (t53 : Int) (l0 : List Nat) (l1 : List Nat) : St := ⟨(.sl 0 0 rows0n :: .fl .f32 beside1 :: .fl .f32 energy2 :: (anys 7 (.int .i64 n10 :: .sl 1 0 state11n :: (anys 40 (.int .i64 t52 :: .int .i64 t53 :: (anys 114 [])))))), [.at true (.fl .f32 l0), .at true (.fl .f32 l1)]⟩
theorem run_so (N : Nat) (n : Nat) (b : Nat) (x : Nat) (q : Int) (l : List Nat) : runA ty tab_so an_so gs_so N Try.f11 [.sl 0 0 n, .fl .f32 b, .fl .f32 x, .int .i64 q] [.at true (.fl .f32 l)]
    = (match (d_ar n b true l).isSome with | true => (match !(v_ar n b true l) with | true => some (.tup [.a (.nil), .a (.bool false)], [.at true (.fl .f32 l)]) | false => (match !(finB x) with | true => some (.tup [.a (.nil), .a (.bool false)], [.at true (.fl .f32 l)]) | false => (match !(inB q 1 8) with | true => some (.tup [.a (.nil), .a (.bool false)], [.at true (.fl .f32 l)]) | false => (match decide (0 ≤ (((n : Nat) : Int) : Int) ∧ (((n : Nat) : Int) : Int) ≤ ((n : Nat) : Int) ∧ (((n : Nat) : Int) : Int) ≤ 9223372036854775807 ∧ (((n : Nat) : Int) : Int).toNat * 4 ≤ 140737488355328 ∧ 0 < 1 ∧ 1 = 1) with | true => lp_so6 N N (st_so6 n b x q ((n : Nat) : Int) ((((n : Nat) : Int) : Int).toNat) (((((n : Nat) : Int) : Int).toNat : Nat) : Int) 0 l (List.replicate ((((n : Nat) : Int) : Int).toNat) 0)) (kt_so6 N (kEndA Try.f11 1)) | false => none)))) | false => none) := by
  kernel_rfl
theorem step_so6 {R : Type} (N M : Nat) (K : X → St → Option R) (rows0n : Nat) (beside1 : Nat) (energy2 : Nat) (rounds3 : Int) (n10 : Int) (state11n : Nat) (t44 : Int) (t45 : Int) (l0 : List Nat) (l1 : List Nat) : lp_so6 N (M + 1) (st_so6 rows0n beside1 energy2 rounds3 n10 state11n t44 t45 l0 l1) K
    = (match decide ((t45 : Int) < t44) with | true => (match decide (0 ≤ (t45 : Int) ∧ (t45 : Int) < ((state11n : Nat) : Int)) with | true => (match decide (0 + (t45).toNat * 1 < l1.length) with | true => lp_so6 N M (st_so6 rows0n beside1 energy2 rounds3 n10 state11n t44 (IntKind.i64.wrap (t45 + 1)) l0 (l1.set (0 + (t45).toNat * 1) 1065353216)) K | false => none) | false => none) | false => K (.exit 0) (en_so6_0 rows0n beside1 energy2 rounds3 n10 state11n l0 l1)) := by
  kernel_rfl
theorem step_so11 {R : Type} (N M : Nat) (K : X → St → Option R) (rows0n : Nat) (beside1 : Nat) (energy2 : Nat) (n10 : Int) (state11n : Nat) (t52 : Int) (t53 : Int) (l0 : List Nat) (l1 : List Nat) : lp_so11 N (M + 1) (st_so11 rows0n beside1 energy2 n10 state11n t52 t53 l0 l1) K
    = (match decide ((t53 : Int) < t52) with | true => (match (decide (0 ≤ (n10 : Int) ∧ (n10 : Int) ≤ n10 ∧ (n10 : Int) ≤ 9223372036854775807 ∧ (n10 : Int).toNat * 4 ≤ 140737488355328 ∧ 0 < 1 ∧ 1 = 1)) && (decide (l1.length = state11n ∧ state11n < 2147483648)) with | true => lp_so14 N N (st_so14 rows0n beside1 energy2 n10 state11n ((n10 : Int).toNat) t52 t53 ((rows0n : Nat) : Int) 0 l0 l1 (List.replicate ((n10 : Int).toNat) 0) l1) (kt_so14 N (bk_so11 N M K)) | false => none) | false => K (.exit 2) (en_so11_0 state11n l0 l1)) := by
  kernel_rfl
theorem step_so14 {R : Type} (N M : Nat) (K : X → St → Option R) (rows0n : Nat) (beside1 : Nat) (energy2 : Nat) (n10 : Int) (state11n : Nat) (middles13n : Nat) (t52 : Int) (t53 : Int) (t60 : Int) (t61 : Int) (l0 : List Nat) (l1 : List Nat) (l2 : List Nat) (l3 : List Nat) : lp_so14 N (M + 1) (st_so14 rows0n beside1 energy2 n10 state11n middles13n t52 t53 t60 t61 l0 l1 l2 l3) K
    = (match decide ((t61 : Int) < t60) with | true => (match decide (0 ≤ (t61 : Int) ∧ (t61 : Int) < ((rows0n : Nat) : Int)) with | true => (match l0[0 + (t61).toNat * 1]? with | some e1 => (match decide (0 ≤ (t61 : Int) ∧ (t61 : Int) < ((middles13n : Nat) : Int)) with | true => (match decide (0 + (t61).toNat * 1 < l2.length) with | true => (match decide ((t61 : Int) > 0) with | true => (match decide (0 ≤ (IntKind.i64.wrap (t61 - 1) : Int) ∧ (IntKind.i64.wrap (t61 - 1) : Int) < ((middles13n : Nat) : Int)) with | true => (match (l2.set (0 + (t61).toNat * 1) (fop .sub .f32 e1 (fop .sub .f32 energy2 981668463)))[0 + (IntKind.i64.wrap (t61 - 1)).toNat * 1]? with | some e2 => (match decide (0 ≤ (t61 : Int) ∧ (t61 : Int) < ((middles13n : Nat) : Int)) with | true => (match (l2.set (0 + (t61).toNat * 1) (fop .sub .f32 e1 (fop .sub .f32 energy2 981668463)))[0 + (t61).toNat * 1]? with | some e3 => (match decide (0 ≤ (t61 : Int) ∧ (t61 : Int) < ((middles13n : Nat) : Int)) with | true => (match decide (0 + (t61).toNat * 1 < (l2.set (0 + (t61).toNat * 1) (fop .sub .f32 e1 (fop .sub .f32 energy2 981668463))).length) with | true => (match decide (0 ≤ (t61 : Int) ∧ (t61 : Int) < ((state11n : Nat) : Int)) with | true => (match l3[0 + (t61).toNat * 1]? with | some e4 => (match decide (0 ≤ (IntKind.i64.wrap (t61 - 1) : Int) ∧ (IntKind.i64.wrap (t61 - 1) : Int) < ((state11n : Nat) : Int)) with | true => (match l3[0 + (IntKind.i64.wrap (t61 - 1)).toNat * 1]? with | some e5 => (match decide (0 ≤ (t61 : Int) ∧ (t61 : Int) < ((state11n : Nat) : Int)) with | true => (match decide (0 + (t61).toNat * 1 < l3.length) with | true => (match decide (0 ≤ (t61 : Int) ∧ (t61 : Int) < ((middles13n : Nat) : Int)) with | true => (match ((l2.set (0 + (t61).toNat * 1) (fop .sub .f32 e1 (fop .sub .f32 energy2 981668463))).set (0 + (t61).toNat * 1) (fop .sub .f32 e3 (fop .mul .f32 (fop .quo .f32 beside1 e2) beside1)))[0 + (t61).toNat * 1]? with | some e6 => (match decide (0 ≤ (t61 : Int) ∧ (t61 : Int) < ((middles13n : Nat) : Int)) with | true => (match decide (0 + (t61).toNat * 1 < ((l2.set (0 + (t61).toNat * 1) (fop .sub .f32 e1 (fop .sub .f32 energy2 981668463))).set (0 + (t61).toNat * 1) (fop .sub .f32 e3 (fop .mul .f32 (fop .quo .f32 beside1 e2) beside1))).length) with | true => lp_so14 N M (st_so14 rows0n beside1 energy2 n10 state11n middles13n t52 t53 t60 (IntKind.i64.wrap (t61 + 1)) l0 l1 (((l2.set (0 + (t61).toNat * 1) (fop .sub .f32 e1 (fop .sub .f32 energy2 981668463))).set (0 + (t61).toNat * 1) (fop .sub .f32 e3 (fop .mul .f32 (fop .quo .f32 beside1 e2) beside1))).set (0 + (t61).toNat * 1) (nzF e6)) (l3.set (0 + (t61).toNat * 1) (fop .sub .f32 e4 (fop .mul .f32 (fop .quo .f32 beside1 e2) e5)))) K | false => none) | false => none) | none => none) | false => none) | false => none) | false => none) | none => none) | false => none) | none => none) | false => none) | false => none) | false => none) | none => none) | false => none) | none => none) | false => none) | false => (match decide (0 ≤ (t61 : Int) ∧ (t61 : Int) < ((middles13n : Nat) : Int)) with | true => (match (l2.set (0 + (t61).toNat * 1) (fop .sub .f32 e1 (fop .sub .f32 energy2 981668463)))[0 + (t61).toNat * 1]? with | some e7 => (match decide (0 ≤ (t61 : Int) ∧ (t61 : Int) < ((middles13n : Nat) : Int)) with | true => (match decide (0 + (t61).toNat * 1 < (l2.set (0 + (t61).toNat * 1) (fop .sub .f32 e1 (fop .sub .f32 energy2 981668463))).length) with | true => lp_so14 N M (st_so14 rows0n beside1 energy2 n10 state11n middles13n t52 t53 t60 (IntKind.i64.wrap (t61 + 1)) l0 l1 ((l2.set (0 + (t61).toNat * 1) (fop .sub .f32 e1 (fop .sub .f32 energy2 981668463))).set (0 + (t61).toNat * 1) (nzF e7)) l3) K | false => none) | false => none) | none => none) | false => none)) | false => none) | false => none) | none => none) | false => none) | false => K (.exit 4) (en_so14_0 rows0n beside1 energy2 n10 state11n middles13n t52 t53 l0 l1 l2 l3)) := by
  kernel_rfl
theorem step_so25 {R : Type} (N M : Nat) (K : X → St → Option R) (rows0n : Nat) (beside1 : Nat) (energy2 : Nat) (n10 : Int) (state11n : Nat) (middles13n : Nat) (behind18 : Nat) (i20 : Int) (t52 : Int) (t53 : Int) (l0 : List Nat) (l1 : List Nat) (l2 : List Nat) (l3 : List Nat) : lp_so25 N (M + 1) (st_so25 rows0n beside1 energy2 n10 state11n middles13n behind18 i20 t52 t53 l0 l1 l2 l3) K
    = (match decide ((i20 : Int) ≥ 0) with | true => (match decide (0 ≤ (i20 : Int) ∧ (i20 : Int) < ((state11n : Nat) : Int)) with | true => (match l3[0 + (i20).toNat * 1]? with | some e1 => (match decide (0 ≤ (i20 : Int) ∧ (i20 : Int) < ((middles13n : Nat) : Int)) with | true => (match l2[0 + (i20).toNat * 1]? with | some e2 => (match decide (0 ≤ (i20 : Int) ∧ (i20 : Int) < ((state11n : Nat) : Int)) with | true => (match decide (0 + (i20).toNat * 1 < l1.length) with | true => lp_so25 N M (st_so25 rows0n beside1 energy2 n10 state11n middles13n (fop .quo .f32 (fop .sub .f32 e1 (fop .mul .f32 beside1 behind18)) e2) (IntKind.i64.wrap (i20 - 1)) t52 t53 l0 (l1.set (0 + (i20).toNat * 1) (fop .quo .f32 (fop .sub .f32 e1 (fop .mul .f32 beside1 behind18)) e2)) l2 l3) K | false => none) | false => none) | none => none) | false => none) | none => none) | false => none) | false => K (.exit 6) (en_so25_0 rows0n beside1 energy2 n10 state11n t52 t53 l0 l1)) := by
  kernel_rfl
theorem step_so30 {R : Type} (N M : Nat) (K : X → St → Option R) (rows0n : Nat) (beside1 : Nat) (energy2 : Nat) (n10 : Int) (state11n : Nat) (squares19 : Nat) (t52 : Int) (t53 : Int) (t137 : Int) (t138 : Int) (l0 : List Nat) (l1 : List Nat) : lp_so30 N (M + 1) (st_so30 rows0n beside1 energy2 n10 state11n squares19 t52 t53 t137 t138 l0 l1) K
    = (match decide ((t138 : Int) < t137) with | true => (match decide (0 ≤ (t138 : Int) ∧ (t138 : Int) < ((state11n : Nat) : Int)) with | true => (match l1[0 + (t138).toNat * 1]? with | some e1 => lp_so30 N M (st_so30 rows0n beside1 energy2 n10 state11n (fop .add .f32 squares19 (fop .mul .f32 e1 e1)) t52 t53 t137 (IntKind.i64.wrap (t138 + 1)) l0 l1) K | none => none) | false => none) | false => K (.exit 8) (en_so30_0 rows0n beside1 energy2 n10 state11n squares19 t52 t53 l0 l1)) := by
  kernel_rfl
theorem step_so36 {R : Type} (N M : Nat) (K : X → St → Option R) (rows0n : Nat) (beside1 : Nat) (energy2 : Nat) (n10 : Int) (state11n : Nat) (root23 : Nat) (t52 : Int) (t53 : Int) (t151 : Int) (t152 : Int) (l0 : List Nat) (l1 : List Nat) : lp_so36 N (M + 1) (st_so36 rows0n beside1 energy2 n10 state11n root23 t52 t53 t151 t152 l0 l1) K
    = (match decide ((t152 : Int) < t151) with | true => (match decide (0 ≤ (t152 : Int) ∧ (t152 : Int) < ((state11n : Nat) : Int)) with | true => (match l1[0 + (t152).toNat * 1]? with | some e1 => (match decide (0 ≤ (t152 : Int) ∧ (t152 : Int) < ((state11n : Nat) : Int)) with | true => (match decide (0 + (t152).toNat * 1 < l1.length) with | true => lp_so36 N M (st_so36 rows0n beside1 energy2 n10 state11n root23 t52 t53 t151 (IntKind.i64.wrap (t152 + 1)) l0 (l1.set (0 + (t152).toNat * 1) (fop .quo .f32 e1 root23))) K | false => none) | false => none) | none => none) | false => none) | false => K (.exit 10) (en_so36_0 rows0n beside1 energy2 n10 state11n t52 t53 l0 l1)) := by
  kernel_rfl
theorem end_so6_0 (N : Nat) (rows0n : Nat) (beside1 : Nat) (energy2 : Nat) (rounds3 : Int) (n10 : Int) (state11n : Nat) (l0 : List Nat) (l1 : List Nat) : kt_so6 N (kEndA Try.f11 1) (.exit 0) (en_so6_0 rows0n beside1 energy2 rounds3 n10 state11n l0 l1)
    = lp_so11 N N (st_so11 rows0n beside1 energy2 n10 state11n rounds3 0 l0 l1) (kt_so11 N (kEndA Try.f11 1)) := by
  kernel_rfl
theorem end_so11_0 (N : Nat) (state11n : Nat) (l0 : List Nat) (l1 : List Nat) : kt_so11 N (kEndA Try.f11 1) (.exit 2) (en_so11_0 state11n l0 l1)
    = (match decide (l1.length = state11n ∧ state11n < 2147483648) with | true => (match l1.all finB with | true => some (.tup [.a (.sl 1 0 state11n), .a (.bool true)], [.at true (.fl .f32 l0), .at true (.fl .f32 l1)]) | false => some (.tup [.a (.nil), .a (.bool false)], [.at true (.fl .f32 l0)])) | false => none) := by
  kernel_rfl
theorem end_so14_0 {R : Type} (N M : Nat) (K : X → St → Option R) (rows0n : Nat) (beside1 : Nat) (energy2 : Nat) (n10 : Int) (state11n : Nat) (middles13n : Nat) (t52 : Int) (t53 : Int) (l0 : List Nat) (l1 : List Nat) (l2 : List Nat) (l3 : List Nat) : kt_so14 N (bk_so11 N M K) (.exit 4) (en_so14_0 rows0n beside1 energy2 n10 state11n middles13n t52 t53 l0 l1 l2 l3)
    = lp_so25 N N (st_so25 rows0n beside1 energy2 n10 state11n middles13n 0 (IntKind.i64.wrap (n10 - 1)) t52 t53 l0 l1 l2 l3) (kt_so25 N (bk_so11 N M K)) := by
  kernel_rfl
theorem end_so25_0 {R : Type} (N M : Nat) (K : X → St → Option R) (rows0n : Nat) (beside1 : Nat) (energy2 : Nat) (n10 : Int) (state11n : Nat) (t52 : Int) (t53 : Int) (l0 : List Nat) (l1 : List Nat) : kt_so25 N (bk_so11 N M K) (.exit 6) (en_so25_0 rows0n beside1 energy2 n10 state11n t52 t53 l0 l1)
    = lp_so30 N N (st_so30 rows0n beside1 energy2 n10 state11n 0 t52 t53 ((state11n : Nat) : Int) 0 l0 l1) (kt_so30 N (bk_so11 N M K)) := by
  kernel_rfl
theorem end_so30_0 {R : Type} (N M : Nat) (K : X → St → Option R) (rows0n : Nat) (beside1 : Nat) (energy2 : Nat) (n10 : Int) (state11n : Nat) (squares19 : Nat) (t52 : Int) (t53 : Int) (l0 : List Nat) (l1 : List Nat) : kt_so30 N (bk_so11 N M K) (.exit 8) (en_so30_0 rows0n beside1 energy2 n10 state11n squares19 t52 t53 l0 l1)
    = lp_so36 N N (st_so36 rows0n beside1 energy2 n10 state11n (rootF squares19) t52 t53 ((state11n : Nat) : Int) 0 l0 l1) (kt_so36 N (bk_so11 N M K)) := by
  kernel_rfl
theorem end_so36_0 {R : Type} (N M : Nat) (K : X → St → Option R) (rows0n : Nat) (beside1 : Nat) (energy2 : Nat) (n10 : Int) (state11n : Nat) (t52 : Int) (t53 : Int) (l0 : List Nat) (l1 : List Nat) : kt_so36 N (bk_so11 N M K) (.exit 10) (en_so36_0 rows0n beside1 energy2 n10 state11n t52 t53 l0 l1)
    = lp_so11 N M (st_so11 rows0n beside1 energy2 n10 state11n t52 (IntKind.i64.wrap (t53 + 1)) l0 l1) K := by
  kernel_rfl
noncomputable def ce_so36_0 (N : Nat) (g : Nat → Nat → Nat → Int → Nat → Int → Int → List Nat → List Nat → Option (V × H)) (q0 : Nat → List Nat → List Nat → Option (V × H)) (rows0n : Nat) (beside1 : Nat) (energy2 : Nat) (n10 : Int) (state11n : Nat) (t52 : Int) (t53 : Int) (l0 : List Nat) (l1 : List Nat) : Option (V × H) := (g rows0n beside1 energy2 n10 state11n t52 (IntKind.i64.wrap (t53 + 1)) l0 l1)
noncomputable def mb_so36 (N : Nat) (k0 : Nat → Nat → Nat → Int → Nat → Int → Int → List Nat → List Nat → Option (V × H)) (rq : Nat → Nat → Nat → Int → Nat → Nat → Int → Int → Int → Int → List Nat → List Nat → Option (V × H)) : Nat → Nat → Nat → Int → Nat → Nat → Int → Int → Int → Int → List Nat → List Nat → Option (V × H) := fun (rows0n : Nat) (beside1 : Nat) (energy2 : Nat) (n10 : Int) (state11n : Nat) (root23 : Nat) (t52 : Int) (t53 : Int) (t151 : Int) (t152 : Int) (l0 : List Nat) (l1 : List Nat) => (match decide ((t152 : Int) < t151) with | true => (match decide (0 ≤ (t152 : Int) ∧ (t152 : Int) < ((state11n : Nat) : Int)) with | true => (match l1[0 + (t152).toNat * 1]? with | some e1 => (match decide (0 ≤ (t152 : Int) ∧ (t152 : Int) < ((state11n : Nat) : Int)) with | true => (match decide (0 + (t152).toNat * 1 < l1.length) with | true => (rq rows0n beside1 energy2 n10 state11n root23 t52 t53 t151 (IntKind.i64.wrap (t152 + 1)) l0 (l1.set (0 + (t152).toNat * 1) (fop .quo .f32 e1 root23))) | false => none) | false => none) | none => none) | false => none) | false => (k0 rows0n beside1 energy2 n10 state11n t52 t53 l0 l1))
noncomputable def mr_so36 (N : Nat) (k0 : Nat → Nat → Nat → Int → Nat → Int → Int → List Nat → List Nat → Option (V × H)) (M : Nat) : Nat → Nat → Nat → Int → Nat → Nat → Int → Int → Int → Int → List Nat → List Nat → Option (V × H) := Nat.rec (motive := fun _ => Nat → Nat → Nat → Int → Nat → Nat → Int → Int → Int → Int → List Nat → List Nat → Option (V × H)) (fun (_ : Nat) (_ : Nat) (_ : Nat) (_ : Int) (_ : Nat) (_ : Nat) (_ : Int) (_ : Int) (_ : Int) (_ : Int) (_ : List Nat) (_ : List Nat) => none) (fun _ rq => mb_so36 N k0 rq) M
theorem mrs_so36 (N : Nat) (k0 : Nat → Nat → Nat → Int → Nat → Int → Int → List Nat → List Nat → Option (V × H)) (M : Nat) (rows0n : Nat) (beside1 : Nat) (energy2 : Nat) (n10 : Int) (state11n : Nat) (root23 : Nat) (t52 : Int) (t53 : Int) (t151 : Int) (t152 : Int) (l0 : List Nat) (l1 : List Nat) : mr_so36 N k0 (M + 1) rows0n beside1 energy2 n10 state11n root23 t52 t53 t151 t152 l0 l1 = mb_so36 N k0 (mr_so36 N k0 M) rows0n beside1 energy2 n10 state11n root23 t52 t53 t151 t152 l0 l1 := rfl
theorem H_so36 (N : Nat) (Mp : Nat) (K : X → St → Option (V × H)) (g : Nat → Nat → Nat → Int → Nat → Int → Int → List Nat → List Nat → Option (V × H)) (q0 : Nat → List Nat → List Nat → Option (V × H)) (hg : ∀ (rows0n : Nat) (beside1 : Nat) (energy2 : Nat) (n10 : Int) (state11n : Nat) (t52 : Int) (t53 : Int) (l0 : List Nat) (l1 : List Nat), lp_so11 N Mp (st_so11 rows0n beside1 energy2 n10 state11n t52 t53 l0 l1) K = g rows0n beside1 energy2 n10 state11n t52 t53 l0 l1) (hk0 : ∀ (state11n : Nat) (l0 : List Nat) (l1 : List Nat), K (.exit 2) (en_so11_0 state11n l0 l1) = q0 state11n l0 l1) : ∀ (M : Nat) (rows0n : Nat) (beside1 : Nat) (energy2 : Nat) (n10 : Int) (state11n : Nat) (root23 : Nat) (t52 : Int) (t53 : Int) (t151 : Int) (t152 : Int) (l0 : List Nat) (l1 : List Nat), lp_so36 N M (st_so36 rows0n beside1 energy2 n10 state11n root23 t52 t53 t151 t152 l0 l1) (kt_so36 N (bk_so11 N Mp K)) = mr_so36 N (ce_so36_0 N g q0) M rows0n beside1 energy2 n10 state11n root23 t52 t53 t151 t152 l0 l1 := by
  have he0 : ∀ (rows0n : Nat) (beside1 : Nat) (energy2 : Nat) (n10 : Int) (state11n : Nat) (t52 : Int) (t53 : Int) (l0 : List Nat) (l1 : List Nat), kt_so36 N (bk_so11 N Mp K) (.exit 10) (en_so36_0 rows0n beside1 energy2 n10 state11n t52 t53 l0 l1) = ce_so36_0 N g q0 rows0n beside1 energy2 n10 state11n t52 t53 l0 l1 := by
    intro rows0n beside1 energy2 n10 state11n t52 t53 l0 l1
    rw [end_so36_0]
    unfold ce_so36_0
    first | (simp only [hg, hk0]; done) | (simp only [hg, hk0]; kernel_rfl) | rfl
  intro M
  induction M with
  | zero => intros; rfl
  | succ M ih =>
    intro rows0n beside1 energy2 n10 state11n root23 t52 t53 t151 t152 l0 l1
    rw [step_so36]
    rw [mrs_so36]
    unfold mb_so36
    first | (simp only [ih, he0]; done) | (simp only [ih, he0]; kernel_rfl) | rfl
noncomputable def ce_so30_0 (N : Nat) (g : Nat → Nat → Nat → Int → Nat → Int → Int → List Nat → List Nat → Option (V × H)) (q0 : Nat → List Nat → List Nat → Option (V × H)) (rows0n : Nat) (beside1 : Nat) (energy2 : Nat) (n10 : Int) (state11n : Nat) (squares19 : Nat) (t52 : Int) (t53 : Int) (l0 : List Nat) (l1 : List Nat) : Option (V × H) := (mr_so36 N (ce_so36_0 N g q0) N rows0n beside1 energy2 n10 state11n (rootF squares19) t52 t53 ((state11n : Nat) : Int) 0 l0 l1)
noncomputable def mb_so30 (N : Nat) (k0 : Nat → Nat → Nat → Int → Nat → Nat → Int → Int → List Nat → List Nat → Option (V × H)) (rq : Nat → Nat → Nat → Int → Nat → Nat → Int → Int → Int → Int → List Nat → List Nat → Option (V × H)) : Nat → Nat → Nat → Int → Nat → Nat → Int → Int → Int → Int → List Nat → List Nat → Option (V × H) := fun (rows0n : Nat) (beside1 : Nat) (energy2 : Nat) (n10 : Int) (state11n : Nat) (squares19 : Nat) (t52 : Int) (t53 : Int) (t137 : Int) (t138 : Int) (l0 : List Nat) (l1 : List Nat) => (match decide ((t138 : Int) < t137) with | true => (match decide (0 ≤ (t138 : Int) ∧ (t138 : Int) < ((state11n : Nat) : Int)) with | true => (match l1[0 + (t138).toNat * 1]? with | some e1 => (rq rows0n beside1 energy2 n10 state11n (fop .add .f32 squares19 (fop .mul .f32 e1 e1)) t52 t53 t137 (IntKind.i64.wrap (t138 + 1)) l0 l1) | none => none) | false => none) | false => (k0 rows0n beside1 energy2 n10 state11n squares19 t52 t53 l0 l1))
noncomputable def mr_so30 (N : Nat) (k0 : Nat → Nat → Nat → Int → Nat → Nat → Int → Int → List Nat → List Nat → Option (V × H)) (M : Nat) : Nat → Nat → Nat → Int → Nat → Nat → Int → Int → Int → Int → List Nat → List Nat → Option (V × H) := Nat.rec (motive := fun _ => Nat → Nat → Nat → Int → Nat → Nat → Int → Int → Int → Int → List Nat → List Nat → Option (V × H)) (fun (_ : Nat) (_ : Nat) (_ : Nat) (_ : Int) (_ : Nat) (_ : Nat) (_ : Int) (_ : Int) (_ : Int) (_ : Int) (_ : List Nat) (_ : List Nat) => none) (fun _ rq => mb_so30 N k0 rq) M
theorem mrs_so30 (N : Nat) (k0 : Nat → Nat → Nat → Int → Nat → Nat → Int → Int → List Nat → List Nat → Option (V × H)) (M : Nat) (rows0n : Nat) (beside1 : Nat) (energy2 : Nat) (n10 : Int) (state11n : Nat) (squares19 : Nat) (t52 : Int) (t53 : Int) (t137 : Int) (t138 : Int) (l0 : List Nat) (l1 : List Nat) : mr_so30 N k0 (M + 1) rows0n beside1 energy2 n10 state11n squares19 t52 t53 t137 t138 l0 l1 = mb_so30 N k0 (mr_so30 N k0 M) rows0n beside1 energy2 n10 state11n squares19 t52 t53 t137 t138 l0 l1 := rfl
theorem H_so30 (N : Nat) (Mp : Nat) (K : X → St → Option (V × H)) (g : Nat → Nat → Nat → Int → Nat → Int → Int → List Nat → List Nat → Option (V × H)) (q0 : Nat → List Nat → List Nat → Option (V × H)) (hg : ∀ (rows0n : Nat) (beside1 : Nat) (energy2 : Nat) (n10 : Int) (state11n : Nat) (t52 : Int) (t53 : Int) (l0 : List Nat) (l1 : List Nat), lp_so11 N Mp (st_so11 rows0n beside1 energy2 n10 state11n t52 t53 l0 l1) K = g rows0n beside1 energy2 n10 state11n t52 t53 l0 l1) (hk0 : ∀ (state11n : Nat) (l0 : List Nat) (l1 : List Nat), K (.exit 2) (en_so11_0 state11n l0 l1) = q0 state11n l0 l1) : ∀ (M : Nat) (rows0n : Nat) (beside1 : Nat) (energy2 : Nat) (n10 : Int) (state11n : Nat) (squares19 : Nat) (t52 : Int) (t53 : Int) (t137 : Int) (t138 : Int) (l0 : List Nat) (l1 : List Nat), lp_so30 N M (st_so30 rows0n beside1 energy2 n10 state11n squares19 t52 t53 t137 t138 l0 l1) (kt_so30 N (bk_so11 N Mp K)) = mr_so30 N (ce_so30_0 N g q0) M rows0n beside1 energy2 n10 state11n squares19 t52 t53 t137 t138 l0 l1 := by
  have he0 : ∀ (rows0n : Nat) (beside1 : Nat) (energy2 : Nat) (n10 : Int) (state11n : Nat) (squares19 : Nat) (t52 : Int) (t53 : Int) (l0 : List Nat) (l1 : List Nat), kt_so30 N (bk_so11 N Mp K) (.exit 8) (en_so30_0 rows0n beside1 energy2 n10 state11n squares19 t52 t53 l0 l1) = ce_so30_0 N g q0 rows0n beside1 energy2 n10 state11n squares19 t52 t53 l0 l1 := by
    intro rows0n beside1 energy2 n10 state11n squares19 t52 t53 l0 l1
    rw [end_so30_0]
    unfold ce_so30_0
    first | (simp only [hg, hk0, H_so36 N Mp K g q0 hg hk0 N]; done) | (simp only [hg, hk0, H_so36 N Mp K g q0 hg hk0 N]; kernel_rfl) | rfl
  intro M
  induction M with
  | zero => intros; rfl
  | succ M ih =>
    intro rows0n beside1 energy2 n10 state11n squares19 t52 t53 t137 t138 l0 l1
    rw [step_so30]
    rw [mrs_so30]
    unfold mb_so30
    first | (simp only [ih, he0]; done) | (simp only [ih, he0]; kernel_rfl) | rfl
noncomputable def ce_so25_0 (N : Nat) (g : Nat → Nat → Nat → Int → Nat → Int → Int → List Nat → List Nat → Option (V × H)) (q0 : Nat → List Nat → List Nat → Option (V × H)) (rows0n : Nat) (beside1 : Nat) (energy2 : Nat) (n10 : Int) (state11n : Nat) (t52 : Int) (t53 : Int) (l0 : List Nat) (l1 : List Nat) : Option (V × H) := (mr_so30 N (ce_so30_0 N g q0) N rows0n beside1 energy2 n10 state11n 0 t52 t53 ((state11n : Nat) : Int) 0 l0 l1)
noncomputable def mb_so25 (N : Nat) (k0 : Nat → Nat → Nat → Int → Nat → Int → Int → List Nat → List Nat → Option (V × H)) (rq : Nat → Nat → Nat → Int → Nat → Nat → Nat → Int → Int → Int → List Nat → List Nat → List Nat → List Nat → Option (V × H)) : Nat → Nat → Nat → Int → Nat → Nat → Nat → Int → Int → Int → List Nat → List Nat → List Nat → List Nat → Option (V × H) := fun (rows0n : Nat) (beside1 : Nat) (energy2 : Nat) (n10 : Int) (state11n : Nat) (middles13n : Nat) (behind18 : Nat) (i20 : Int) (t52 : Int) (t53 : Int) (l0 : List Nat) (l1 : List Nat) (l2 : List Nat) (l3 : List Nat) => (match decide ((i20 : Int) ≥ 0) with | true => (match decide (0 ≤ (i20 : Int) ∧ (i20 : Int) < ((state11n : Nat) : Int)) with | true => (match l3[0 + (i20).toNat * 1]? with | some e1 => (match decide (0 ≤ (i20 : Int) ∧ (i20 : Int) < ((middles13n : Nat) : Int)) with | true => (match l2[0 + (i20).toNat * 1]? with | some e2 => (match decide (0 ≤ (i20 : Int) ∧ (i20 : Int) < ((state11n : Nat) : Int)) with | true => (match decide (0 + (i20).toNat * 1 < l1.length) with | true => (rq rows0n beside1 energy2 n10 state11n middles13n (fop .quo .f32 (fop .sub .f32 e1 (fop .mul .f32 beside1 behind18)) e2) (IntKind.i64.wrap (i20 - 1)) t52 t53 l0 (l1.set (0 + (i20).toNat * 1) (fop .quo .f32 (fop .sub .f32 e1 (fop .mul .f32 beside1 behind18)) e2)) l2 l3) | false => none) | false => none) | none => none) | false => none) | none => none) | false => none) | false => (k0 rows0n beside1 energy2 n10 state11n t52 t53 l0 l1))
noncomputable def mr_so25 (N : Nat) (k0 : Nat → Nat → Nat → Int → Nat → Int → Int → List Nat → List Nat → Option (V × H)) (M : Nat) : Nat → Nat → Nat → Int → Nat → Nat → Nat → Int → Int → Int → List Nat → List Nat → List Nat → List Nat → Option (V × H) := Nat.rec (motive := fun _ => Nat → Nat → Nat → Int → Nat → Nat → Nat → Int → Int → Int → List Nat → List Nat → List Nat → List Nat → Option (V × H)) (fun (_ : Nat) (_ : Nat) (_ : Nat) (_ : Int) (_ : Nat) (_ : Nat) (_ : Nat) (_ : Int) (_ : Int) (_ : Int) (_ : List Nat) (_ : List Nat) (_ : List Nat) (_ : List Nat) => none) (fun _ rq => mb_so25 N k0 rq) M
theorem mrs_so25 (N : Nat) (k0 : Nat → Nat → Nat → Int → Nat → Int → Int → List Nat → List Nat → Option (V × H)) (M : Nat) (rows0n : Nat) (beside1 : Nat) (energy2 : Nat) (n10 : Int) (state11n : Nat) (middles13n : Nat) (behind18 : Nat) (i20 : Int) (t52 : Int) (t53 : Int) (l0 : List Nat) (l1 : List Nat) (l2 : List Nat) (l3 : List Nat) : mr_so25 N k0 (M + 1) rows0n beside1 energy2 n10 state11n middles13n behind18 i20 t52 t53 l0 l1 l2 l3 = mb_so25 N k0 (mr_so25 N k0 M) rows0n beside1 energy2 n10 state11n middles13n behind18 i20 t52 t53 l0 l1 l2 l3 := rfl
theorem H_so25 (N : Nat) (Mp : Nat) (K : X → St → Option (V × H)) (g : Nat → Nat → Nat → Int → Nat → Int → Int → List Nat → List Nat → Option (V × H)) (q0 : Nat → List Nat → List Nat → Option (V × H)) (hg : ∀ (rows0n : Nat) (beside1 : Nat) (energy2 : Nat) (n10 : Int) (state11n : Nat) (t52 : Int) (t53 : Int) (l0 : List Nat) (l1 : List Nat), lp_so11 N Mp (st_so11 rows0n beside1 energy2 n10 state11n t52 t53 l0 l1) K = g rows0n beside1 energy2 n10 state11n t52 t53 l0 l1) (hk0 : ∀ (state11n : Nat) (l0 : List Nat) (l1 : List Nat), K (.exit 2) (en_so11_0 state11n l0 l1) = q0 state11n l0 l1) : ∀ (M : Nat) (rows0n : Nat) (beside1 : Nat) (energy2 : Nat) (n10 : Int) (state11n : Nat) (middles13n : Nat) (behind18 : Nat) (i20 : Int) (t52 : Int) (t53 : Int) (l0 : List Nat) (l1 : List Nat) (l2 : List Nat) (l3 : List Nat), lp_so25 N M (st_so25 rows0n beside1 energy2 n10 state11n middles13n behind18 i20 t52 t53 l0 l1 l2 l3) (kt_so25 N (bk_so11 N Mp K)) = mr_so25 N (ce_so25_0 N g q0) M rows0n beside1 energy2 n10 state11n middles13n behind18 i20 t52 t53 l0 l1 l2 l3 := by
  have he0 : ∀ (rows0n : Nat) (beside1 : Nat) (energy2 : Nat) (n10 : Int) (state11n : Nat) (t52 : Int) (t53 : Int) (l0 : List Nat) (l1 : List Nat), kt_so25 N (bk_so11 N Mp K) (.exit 6) (en_so25_0 rows0n beside1 energy2 n10 state11n t52 t53 l0 l1) = ce_so25_0 N g q0 rows0n beside1 energy2 n10 state11n t52 t53 l0 l1 := by
    intro rows0n beside1 energy2 n10 state11n t52 t53 l0 l1
    rw [end_so25_0]
    unfold ce_so25_0
    first | (simp only [hg, hk0, H_so30 N Mp K g q0 hg hk0 N]; done) | (simp only [hg, hk0, H_so30 N Mp K g q0 hg hk0 N]; kernel_rfl) | rfl
  intro M
  induction M with
  | zero => intros; rfl
  | succ M ih =>
    intro rows0n beside1 energy2 n10 state11n middles13n behind18 i20 t52 t53 l0 l1 l2 l3
    rw [step_so25]
    rw [mrs_so25]
    unfold mb_so25
    first | (simp only [ih, he0]; done) | (simp only [ih, he0]; kernel_rfl) | rfl
noncomputable def ce_so14_0 (N : Nat) (g : Nat → Nat → Nat → Int → Nat → Int → Int → List Nat → List Nat → Option (V × H)) (q0 : Nat → List Nat → List Nat → Option (V × H)) (rows0n : Nat) (beside1 : Nat) (energy2 : Nat) (n10 : Int) (state11n : Nat) (middles13n : Nat) (t52 : Int) (t53 : Int) (l0 : List Nat) (l1 : List Nat) (l2 : List Nat) (l3 : List Nat) : Option (V × H) := (mr_so25 N (ce_so25_0 N g q0) N rows0n beside1 energy2 n10 state11n middles13n 0 (IntKind.i64.wrap (n10 - 1)) t52 t53 l0 l1 l2 l3)
noncomputable def mb_so14 (N : Nat) (k0 : Nat → Nat → Nat → Int → Nat → Nat → Int → Int → List Nat → List Nat → List Nat → List Nat → Option (V × H)) (rq : Nat → Nat → Nat → Int → Nat → Nat → Int → Int → Int → Int → List Nat → List Nat → List Nat → List Nat → Option (V × H)) : Nat → Nat → Nat → Int → Nat → Nat → Int → Int → Int → Int → List Nat → List Nat → List Nat → List Nat → Option (V × H) := fun (rows0n : Nat) (beside1 : Nat) (energy2 : Nat) (n10 : Int) (state11n : Nat) (middles13n : Nat) (t52 : Int) (t53 : Int) (t60 : Int) (t61 : Int) (l0 : List Nat) (l1 : List Nat) (l2 : List Nat) (l3 : List Nat) => (match decide ((t61 : Int) < t60) with | true => (match decide (0 ≤ (t61 : Int) ∧ (t61 : Int) < ((rows0n : Nat) : Int)) with | true => (match l0[0 + (t61).toNat * 1]? with | some e1 => (match decide (0 ≤ (t61 : Int) ∧ (t61 : Int) < ((middles13n : Nat) : Int)) with | true => (match decide (0 + (t61).toNat * 1 < l2.length) with | true => (match decide ((t61 : Int) > 0) with | true => (match decide (0 ≤ (IntKind.i64.wrap (t61 - 1) : Int) ∧ (IntKind.i64.wrap (t61 - 1) : Int) < ((middles13n : Nat) : Int)) with | true => (match (l2.set (0 + (t61).toNat * 1) (fop .sub .f32 e1 (fop .sub .f32 energy2 981668463)))[0 + (IntKind.i64.wrap (t61 - 1)).toNat * 1]? with | some e2 => (match decide (0 ≤ (t61 : Int) ∧ (t61 : Int) < ((middles13n : Nat) : Int)) with | true => (match (l2.set (0 + (t61).toNat * 1) (fop .sub .f32 e1 (fop .sub .f32 energy2 981668463)))[0 + (t61).toNat * 1]? with | some e3 => (match decide (0 ≤ (t61 : Int) ∧ (t61 : Int) < ((middles13n : Nat) : Int)) with | true => (match decide (0 + (t61).toNat * 1 < (l2.set (0 + (t61).toNat * 1) (fop .sub .f32 e1 (fop .sub .f32 energy2 981668463))).length) with | true => (match decide (0 ≤ (t61 : Int) ∧ (t61 : Int) < ((state11n : Nat) : Int)) with | true => (match l3[0 + (t61).toNat * 1]? with | some e4 => (match decide (0 ≤ (IntKind.i64.wrap (t61 - 1) : Int) ∧ (IntKind.i64.wrap (t61 - 1) : Int) < ((state11n : Nat) : Int)) with | true => (match l3[0 + (IntKind.i64.wrap (t61 - 1)).toNat * 1]? with | some e5 => (match decide (0 ≤ (t61 : Int) ∧ (t61 : Int) < ((state11n : Nat) : Int)) with | true => (match decide (0 + (t61).toNat * 1 < l3.length) with | true => (match decide (0 ≤ (t61 : Int) ∧ (t61 : Int) < ((middles13n : Nat) : Int)) with | true => (match ((l2.set (0 + (t61).toNat * 1) (fop .sub .f32 e1 (fop .sub .f32 energy2 981668463))).set (0 + (t61).toNat * 1) (fop .sub .f32 e3 (fop .mul .f32 (fop .quo .f32 beside1 e2) beside1)))[0 + (t61).toNat * 1]? with | some e6 => (match decide (0 ≤ (t61 : Int) ∧ (t61 : Int) < ((middles13n : Nat) : Int)) with | true => (match decide (0 + (t61).toNat * 1 < ((l2.set (0 + (t61).toNat * 1) (fop .sub .f32 e1 (fop .sub .f32 energy2 981668463))).set (0 + (t61).toNat * 1) (fop .sub .f32 e3 (fop .mul .f32 (fop .quo .f32 beside1 e2) beside1))).length) with | true => (rq rows0n beside1 energy2 n10 state11n middles13n t52 t53 t60 (IntKind.i64.wrap (t61 + 1)) l0 l1 (((l2.set (0 + (t61).toNat * 1) (fop .sub .f32 e1 (fop .sub .f32 energy2 981668463))).set (0 + (t61).toNat * 1) (fop .sub .f32 e3 (fop .mul .f32 (fop .quo .f32 beside1 e2) beside1))).set (0 + (t61).toNat * 1) (nzF e6)) (l3.set (0 + (t61).toNat * 1) (fop .sub .f32 e4 (fop .mul .f32 (fop .quo .f32 beside1 e2) e5)))) | false => none) | false => none) | none => none) | false => none) | false => none) | false => none) | none => none) | false => none) | none => none) | false => none) | false => none) | false => none) | none => none) | false => none) | none => none) | false => none) | false => (match decide (0 ≤ (t61 : Int) ∧ (t61 : Int) < ((middles13n : Nat) : Int)) with | true => (match (l2.set (0 + (t61).toNat * 1) (fop .sub .f32 e1 (fop .sub .f32 energy2 981668463)))[0 + (t61).toNat * 1]? with | some e7 => (match decide (0 ≤ (t61 : Int) ∧ (t61 : Int) < ((middles13n : Nat) : Int)) with | true => (match decide (0 + (t61).toNat * 1 < (l2.set (0 + (t61).toNat * 1) (fop .sub .f32 e1 (fop .sub .f32 energy2 981668463))).length) with | true => (rq rows0n beside1 energy2 n10 state11n middles13n t52 t53 t60 (IntKind.i64.wrap (t61 + 1)) l0 l1 ((l2.set (0 + (t61).toNat * 1) (fop .sub .f32 e1 (fop .sub .f32 energy2 981668463))).set (0 + (t61).toNat * 1) (nzF e7)) l3) | false => none) | false => none) | none => none) | false => none)) | false => none) | false => none) | none => none) | false => none) | false => (k0 rows0n beside1 energy2 n10 state11n middles13n t52 t53 l0 l1 l2 l3))
noncomputable def mr_so14 (N : Nat) (k0 : Nat → Nat → Nat → Int → Nat → Nat → Int → Int → List Nat → List Nat → List Nat → List Nat → Option (V × H)) (M : Nat) : Nat → Nat → Nat → Int → Nat → Nat → Int → Int → Int → Int → List Nat → List Nat → List Nat → List Nat → Option (V × H) := Nat.rec (motive := fun _ => Nat → Nat → Nat → Int → Nat → Nat → Int → Int → Int → Int → List Nat → List Nat → List Nat → List Nat → Option (V × H)) (fun (_ : Nat) (_ : Nat) (_ : Nat) (_ : Int) (_ : Nat) (_ : Nat) (_ : Int) (_ : Int) (_ : Int) (_ : Int) (_ : List Nat) (_ : List Nat) (_ : List Nat) (_ : List Nat) => none) (fun _ rq => mb_so14 N k0 rq) M
theorem mrs_so14 (N : Nat) (k0 : Nat → Nat → Nat → Int → Nat → Nat → Int → Int → List Nat → List Nat → List Nat → List Nat → Option (V × H)) (M : Nat) (rows0n : Nat) (beside1 : Nat) (energy2 : Nat) (n10 : Int) (state11n : Nat) (middles13n : Nat) (t52 : Int) (t53 : Int) (t60 : Int) (t61 : Int) (l0 : List Nat) (l1 : List Nat) (l2 : List Nat) (l3 : List Nat) : mr_so14 N k0 (M + 1) rows0n beside1 energy2 n10 state11n middles13n t52 t53 t60 t61 l0 l1 l2 l3 = mb_so14 N k0 (mr_so14 N k0 M) rows0n beside1 energy2 n10 state11n middles13n t52 t53 t60 t61 l0 l1 l2 l3 := rfl
theorem H_so14 (N : Nat) (Mp : Nat) (K : X → St → Option (V × H)) (g : Nat → Nat → Nat → Int → Nat → Int → Int → List Nat → List Nat → Option (V × H)) (q0 : Nat → List Nat → List Nat → Option (V × H)) (hg : ∀ (rows0n : Nat) (beside1 : Nat) (energy2 : Nat) (n10 : Int) (state11n : Nat) (t52 : Int) (t53 : Int) (l0 : List Nat) (l1 : List Nat), lp_so11 N Mp (st_so11 rows0n beside1 energy2 n10 state11n t52 t53 l0 l1) K = g rows0n beside1 energy2 n10 state11n t52 t53 l0 l1) (hk0 : ∀ (state11n : Nat) (l0 : List Nat) (l1 : List Nat), K (.exit 2) (en_so11_0 state11n l0 l1) = q0 state11n l0 l1) : ∀ (M : Nat) (rows0n : Nat) (beside1 : Nat) (energy2 : Nat) (n10 : Int) (state11n : Nat) (middles13n : Nat) (t52 : Int) (t53 : Int) (t60 : Int) (t61 : Int) (l0 : List Nat) (l1 : List Nat) (l2 : List Nat) (l3 : List Nat), lp_so14 N M (st_so14 rows0n beside1 energy2 n10 state11n middles13n t52 t53 t60 t61 l0 l1 l2 l3) (kt_so14 N (bk_so11 N Mp K)) = mr_so14 N (ce_so14_0 N g q0) M rows0n beside1 energy2 n10 state11n middles13n t52 t53 t60 t61 l0 l1 l2 l3 := by
  have he0 : ∀ (rows0n : Nat) (beside1 : Nat) (energy2 : Nat) (n10 : Int) (state11n : Nat) (middles13n : Nat) (t52 : Int) (t53 : Int) (l0 : List Nat) (l1 : List Nat) (l2 : List Nat) (l3 : List Nat), kt_so14 N (bk_so11 N Mp K) (.exit 4) (en_so14_0 rows0n beside1 energy2 n10 state11n middles13n t52 t53 l0 l1 l2 l3) = ce_so14_0 N g q0 rows0n beside1 energy2 n10 state11n middles13n t52 t53 l0 l1 l2 l3 := by
    intro rows0n beside1 energy2 n10 state11n middles13n t52 t53 l0 l1 l2 l3
    rw [end_so14_0]
    unfold ce_so14_0
    first | (simp only [hg, hk0, H_so25 N Mp K g q0 hg hk0 N]; done) | (simp only [hg, hk0, H_so25 N Mp K g q0 hg hk0 N]; kernel_rfl) | rfl
  intro M
  induction M with
  | zero => intros; rfl
  | succ M ih =>
    intro rows0n beside1 energy2 n10 state11n middles13n t52 t53 t60 t61 l0 l1 l2 l3
    rw [step_so14]
    rw [mrs_so14]
    unfold mb_so14
    first | (simp only [ih, he0]; done) | (simp only [ih, he0]; kernel_rfl) | rfl
noncomputable def ce_so11_0 (N : Nat) (state11n : Nat) (l0 : List Nat) (l1 : List Nat) : Option (V × H) := (match decide (l1.length = state11n ∧ state11n < 2147483648) with | true => (match l1.all finB with | true => some (.tup [.a (.sl 1 0 state11n), .a (.bool true)], [.at true (.fl .f32 l0), .at true (.fl .f32 l1)]) | false => some (.tup [.a (.nil), .a (.bool false)], [.at true (.fl .f32 l0)])) | false => none)
noncomputable def mb_so11 (N : Nat) (k0 : Nat → List Nat → List Nat → Option (V × H)) (rq : Nat → Nat → Nat → Int → Nat → Int → Int → List Nat → List Nat → Option (V × H)) : Nat → Nat → Nat → Int → Nat → Int → Int → List Nat → List Nat → Option (V × H) := fun (rows0n : Nat) (beside1 : Nat) (energy2 : Nat) (n10 : Int) (state11n : Nat) (t52 : Int) (t53 : Int) (l0 : List Nat) (l1 : List Nat) => (match decide ((t53 : Int) < t52) with | true => (match (decide (0 ≤ (n10 : Int) ∧ (n10 : Int) ≤ n10 ∧ (n10 : Int) ≤ 9223372036854775807 ∧ (n10 : Int).toNat * 4 ≤ 140737488355328 ∧ 0 < 1 ∧ 1 = 1)) && (decide (l1.length = state11n ∧ state11n < 2147483648)) with | true => (mr_so14 N (ce_so14_0 N (fun rows0n beside1 energy2 n10 state11n t52 t53 l0 l1 => rq rows0n beside1 energy2 n10 state11n t52 t53 l0 l1) k0) N rows0n beside1 energy2 n10 state11n ((n10 : Int).toNat) t52 t53 ((rows0n : Nat) : Int) 0 l0 l1 (List.replicate ((n10 : Int).toNat) 0) l1) | false => none) | false => (k0 state11n l0 l1))
noncomputable def mr_so11 (N : Nat) (k0 : Nat → List Nat → List Nat → Option (V × H)) (M : Nat) : Nat → Nat → Nat → Int → Nat → Int → Int → List Nat → List Nat → Option (V × H) := Nat.rec (motive := fun _ => Nat → Nat → Nat → Int → Nat → Int → Int → List Nat → List Nat → Option (V × H)) (fun (_ : Nat) (_ : Nat) (_ : Nat) (_ : Int) (_ : Nat) (_ : Int) (_ : Int) (_ : List Nat) (_ : List Nat) => none) (fun _ rq => mb_so11 N k0 rq) M
theorem mrs_so11 (N : Nat) (k0 : Nat → List Nat → List Nat → Option (V × H)) (M : Nat) (rows0n : Nat) (beside1 : Nat) (energy2 : Nat) (n10 : Int) (state11n : Nat) (t52 : Int) (t53 : Int) (l0 : List Nat) (l1 : List Nat) : mr_so11 N k0 (M + 1) rows0n beside1 energy2 n10 state11n t52 t53 l0 l1 = mb_so11 N k0 (mr_so11 N k0 M) rows0n beside1 energy2 n10 state11n t52 t53 l0 l1 := rfl
theorem H_so11 (N : Nat) : ∀ (M : Nat) (rows0n : Nat) (beside1 : Nat) (energy2 : Nat) (n10 : Int) (state11n : Nat) (t52 : Int) (t53 : Int) (l0 : List Nat) (l1 : List Nat), lp_so11 N M (st_so11 rows0n beside1 energy2 n10 state11n t52 t53 l0 l1) (kt_so11 N (kEndA Try.f11 1)) = mr_so11 N (ce_so11_0 N) M rows0n beside1 energy2 n10 state11n t52 t53 l0 l1 := by
  have he0 : ∀ (state11n : Nat) (l0 : List Nat) (l1 : List Nat), kt_so11 N (kEndA Try.f11 1) (.exit 2) (en_so11_0 state11n l0 l1) = ce_so11_0 N state11n l0 l1 := by
    intro state11n l0 l1
    rw [end_so11_0]
    unfold ce_so11_0
    first | (simp only []; done) | (simp only []; kernel_rfl) | rfl
  intro M
  induction M with
  | zero => intros; rfl
  | succ M ih =>
    intro rows0n beside1 energy2 n10 state11n t52 t53 l0 l1
    rw [step_so11]
    have hc14 := H_so14 N M (kt_so11 N (kEndA Try.f11 1)) (fun rows0n beside1 energy2 n10 state11n t52 t53 l0 l1 => mr_so11 N (ce_so11_0 N) M rows0n beside1 energy2 n10 state11n t52 t53 l0 l1) (ce_so11_0 N) (fun rows0n beside1 energy2 n10 state11n t52 t53 l0 l1 => ih rows0n beside1 energy2 n10 state11n t52 t53 l0 l1) he0
    rw [mrs_so11]
    unfold mb_so11
    first | (simp only [ih, he0, hc14 N]; done) | (simp only [ih, he0, hc14 N]; kernel_rfl) | rfl
noncomputable def ce_so6_0 (N : Nat) (rows0n : Nat) (beside1 : Nat) (energy2 : Nat) (rounds3 : Int) (n10 : Int) (state11n : Nat) (l0 : List Nat) (l1 : List Nat) : Option (V × H) := (mr_so11 N (ce_so11_0 N) N rows0n beside1 energy2 n10 state11n rounds3 0 l0 l1)
noncomputable def mb_so6 (N : Nat) (k0 : Nat → Nat → Nat → Int → Int → Nat → List Nat → List Nat → Option (V × H)) (rq : Nat → Nat → Nat → Int → Int → Nat → Int → Int → List Nat → List Nat → Option (V × H)) : Nat → Nat → Nat → Int → Int → Nat → Int → Int → List Nat → List Nat → Option (V × H) := fun (rows0n : Nat) (beside1 : Nat) (energy2 : Nat) (rounds3 : Int) (n10 : Int) (state11n : Nat) (t44 : Int) (t45 : Int) (l0 : List Nat) (l1 : List Nat) => (match decide ((t45 : Int) < t44) with | true => (match decide (0 ≤ (t45 : Int) ∧ (t45 : Int) < ((state11n : Nat) : Int)) with | true => (match decide (0 + (t45).toNat * 1 < l1.length) with | true => (rq rows0n beside1 energy2 rounds3 n10 state11n t44 (IntKind.i64.wrap (t45 + 1)) l0 (l1.set (0 + (t45).toNat * 1) 1065353216)) | false => none) | false => none) | false => (k0 rows0n beside1 energy2 rounds3 n10 state11n l0 l1))
noncomputable def mr_so6 (N : Nat) (k0 : Nat → Nat → Nat → Int → Int → Nat → List Nat → List Nat → Option (V × H)) (M : Nat) : Nat → Nat → Nat → Int → Int → Nat → Int → Int → List Nat → List Nat → Option (V × H) := Nat.rec (motive := fun _ => Nat → Nat → Nat → Int → Int → Nat → Int → Int → List Nat → List Nat → Option (V × H)) (fun (_ : Nat) (_ : Nat) (_ : Nat) (_ : Int) (_ : Int) (_ : Nat) (_ : Int) (_ : Int) (_ : List Nat) (_ : List Nat) => none) (fun _ rq => mb_so6 N k0 rq) M
theorem mrs_so6 (N : Nat) (k0 : Nat → Nat → Nat → Int → Int → Nat → List Nat → List Nat → Option (V × H)) (M : Nat) (rows0n : Nat) (beside1 : Nat) (energy2 : Nat) (rounds3 : Int) (n10 : Int) (state11n : Nat) (t44 : Int) (t45 : Int) (l0 : List Nat) (l1 : List Nat) : mr_so6 N k0 (M + 1) rows0n beside1 energy2 rounds3 n10 state11n t44 t45 l0 l1 = mb_so6 N k0 (mr_so6 N k0 M) rows0n beside1 energy2 rounds3 n10 state11n t44 t45 l0 l1 := rfl
theorem H_so6 (N : Nat) : ∀ (M : Nat) (rows0n : Nat) (beside1 : Nat) (energy2 : Nat) (rounds3 : Int) (n10 : Int) (state11n : Nat) (t44 : Int) (t45 : Int) (l0 : List Nat) (l1 : List Nat), lp_so6 N M (st_so6 rows0n beside1 energy2 rounds3 n10 state11n t44 t45 l0 l1) (kt_so6 N (kEndA Try.f11 1)) = mr_so6 N (ce_so6_0 N) M rows0n beside1 energy2 rounds3 n10 state11n t44 t45 l0 l1 := by
  have he0 : ∀ (rows0n : Nat) (beside1 : Nat) (energy2 : Nat) (rounds3 : Int) (n10 : Int) (state11n : Nat) (l0 : List Nat) (l1 : List Nat), kt_so6 N (kEndA Try.f11 1) (.exit 0) (en_so6_0 rows0n beside1 energy2 rounds3 n10 state11n l0 l1) = ce_so6_0 N rows0n beside1 energy2 rounds3 n10 state11n l0 l1 := by
    intro rows0n beside1 energy2 rounds3 n10 state11n l0 l1
    rw [end_so6_0]
    unfold ce_so6_0
    first | (simp only [H_so11 N N]; done) | (simp only [H_so11 N N]; kernel_rfl) | rfl
  intro M
  induction M with
  | zero => intros; rfl
  | succ M ih =>
    intro rows0n beside1 energy2 rounds3 n10 state11n t44 t45 l0 l1
    rw [step_so6]
    rw [mrs_so6]
    unfold mb_so6
    first | (simp only [ih, he0]; done) | (simp only [ih, he0]; kernel_rfl) | rfl
noncomputable def md_so (N : Nat) (n : Nat) (b : Nat) (x : Nat) (q : Int) (l : List Nat) : Option (V × H) := (match (d_ar n b true l).isSome with | true => (match !(v_ar n b true l) with | true => some (.tup [.a (.nil), .a (.bool false)], [.at true (.fl .f32 l)]) | false => (match !(finB x) with | true => some (.tup [.a (.nil), .a (.bool false)], [.at true (.fl .f32 l)]) | false => (match !(inB q 1 8) with | true => some (.tup [.a (.nil), .a (.bool false)], [.at true (.fl .f32 l)]) | false => (match decide (0 ≤ (((n : Nat) : Int) : Int) ∧ (((n : Nat) : Int) : Int) ≤ ((n : Nat) : Int) ∧ (((n : Nat) : Int) : Int) ≤ 9223372036854775807 ∧ (((n : Nat) : Int) : Int).toNat * 4 ≤ 140737488355328 ∧ 0 < 1 ∧ 1 = 1) with | true => (mr_so6 N (ce_so6_0 N) N n b x q ((n : Nat) : Int) ((((n : Nat) : Int) : Int).toNat) (((((n : Nat) : Int) : Int).toNat : Nat) : Int) 0 l (List.replicate ((((n : Nat) : Int) : Int).toNat) 0)) | false => none)))) | false => none)
theorem mdl_so (N : Nat) (n : Nat) (b : Nat) (x : Nat) (q : Int) (l : List Nat) : runA ty tab_so an_so gs_so N Try.f11 [.sl 0 0 n, .fl .f32 b, .fl .f32 x, .int .i64 q] [.at true (.fl .f32 l)] = md_so N n b x q l := by
  rw [run_so]
  unfold md_so
  first | (simp only [H_so6 N N]; done) | (simp only [H_so6 N N]; kernel_rfl) | rfl
def o_so (n : Nat) (b : Nat) (x : Nat) (q : Int) (l : List Nat) : Option (V × H) → Option (Nat × List Nat)
  | some (.tup [.a (.sl 1 0 x1), .a (.bool true)], [.at true (.fl .f32 y0), .at true (.fl .f32 x3)]) => match decide (y0 = l) with | true => some (x1, x3) | false => none
  | _ => none
theorem oi_so {n : Nat} {b : Nat} {x : Nat} {q : Int} {l : List Nat} {o : Option (V × H)} {z : Nat × List Nat} (h : o_so n b x q l o = some z) : o = some (.tup [.a (.sl 1 0 z.1), .a (.bool true)], [.at true (.fl .f32 l), .at true (.fl .f32 z.2)]) := by
  unfold o_so at h
  split at h
  · split at h
    · rename_i hd
      obtain rfl := of_decide_eq_true hd
      cases h
      rfl
    · cases h
  · cases h
noncomputable def d_so (n : Nat) (b : Nat) (x : Nat) (q : Int) (l : List Nat) : Option (Nat × List Nat) := o_so n b x q l (md_so 50 n b x q l)
noncomputable def v_so (n : Nat) (b : Nat) (x : Nat) (q : Int) (l : List Nat) : Nat × List Nat := (d_so n b x q l).getD (0, [])
noncomputable def g_so : GT := fun vs h => match vs, h with
  | [.sl 0 0 n, .fl .f32 b, .fl .f32 x, .int .i64 q], [.at true (.fl .f32 l)] => .ite (d_so n b x q l).isSome (.ret (.tup [.a (.sl 1 0 ((v_so n b x q l).1)), .a (.bool true)]) [.at true (.fl .f32 l), .at true (.fl .f32 ((v_so n b x q l).2))]) .no
  | _, _ => .no
theorem ok_so : FnT Try.prog 11 g_so := by
  refine fnA_ok tyOk tabok_so mixed Try.func11 rfl rfl an_so gs_so regOk_so fun vs h v h' e => ?_
  unfold g_so at e
  split at e
  · rename_i n b x q l
    obtain ⟨hs, e⟩ := T.pre_inv e
    obtain ⟨rfl, rfl⟩ := T.ret_inv e
    refine ⟨50, ?_⟩
    refine Eq.trans (mdl_so 50 n b x q l) ?_
    obtain ⟨z, hz⟩ := Option.isSome_iff_exists.mp hs
    have hv : v_so n b x q l = z := by unfold v_so; rw [hz]; rfl
    rw [hv]
    exact oi_so hz
  · exact (T.no_inv e).elim
end Go.Proofs.Ytpeplbbphpamhaa.Ab

namespace Go.Proofs.Ytpeplbbphpamhaa.Ab
set_option linter.unusedVariables false
set_option linter.unusedSimpArgs false
open Go
def HoldsL (l : List Nat) (n : Nat) (W : Nat → Nat) : Prop := l.length = n ∧ ∀ j, j < n → l.getD j 0 = W j
theorem lgetD_set {l : List Nat} {i j x : Nat} (h : i < l.length) : (l.set i x).getD j 0 = if i = j then x else l.getD j 0 := by
  rw [List.getD_eq_getElem?_getD, List.getD_eq_getElem?_getD, List.getElem?_set]
  by_cases hij : i = j
  · subst hij
    rw [if_pos rfl, if_pos h, if_pos rfl]
    rfl
  · rw [if_neg hij, if_neg hij]
theorem geti {l : List Nat} {n i : Nat} (h : l.length = n) (hi : i < n) : l[i]? = some (l.getD i 0) := by
  rw [List.getD_eq_getElem?_getD, List.getElem?_eq_getElem (by omega)]
  rfl
theorem setlt {l : List Nat} {n i : Nat} (h : l.length = n) (hi : i < n) : decide (i < l.length) = true := decide_eq_true (by omega)
theorem so6_loop {N : Nat} {k0 : Nat → Nat → Nat → Int → Int → Nat → List Nat → List Nat → Option (V × H)} {l : List Nat} {n b x : Nat} {q n10 : Int} (hn : n < 100) : ∀ (t i M : Nat) (l1 : List Nat), i + t = n → t < M → l1.length = n → (∀ j, j < i → l1.getD j 0 = 1065353216) →
    ∃ l1', HoldsL l1' n (fun _ => 1065353216) ∧ mr_so6 N k0 M n b x q n10 n ((n : Nat) : Int) ((i : Nat) : Int) l l1 = k0 n b x q n10 n l l1'
  | 0, i, M + 1, l1, hi, hM, h1, h2 => by
    refine ⟨l1, ⟨h1, fun j hj => h2 j (by omega)⟩, ?_⟩
    rw [mrs_so6]
    unfold mb_so6
    try dsimp only
    rw [dn (show ¬ i < n by omega)]
  | t + 1, i, M + 1, l1, hi, hM, h1, h2 => by
    obtain ⟨l1', g1, g2⟩ := so6_loop (N := N) (k0 := k0) (l := l) (b := b) (x := x) (q := q) (n10 := n10) hn t (i + 1) M (l1.set i 1065353216) (by omega) (by omega) (by rw [List.length_set]; exact h1) (fun j hj => by
      rw [lgetD_set (by omega)]
      by_cases hij : i = j
      · rw [if_pos hij]
      · rw [if_neg hij]; exact h2 j (by omega))
    refine ⟨l1', g1, ?_⟩
    rw [mrs_so6]
    unfold mb_so6
    try dsimp only
    rw [dl (show i < n by omega), d01 (show i < n by omega), ix, setlt h1 (show i < n by omega), wi (show i < 1000 by omega)]
    exact g2
theorem so14_loop {N : Nat} {k0 : Nat → Nat → Nat → Int → Nat → Nat → Int → Int → List Nat → List Nat → List Nat → List Nat → Option (V × H)} {l l1 : List Nat} {n b x : Nat} {n10 t52 t53 : Int} {U : Nat → Nat} (hl : l.length = n) (hn : n < 100) :
    ∀ (t i M : Nat) (l2 l3 : List Nat), i + t = n → t < M → l2.length = n → l3.length = n → (∀ j, j < i → l2.getD j 0 = mW b (fop .sub .f32 x 981668463) (fun j => l.getD j 0) j) → (∀ j, j < n → l3.getD j 0 = if j < i then rW b (mW b (fop .sub .f32 x 981668463) (fun j => l.getD j 0)) U j else U j) →
    ∃ l2' l3', HoldsL l2' n (mW b (fop .sub .f32 x 981668463) (fun j => l.getD j 0)) ∧ HoldsL l3' n (rW b (mW b (fop .sub .f32 x 981668463) (fun j => l.getD j 0)) U) ∧ mr_so14 N k0 M n b x n10 n n t52 t53 ((n : Nat) : Int) ((i : Nat) : Int) l l1 l2 l3 = k0 n b x n10 n n t52 t53 l l1 l2' l3'
  | 0, i, M + 1, l2, l3, hi, hM, h2, h3, g2, g3 => by
    refine ⟨l2, l3, ⟨h2, fun j hj => g2 j (by omega)⟩, ⟨h3, fun j hj => by rw [g3 j hj, if_pos (by omega)]⟩, ?_⟩
    rw [mrs_so14]
    unfold mb_so14
    try dsimp only
    rw [dn (show ¬ i < n by omega)]
  | t + 1, i, M + 1, l2, l3, hi, hM, h2, h3, g2, g3 => by
    have hin : i < n := by omega
    have d1 := dl hin
    have d2 := d01 hin
    have d3 := setlt h2 hin
    have d4 := setlt h3 hin
    rw [mrs_so14]
    unfold mb_so14
    try dsimp only
    rw [d1, d2, ix, geti hl hin, d3]
    try dsimp only
    generalize hA : fop .sub .f32 (l.getD i 0) (fop .sub .f32 x 981668463) = A
    have hA2 : (l2.set i A).length = n := by rw [List.length_set]; exact h2
    have hAi : (l2.set i A).getD i 0 = A := by rw [lgetD_set (by omega), if_pos rfl]
    by_cases h0 : i = 0
    · subst h0
      rw [decide_eq_false (show ¬ ((0 : Nat) : Int) > 0 by omega), geti hA2 hin, hAi, setlt hA2 hin, wi (show 0 < 1000 by omega)]
      try dsimp only
      obtain ⟨l2', l3', e1, e2, e3⟩ := so14_loop (N := N) (k0 := k0) (l1 := l1) (b := b) (x := x) (n10 := n10) (t52 := t52) (t53 := t53) (U := U) hl hn t 1 M ((l2.set 0 A).set 0 (nzF A)) l3 (by omega) (by omega) (by rw [List.length_set]; exact hA2) h3 (fun j hj => by
        obtain rfl : j = 0 := by omega
        rw [lgetD_set (by omega), if_pos rfl, ← hA]
        rfl) (fun j hj => by
        rw [g3 j hj, if_neg (by omega)]
        by_cases hj0 : j < 1
        · rw [if_pos hj0]
          obtain rfl : j = 0 := by omega
          rfl
        · rw [if_neg hj0])
      exact ⟨l2', l3', e1, e2, e3⟩
    · obtain ⟨i, rfl⟩ : ∃ k, i = k + 1 := ⟨i - 1, by omega⟩
      have hw1 : IntKind.i64.wrap (((i + 1 : Nat) : Int) - 1) = ((i : Nat) : Int) := by rw [wrap_z (by omega) (by omega)]; omega
      rw [decide_eq_true (show ((i + 1 : Nat) : Int) > 0 by omega), hw1, d01 (show i < n by omega), ix, geti hA2 (show i < n by omega), geti hA2 hin, setlt hA2 hin, geti h3 hin, geti h3 (show i < n by omega), d4, hAi, wi (show i + 1 < 1000 by omega)]
      try dsimp only
      have hMi : (l2.set (i + 1) A).getD i 0 = mW b (fop .sub .f32 x 981668463) (fun j => l.getD j 0) i := by rw [lgetD_set (by omega), if_neg (by omega)]; exact g2 i (by omega)
      have hRi : l3.getD i 0 = rW b (mW b (fop .sub .f32 x 981668463) (fun j => l.getD j 0)) U i := by rw [g3 i (by omega), if_pos (by omega)]
      have hUi : l3.getD (i + 1) 0 = U (i + 1) := by rw [g3 (i + 1) hin, if_neg (by omega)]
      rw [hMi, hRi, hUi]
      generalize hB : fop .sub .f32 A (fop .mul .f32 (fop .quo .f32 b (mW b (fop .sub .f32 x 981668463) (fun j => l.getD j 0) i)) b) = B
      have hB2 : ((l2.set (i + 1) A).set (i + 1) B).length = n := by rw [List.length_set]; exact hA2
      have hBi : ((l2.set (i + 1) A).set (i + 1) B).getD (i + 1) 0 = B := by rw [lgetD_set (by omega), if_pos rfl]
      rw [geti hB2 hin, hBi, setlt hB2 hin]
      try dsimp only
      obtain ⟨l2', l3', e1, e2, e3⟩ := so14_loop (N := N) (k0 := k0) (l1 := l1) (b := b) (x := x) (n10 := n10) (t52 := t52) (t53 := t53) (U := U) hl hn t (i + 1 + 1) M (((l2.set (i + 1) A).set (i + 1) B).set (i + 1) (nzF B)) (l3.set (i + 1) (fop .sub .f32 (U (i + 1)) (fop .mul .f32 (fop .quo .f32 b (mW b (fop .sub .f32 x 981668463) (fun j => l.getD j 0) i)) (rW b (mW b (fop .sub .f32 x 981668463) (fun j => l.getD j 0)) U i)))) (by omega) (by omega) (by rw [List.length_set]; exact hB2) (by rw [List.length_set]; exact h3) (fun j hj => by
        rw [lgetD_set (by omega)]
        by_cases hij : i + 1 = j
        · subst hij
          rw [if_pos rfl, ← hB, ← hA]
          rfl
        · rw [if_neg hij, lgetD_set (by omega), if_neg hij, lgetD_set (by omega), if_neg hij]
          exact g2 j (by omega)) (fun j hj => by
        rw [lgetD_set (by omega)]
        by_cases hij : i + 1 = j
        · subst hij
          rw [if_pos rfl, if_pos (by omega)]
          rfl
        · rw [if_neg hij, g3 j hj]
          by_cases hj2 : j < i + 1
          · rw [if_pos hj2, if_pos (by omega)]
          · rw [if_neg hj2, if_neg (by omega)])
      exact ⟨l2', l3', e1, e2, e3⟩
theorem so25_loop {N : Nat} {k0 : Nat → Nat → Nat → Int → Nat → Int → Int → List Nat → List Nat → Option (V × H)} {l l2 l3 : List Nat} {n b x : Nat} {n10 t52 t53 : Int} {Mw Rw : Nat → Nat} (hn : n < 100) (H2 : HoldsL l2 n Mw) (H3 : HoldsL l3 n Rw) :
    ∀ (t j M : Nat) (l1 : List Nat), j + t = n → t < M → l1.length = n → (∀ i, n ≤ i + j → i < n → l1.getD i 0 = yW b Mw Rw n (n - i)) →
    ∃ l1', HoldsL l1' n (fun i => yW b Mw Rw n (n - i)) ∧ mr_so25 N k0 M n b x n10 n n (yW b Mw Rw n j) (((n : Nat) : Int) - 1 - ((j : Nat) : Int)) t52 t53 l l1 l2 l3 = k0 n b x n10 n t52 t53 l l1'
  | 0, j, M + 1, l1, hj, hM, h1, h2 => by
    refine ⟨l1, ⟨h1, fun i hi => h2 i (by omega) hi⟩, ?_⟩
    rw [mrs_so25]
    unfold mb_so25
    try dsimp only
    rw [decide_eq_false (show ¬ ((n : Nat) : Int) - 1 - ((j : Nat) : Int) ≥ 0 by omega)]
  | t + 1, j, M + 1, l1, hj, hM, h1, h2 => by
    have e1 : ((n : Nat) : Int) - 1 - ((j : Nat) : Int) = ((n - 1 - j : Nat) : Int) := by omega
    have hin : n - 1 - j < n := by omega
    rw [mrs_so25]
    unfold mb_so25
    try dsimp only
    rw [e1, decide_eq_true (show ((n - 1 - j : Nat) : Int) ≥ 0 by omega), d01 hin, ix, geti H3.1 hin, geti H2.1 hin, setlt h1 hin, H3.2 _ hin, H2.2 _ hin]
    try dsimp only
    have hw1 : IntKind.i64.wrap (((n - 1 - j : Nat) : Int) - 1) = ((n : Nat) : Int) - 1 - ((j + 1 : Nat) : Int) := by rw [wrap_z (by omega) (by omega)]; omega
    rw [hw1]
    have hY : fop .quo .f32 (fop .sub .f32 (Rw (n - 1 - j)) (fop .mul .f32 b (yW b Mw Rw n j))) (Mw (n - 1 - j)) = yW b Mw Rw n (j + 1) := rfl
    rw [hY]
    exact so25_loop hn H2 H3 t (j + 1) M (l1.set (n - 1 - j) (yW b Mw Rw n (j + 1))) (by omega) (by omega) (by rw [List.length_set]; exact h1) (fun i h3 h4 => by
      rw [lgetD_set (by omega)]
      by_cases hij : n - 1 - j = i
      · rw [if_pos hij]
        congr 1
        omega
      · rw [if_neg hij]
        exact h2 i (by omega) h4)
theorem so30_loop {N : Nat} {k0 : Nat → Nat → Nat → Int → Nat → Nat → Int → Int → List Nat → List Nat → Option (V × H)} {l l1 : List Nat} {n b x : Nat} {n10 t52 t53 : Int} {Y : Nat → Nat} (hn : n < 100) (H1 : HoldsL l1 n Y) :
    ∀ (t i M : Nat), i + t = n → t < M → mr_so30 N k0 M n b x n10 n (sW Y i) t52 t53 ((n : Nat) : Int) ((i : Nat) : Int) l l1 = k0 n b x n10 n (sW Y n) t52 t53 l l1
  | 0, i, M + 1, hi, hM => by
    rw [mrs_so30]
    unfold mb_so30
    try dsimp only
    rw [dn (show ¬ i < n by omega), show i = n by omega]
  | t + 1, i, M + 1, hi, hM => by
    have hin : i < n := by omega
    rw [mrs_so30]
    unfold mb_so30
    try dsimp only
    rw [dl hin, d01 hin, ix, geti H1.1 hin, H1.2 i hin, wi (show i < 1000 by omega)]
    try dsimp only
    exact so30_loop hn H1 t (i + 1) M (by omega) (by omega)
theorem so36_loop {N : Nat} {k0 : Nat → Nat → Nat → Int → Nat → Int → Int → List Nat → List Nat → Option (V × H)} {l : List Nat} {n b x root : Nat} {n10 t52 t53 : Int} {Y : Nat → Nat} (hn : n < 100) :
    ∀ (t i M : Nat) (l1 : List Nat), i + t = n → t < M → l1.length = n → (∀ j, j < n → l1.getD j 0 = if j < i then fop .quo .f32 (Y j) root else Y j) →
    ∃ l1', HoldsL l1' n (fun j => fop .quo .f32 (Y j) root) ∧ mr_so36 N k0 M n b x n10 n root t52 t53 ((n : Nat) : Int) ((i : Nat) : Int) l l1 = k0 n b x n10 n t52 t53 l l1'
  | 0, i, M + 1, l1, hi, hM, h1, h2 => by
    refine ⟨l1, ⟨h1, fun j hj => by rw [h2 j hj, if_pos (by omega)]⟩, ?_⟩
    rw [mrs_so36]
    unfold mb_so36
    try dsimp only
    rw [dn (show ¬ i < n by omega)]
  | t + 1, i, M + 1, l1, hi, hM, h1, h2 => by
    have hin : i < n := by omega
    rw [mrs_so36]
    unfold mb_so36
    try dsimp only
    rw [dl hin, d01 hin, ix, geti h1 hin, setlt h1 hin, wi (show i < 1000 by omega)]
    try dsimp only
    rw [h2 i hin, if_neg (show ¬ i < i by omega)]
    exact so36_loop hn t (i + 1) M (l1.set i (fop .quo .f32 (Y i) root)) (by omega) (by omega) (by rw [List.length_set]; exact h1) (fun j hj => by
      rw [lgetD_set (by omega)]
      by_cases hij : i = j
      · subst hij
        rw [if_pos rfl, if_pos (by omega)]
      · rw [if_neg hij, h2 j hj]
        by_cases hj2 : j < i
        · rw [if_pos hj2, if_pos (by omega)]
        · rw [if_neg hj2, if_neg (by omega)])
theorem so11_loop {k0 : Nat → List Nat → List Nat → Option (V × H)} {l : List Nat} {n b x : Nat} (hl : l.length = n) (h0 : 0 < n) (hn : n < 40) :
    ∀ (t i M : Nat) (l1 : List Nat), i + t = 4 → t < M → HoldsL l1 n (uW b (fop .sub .f32 x 981668463) (fun j => l.getD j 0) n i) →
    ∃ l1', HoldsL l1' n (uW b (fop .sub .f32 x 981668463) (fun j => l.getD j 0) n 4) ∧ mr_so11 50 k0 M n b x ((n : Nat) : Int) n 4 ((i : Nat) : Int) l l1 = k0 n l l1'
  | 0, i, M + 1, l1, hi, hM, H1 => by
    refine ⟨l1, by rw [show i = 4 by omega] at H1; exact H1, ?_⟩
    rw [mrs_so11]
    unfold mb_so11
    try dsimp only
    rw [decide_eq_false (show ¬ ((i : Nat) : Int) < 4 by omega)]
  | t + 1, i, M + 1, l1, hi, hM, H1 => by
    have e1 : ((n : Nat) : Int).toNat = n := by omega
    rw [mrs_so11]
    unfold mb_so11
    try dsimp only
    rw [decide_eq_true (show ((i : Nat) : Int) < 4 by omega), e1, decide_eq_true (show 0 ≤ ((n : Nat) : Int) ∧ ((n : Nat) : Int) ≤ ((n : Nat) : Int) ∧ ((n : Nat) : Int) ≤ 9223372036854775807 ∧ n * 4 ≤ 140737488355328 ∧ 0 < 1 ∧ 1 = 1 by omega), decide_eq_true (show l1.length = n ∧ n < 2147483648 from ⟨H1.1, by omega⟩)]
    generalize hg : (fun (rows0n beside1 energy2 : Nat) (n10 : Int) (state11n : Nat) (t52 t53 : Int) (l0 l1 : List Nat) => mr_so11 50 k0 M rows0n beside1 energy2 n10 state11n t52 t53 l0 l1) = g
    obtain ⟨l2', l3', g2, g3, g4⟩ := so14_loop (N := 50) (k0 := ce_so14_0 50 g k0) (l1 := l1) (b := b) (x := x) (n10 := ((n : Nat) : Int)) (t52 := 4) (t53 := ((i : Nat) : Int)) (U := uW b (fop .sub .f32 x 981668463) (fun j => l.getD j 0) n i) hl (by omega) n 0 50 (List.replicate n 0) l1 (by omega) (by omega) (by rw [List.length_replicate]) H1.1 (fun j hj => by omega) (fun j hj => by rw [if_neg (by omega)]; exact H1.2 j hj)
    rw [show (((0 : Nat) : Int)) = 0 from rfl] at g4
    show ∃ l1', _ ∧ mr_so14 50 (ce_so14_0 50 g k0) 50 n b x ((n : Nat) : Int) n n 4 ((i : Nat) : Int) ((n : Nat) : Int) 0 l l1 (List.replicate n 0) l1 = _
    rw [g4]
    unfold ce_so14_0
    have hw1 : IntKind.i64.wrap (((n : Nat) : Int) - 1) = ((n : Nat) : Int) - 1 - ((0 : Nat) : Int) := by rw [wrap_z (by omega) (by omega)]; omega
    rw [hw1]
    obtain ⟨l4, g5, g6⟩ := so25_loop (N := 50) (k0 := ce_so25_0 50 g k0) (l := l) (b := b) (x := x) (n10 := ((n : Nat) : Int)) (t52 := 4) (t53 := ((i : Nat) : Int)) (by omega) g2 g3 n 0 50 l1 (by omega) (by omega) H1.1 (fun i h1 h2 => by omega)
    rw [show yW b (mW b (fop .sub .f32 x 981668463) (fun j => l.getD j 0)) (rW b (mW b (fop .sub .f32 x 981668463) (fun j => l.getD j 0)) (uW b (fop .sub .f32 x 981668463) (fun j => l.getD j 0) n i)) n 0 = 0 from rfl] at g6
    rw [g6]
    unfold ce_so25_0
    have g7 := so30_loop (N := 50) (k0 := ce_so30_0 50 g k0) (l := l) (b := b) (x := x) (n10 := ((n : Nat) : Int)) (t52 := 4) (t53 := ((i : Nat) : Int)) (by omega) g5 n 0 50 (by omega) (by omega)
    rw [show sW (fun i_1 => yW b (mW b (fop .sub .f32 x 981668463) (fun j => l.getD j 0)) (rW b (mW b (fop .sub .f32 x 981668463) (fun j => l.getD j 0)) (uW b (fop .sub .f32 x 981668463) (fun j => l.getD j 0) n i)) n (n - i_1)) 0 = 0 from rfl, show (((0 : Nat) : Int)) = 0 from rfl] at g7
    rw [g7]
    unfold ce_so30_0
    obtain ⟨l5, g8, g9⟩ := so36_loop (N := 50) (k0 := ce_so36_0 50 g k0) (l := l) (b := b) (x := x) (root := rootF (sW (fun i_1 => yW b (mW b (fop .sub .f32 x 981668463) (fun j => l.getD j 0)) (rW b (mW b (fop .sub .f32 x 981668463) (fun j => l.getD j 0)) (uW b (fop .sub .f32 x 981668463) (fun j => l.getD j 0) n i)) n (n - i_1)) n)) (n10 := ((n : Nat) : Int)) (t52 := 4) (t53 := ((i : Nat) : Int)) (Y := fun i_1 => yW b (mW b (fop .sub .f32 x 981668463) (fun j => l.getD j 0)) (rW b (mW b (fop .sub .f32 x 981668463) (fun j => l.getD j 0)) (uW b (fop .sub .f32 x 981668463) (fun j => l.getD j 0) n i)) n (n - i_1)) (by omega) n 0 50 l4 (by omega) (by omega) g5.1 (fun j hj => by rw [if_neg (by omega)]; exact g5.2 j hj)
    rw [show (((0 : Nat) : Int)) = 0 from rfl] at g9
    rw [g9]
    unfold ce_so36_0
    rw [← hg]
    try dsimp only
    rw [wi (show i < 1000 by omega)]
    exact so11_loop hl h0 hn t (i + 1) M l5 (by omega) (by omega) g8
theorem so_ok {l : List Nat} {n b x : Nat} (h : l.length = n) (h0 : 0 < n) (hn : n < 40) (hl : l.all finB = true) (hb : finB b = true) (hx : finB x = true) (hf : ∀ i, i < n → finB (uW b (fop .sub .f32 x 981668463) (fun j => l.getD j 0) n 4 i) = true) :
    ∃ l1', HoldsL l1' n (uW b (fop .sub .f32 x 981668463) (fun j => l.getD j 0) n 4) ∧ l1'.all finB = true ∧ d_so n b x 4 l = some (n, l1') := by
  have e1 : ((n : Nat) : Int).toNat = n := by omega
  obtain ⟨l1, g1, g2⟩ := so6_loop (N := 50) (k0 := ce_so6_0 50) (n := n) (l := l) (b := b) (x := x) (q := 4) (n10 := ((n : Nat) : Int)) (by omega) n 0 50 (List.replicate n 0) (by omega) (by omega) (by rw [List.length_replicate]) (fun j hj => by omega)
  obtain ⟨l1', g3, g4⟩ := so11_loop (k0 := ce_so11_0 50) (x := x) (b := b) h h0 hn 4 0 50 l1 (by omega) (by omega) g1
  have hall : l1'.all finB = true := by
    rw [List.all_eq_true]
    intro y hy
    obtain ⟨i, hi, rfl⟩ := List.getElem_of_mem hy
    have h2 := g3.2 i (by have := g3.1; omega)
    rw [List.getD_eq_getElem?_getD, List.getElem?_eq_getElem hi, Option.getD_some] at h2
    rw [h2]
    exact hf i (by have := g3.1; omega)
  refine ⟨l1', g3, hall, ?_⟩
  rw [show (((0 : Nat) : Int)) = 0 from rfl] at g2 g4
  unfold d_so md_so v_ar
  rw [ar_ok h h0 hn hl hb, hx, show inB 4 1 8 = true from rfl, e1, decide_eq_true (show 0 ≤ ((n : Nat) : Int) ∧ ((n : Nat) : Int) ≤ ((n : Nat) : Int) ∧ ((n : Nat) : Int) ≤ 9223372036854775807 ∧ n * 4 ≤ 140737488355328 ∧ 0 < 1 ∧ 1 = 1 by omega)]
  show o_so n b x 4 l (mr_so6 50 (ce_so6_0 50) 50 n b x 4 ((n : Nat) : Int) n ((n : Nat) : Int) 0 l (List.replicate n 0)) = _
  rw [g2]
  show o_so n b x 4 l (mr_so11 50 (ce_so11_0 50) 50 n b x ((n : Nat) : Int) n 4 0 l l1) = _
  rw [g4]
  unfold ce_so11_0
  rw [decide_eq_true (show l1'.length = n ∧ n < 2147483648 from ⟨g3.1, by omega⟩), hall]
  show (match decide (l = l) with | true => some (n, l1') | false => none) = _
  rw [decide_eq_true rfl]
end Go.Proofs.Ytpeplbbphpamhaa.Ab

namespace Go.Proofs.Ytpeplbbphpamhaa.Ab
set_option linter.unusedVariables false
set_option linter.unusedSimpArgs false
open Go
def nxB (l : List Int) (a : Int) : Int := match decide (a < ((l.length : Nat) : Int)) with | true => IntKind.i64.wrap (l.getD a.toNat 0) | false => 0
def nxS (l : List Int) (a s : Int) : Int := IntKind.u64.wrap ((IntKind.u64.wrap ((IntKind.u64.wrap (s * 6364136223846793005)) + (IntKind.u64.wrap (nxB l a)))) + 1442695040888963407)
def nxV (l : List Int) (a s : Int) : Int := match decide (a + 1 ≤ ((l.length : Nat) : Int)) with | true => nxB l a | false => IntKind.i64.wrap (IntKind.u64.wrap (BitVec.ofInt 64 (Int.fdiv (nxS l a s) (2 ^ 40)) &&& BitVec.ofInt 64 255).toNat)
theorem nx_range {l : List Int} {a s : Int} (hb : bytesB l = true) (h0 : 0 ≤ a) : 0 ≤ nxV l a s ∧ nxV l a s < 256 := by
  unfold nxV
  cases hd : decide (a + 1 ≤ ((l.length : Nat) : Int)) with
  | true =>
    have hd := of_decide_eq_true hd
    dsimp only
    unfold nxB
    rw [decide_eq_true (show a < ((l.length : Nat) : Int) by omega)]
    dsimp only
    have hlt : a.toNat < l.length := by omega
    have hm : l.getD a.toNat 0 ∈ l := by rw [List.getD_eq_getElem?_getD, List.getElem?_eq_getElem hlt, Option.getD_some]; exact List.getElem_mem hlt
    obtain ⟨e0, e1⟩ := of_decide_eq_true (List.all_eq_true.mp hb _ hm)
    rw [wrap_z (by omega) (by omega)]
    exact ⟨e0, e1⟩
  | false =>
    dsimp only
    generalize BitVec.ofInt 64 (Int.fdiv (nxS l a s) (2 ^ 40)) = x
    have h1 : (x &&& BitVec.ofInt 64 255).toNat ≤ 255 := by
      rw [BitVec.toNat_and]
      exact Nat.and_le_right
    generalize (x &&& BitVec.ofInt 64 255).toNat = t at h1 ⊢
    have h2 : IntKind.u64.wrap ((t : Nat) : Int) = ((t : Nat) : Int) := by
      simp only [IntKind.wrap, IntKind.signed, IntKind.bits]
      first | omega | (simp; omega)
    rw [h2, wrap_z (by omega) (by omega)]
    omega
def srOk (n : Nat) (l : List Int) (a : Int) : Bool := decide (l.length = n ∧ n < 2147483648 ∧ 0 ≤ a ∧ a < 1000)
def gNx : GT := fun vs h => match vs, h with
  | [.ptr 0 0], [.at true (.as 1 [.sl 1 0 n, .int .i64 a, .int .u64 s]), .at rw (.int .u8 l)] => .ite (srOk n l a) (.ret (.int .i64 (nxV l a s)) [.at true (.as 1 [.sl 1 0 n, .int .i64 (a + 1), .int .u64 (nxS l a s)]), .at rw (.int .u8 l)]) .no
  | [.ptr 0 0], [.at true (.as 1 [.nil, .int .i64 a, .int .u64 s])] => .ite (srOk 0 [] a) (.ret (.int .i64 (nxV [] a s)) [.at true (.as 1 [.nil, .int .i64 (a + 1), .int .u64 (nxS [] a s)])]) .no
  | _, _ => .no
def gPick : GT := fun vs h => match vs, h with
  | [.ptr 0 0, .int .i64 k], [.at true (.as 1 [.sl 1 0 n, .int .i64 a, .int .u64 s]), .at rw (.int .u8 l)] => .ite (srOk n l a && decide (1 < k ∧ k ≤ 200)) (.ret (.int .i64 (Int.tmod (nxV l a s) k)) [.at true (.as 1 [.sl 1 0 n, .int .i64 (a + 1), .int .u64 (nxS l a s)]), .at rw (.int .u8 l)]) .no
  | [.ptr 0 0, .int .i64 k], [.at true (.as 1 [.nil, .int .i64 a, .int .u64 s])] => .ite (srOk 0 [] a && decide (1 < k ∧ k ≤ 200)) (.ret (.int .i64 (Int.tmod (nxV [] a s) k)) [.at true (.as 1 [.nil, .int .i64 (a + 1), .int .u64 (nxS [] a s)])]) .no
  | _, _ => .no
def tab_nxA : Fns := tabT []
theorem tabok_nxA : ∀ f, FnT Try.prog f (tab_nxA f) := tabT_nil
theorem run_nxA (N : Nat) (n : Nat) (a : Int) (s : Int) (rw : Bool) (l : List Int) : run ty tab_nxA ann0 N Try.f27 [.ptr 0 0] [.at true (.as 1 [.sl 1 0 n, .int .i64 a, .int .u64 s]), .at rw (.int .u8 l)]
    = (match decide ((a : Int) < ((n : Nat) : Int)) with | true => (match decide (0 ≤ (a : Int) ∧ (a : Int) < ((n : Nat) : Int)) with | true => (match l[0 + (a).toNat * 1]? with | some e1 => (match decide ((IntKind.i64.wrap (a + 1) : Int) ≤ ((n : Nat) : Int)) with | true => some (.int .i64 (IntKind.i64.wrap e1), [.at true (.as 1 [.sl 1 0 n, .int .i64 (IntKind.i64.wrap (a + 1)), .int .u64 (IntKind.u64.wrap ((IntKind.u64.wrap ((IntKind.u64.wrap (s * 6364136223846793005)) + (IntKind.u64.wrap (IntKind.i64.wrap e1)))) + 1442695040888963407))]), .at rw (.int .u8 l)]) | false => some (.int .i64 (IntKind.i64.wrap (IntKind.u64.wrap (BitVec.ofInt 64 (Int.fdiv (IntKind.u64.wrap ((IntKind.u64.wrap ((IntKind.u64.wrap (s * 6364136223846793005)) + (IntKind.u64.wrap (IntKind.i64.wrap e1)))) + 1442695040888963407)) (2 ^ 40)) &&& BitVec.ofInt 64 255).toNat)), [.at true (.as 1 [.sl 1 0 n, .int .i64 (IntKind.i64.wrap (a + 1)), .int .u64 (IntKind.u64.wrap ((IntKind.u64.wrap ((IntKind.u64.wrap (s * 6364136223846793005)) + (IntKind.u64.wrap (IntKind.i64.wrap e1)))) + 1442695040888963407))]), .at rw (.int .u8 l)])) | none => none) | false => none) | false => (match decide ((IntKind.i64.wrap (a + 1) : Int) ≤ ((n : Nat) : Int)) with | true => some (.int .i64 0, [.at true (.as 1 [.sl 1 0 n, .int .i64 (IntKind.i64.wrap (a + 1)), .int .u64 (IntKind.u64.wrap ((IntKind.u64.wrap ((IntKind.u64.wrap (s * 6364136223846793005)) + 0)) + 1442695040888963407))]), .at rw (.int .u8 l)]) | false => some (.int .i64 (IntKind.i64.wrap (IntKind.u64.wrap (BitVec.ofInt 64 (Int.fdiv (IntKind.u64.wrap ((IntKind.u64.wrap ((IntKind.u64.wrap (s * 6364136223846793005)) + 0)) + 1442695040888963407)) (2 ^ 40)) &&& BitVec.ofInt 64 255).toNat)), [.at true (.as 1 [.sl 1 0 n, .int .i64 (IntKind.i64.wrap (a + 1)), .int .u64 (IntKind.u64.wrap ((IntKind.u64.wrap ((IntKind.u64.wrap (s * 6364136223846793005)) + 0)) + 1442695040888963407))]), .at rw (.int .u8 l)]))) := by
  kernel_rfl
def tab_nxN : Fns := tabT []
theorem tabok_nxN : ∀ f, FnT Try.prog f (tab_nxN f) := tabT_nil
theorem run_nxN (N : Nat) (a : Int) (s : Int) : run ty tab_nxN ann0 N Try.f27 [.ptr 0 0] [.at true (.as 1 [.nil, .int .i64 a, .int .u64 s])]
    = (match decide ((a : Int) < 0) with | true => none | false => (match decide ((IntKind.i64.wrap (a + 1) : Int) ≤ 0) with | true => some (.int .i64 0, [.at true (.as 1 [.nil, .int .i64 (IntKind.i64.wrap (a + 1)), .int .u64 (IntKind.u64.wrap ((IntKind.u64.wrap ((IntKind.u64.wrap (s * 6364136223846793005)) + 0)) + 1442695040888963407))])]) | false => some (.int .i64 (IntKind.i64.wrap (IntKind.u64.wrap (BitVec.ofInt 64 (Int.fdiv (IntKind.u64.wrap ((IntKind.u64.wrap ((IntKind.u64.wrap (s * 6364136223846793005)) + 0)) + 1442695040888963407)) (2 ^ 40)) &&& BitVec.ofInt 64 255).toNat)), [.at true (.as 1 [.nil, .int .i64 (IntKind.i64.wrap (a + 1)), .int .u64 (IntKind.u64.wrap ((IntKind.u64.wrap ((IntKind.u64.wrap (s * 6364136223846793005)) + 0)) + 1442695040888963407))])]))) := by
  kernel_rfl
theorem ok_nx : FnT Try.prog 27 gNx := by
  intro vs hp v h' e
  unfold gNx at e
  split at e
  · rename_i n a s rw l
    obtain ⟨hd, e⟩ := T.pre_inv e
    obtain ⟨rfl, rfl⟩ := T.ret_inv e
    obtain ⟨rfl, hn2, h0, h1⟩ := of_decide_eq_true hd
    refine FnT.runs tabok_nxA Try.func27 rfl rfl ann0 0 _ _ _ _ ?_
    rw [T.run_of]
    refine Eq.trans (run_nxA 0 l.length a s rw l) ?_
    have hw : IntKind.i64.wrap (a + 1) = a + 1 := wrap_z (by omega) (by omega)
    rw [hw]
    unfold nxV nxS nxB
    by_cases hlt : a < ((l.length : Nat) : Int)
    · rw [decide_eq_true hlt, decide_eq_true (show 0 ≤ a ∧ a < ((l.length : Nat) : Int) from ⟨h0, hlt⟩), show 0 + a.toNat * 1 = a.toNat by omega, show l[a.toNat]? = some (l.getD a.toNat 0) by simp [List.getD_eq_getElem?_getD, show a.toNat < l.length by omega], decide_eq_true (show a + 1 ≤ ((l.length : Nat) : Int) by omega)]
    · rw [decide_eq_false hlt, decide_eq_false (show ¬ a + 1 ≤ ((l.length : Nat) : Int) by omega)]
      all_goals rfl
  · rename_i a s
    obtain ⟨hd, e⟩ := T.pre_inv e
    obtain ⟨rfl, rfl⟩ := T.ret_inv e
    obtain ⟨_, hn2, h0, h1⟩ := of_decide_eq_true hd
    refine FnT.runs tabok_nxN Try.func27 rfl rfl ann0 0 _ _ _ _ ?_
    rw [T.run_of]
    refine Eq.trans (run_nxN 0 a s) ?_
    have hw : IntKind.i64.wrap (a + 1) = a + 1 := wrap_z (by omega) (by omega)
    rw [hw]
    unfold nxV nxS nxB
    have hl : (([] : List Int).length : Int) = 0 := rfl
    rw [hl, decide_eq_false (show ¬ a < 0 by omega), decide_eq_false (show ¬ a + 1 ≤ 0 by omega)]
    all_goals rfl
  · exact (T.no_inv e).elim
def tab_pkA : Fns := tabT [(27, gNx)]
theorem tabok_pkA : ∀ f, FnT Try.prog f (tab_pkA f) := (tabT_cons (k := 27) ok_nx tabT_nil)
theorem run_pkA (N : Nat) (k : Int) (n : Nat) (a : Int) (s : Int) (rw : Bool) (l : List Int) : run ty tab_pkA ann0 N Try.f14 [.ptr 0 0, .int .i64 k] [.at true (.as 1 [.sl 1 0 n, .int .i64 a, .int .u64 s]), .at rw (.int .u8 l)]
    = (match decide ((k : Int) ≤ 1) with | true => some (.int .i64 0, [.at true (.as 1 [.sl 1 0 n, .int .i64 a, .int .u64 s]), .at rw (.int .u8 l)]) | false => (match srOk n l a with | true => (match decide ((k : Int) > 200) with | true => (match srOk n l (a + 1) with | true => (match decide (k = 0) with | true => none | false => some (.int .i64 (Int.tmod (IntKind.i64.wrap ((IntKind.i64.wrap ((nxV l a s) * 256)) + (nxV l (a + 1) (nxS l a s)))) k), [.at true (.as 1 [.sl 1 0 n, .int .i64 ((a + 1) + 1), .int .u64 (nxS l (a + 1) (nxS l a s))]), .at rw (.int .u8 l)])) | false => none) | false => (match decide (k = 0) with | true => none | false => some (.int .i64 (Int.tmod (nxV l a s) k), [.at true (.as 1 [.sl 1 0 n, .int .i64 (a + 1), .int .u64 (nxS l a s)]), .at rw (.int .u8 l)]))) | false => none)) := by
  kernel_rfl
def tab_pkN : Fns := tabT [(27, gNx)]
theorem tabok_pkN : ∀ f, FnT Try.prog f (tab_pkN f) := (tabT_cons (k := 27) ok_nx tabT_nil)
theorem run_pkN (N : Nat) (k : Int) (a : Int) (s : Int) : run ty tab_pkN ann0 N Try.f14 [.ptr 0 0, .int .i64 k] [.at true (.as 1 [.nil, .int .i64 a, .int .u64 s])]
    = (match decide ((k : Int) ≤ 1) with | true => some (.int .i64 0, [.at true (.as 1 [.nil, .int .i64 a, .int .u64 s])]) | false => (match srOk 0 ([] : List Int) a with | true => (match decide ((k : Int) > 200) with | true => (match srOk 0 ([] : List Int) (a + 1) with | true => (match decide (k = 0) with | true => none | false => some (.int .i64 (Int.tmod (IntKind.i64.wrap ((IntKind.i64.wrap ((nxV ([] : List Int) a s) * 256)) + (nxV ([] : List Int) (a + 1) (nxS ([] : List Int) a s)))) k), [.at true (.as 1 [.nil, .int .i64 ((a + 1) + 1), .int .u64 (nxS ([] : List Int) (a + 1) (nxS ([] : List Int) a s))])])) | false => none) | false => (match decide (k = 0) with | true => none | false => some (.int .i64 (Int.tmod (nxV ([] : List Int) a s) k), [.at true (.as 1 [.nil, .int .i64 (a + 1), .int .u64 (nxS ([] : List Int) a s)])]))) | false => none)) := by
  kernel_rfl
theorem ok_pk : FnT Try.prog 14 gPick := by
  intro vs hp v h' e
  unfold gPick at e
  split at e
  · rename_i k n a s rw l
    obtain ⟨hd, e⟩ := T.pre_inv e
    obtain ⟨rfl, rfl⟩ := T.ret_inv e
    rw [Bool.and_eq_true] at hd
    obtain ⟨hs, hk⟩ := hd
    obtain ⟨hk1, hk2⟩ := of_decide_eq_true hk
    refine FnT.runs tabok_pkA Try.func14 rfl rfl ann0 0 _ _ _ _ ?_
    rw [T.run_of]
    refine Eq.trans (run_pkA 0 k n a s rw l) ?_
    rw [decide_eq_false (show ¬ k ≤ 1 by omega), hs, decide_eq_false (show ¬ k > 200 by omega), decide_eq_false (show ¬ k = 0 by omega)]
    all_goals rfl
  · rename_i k a s
    obtain ⟨hd, e⟩ := T.pre_inv e
    obtain ⟨rfl, rfl⟩ := T.ret_inv e
    rw [Bool.and_eq_true] at hd
    obtain ⟨hs, hk⟩ := hd
    obtain ⟨hk1, hk2⟩ := of_decide_eq_true hk
    refine FnT.runs tabok_pkN Try.func14 rfl rfl ann0 0 _ _ _ _ ?_
    rw [T.run_of]
    refine Eq.trans (run_pkN 0 k a s) ?_
    rw [decide_eq_false (show ¬ k ≤ 1 by omega), hs, decide_eq_false (show ¬ k > 200 by omega), decide_eq_false (show ¬ k = 0 by omega)]
    all_goals rfl
  · exact (T.no_inv e).elim
end Go.Proofs.Ytpeplbbphpamhaa.Ab

namespace Go.Proofs.Ytpeplbbphpamhaa.Ab
set_option linter.unusedVariables false
set_option linter.unusedSimpArgs false
open Go
def gFrm : GT := fun vs h => match vs, h with
  | [.sl 0 0 m], [.at rw (.int .u8 l)] => .ret (.ptr 1 0) [.at rw (.int .u8 l), .at true (.as 1 [.sl 0 0 m, .int .i64 0, .int .u64 0])]
  | [.nil], [] => .ret (.ptr 0 0) [.at true (.as 1 [.nil, .int .i64 0, .int .u64 0])]
  | _, _ => .no
def tab_frA : Fns := tabT []
theorem tabok_frA : ∀ f, FnT Try.prog f (tab_frA f) := tabT_nil
theorem run_frA (N : Nat) (m : Nat) (rw : Bool) (l : List Int) : run ty tab_frA ann0 N Try.f13 [.sl 0 0 m] [.at rw (.int .u8 l)]
    = some (.ptr 1 0, [.at rw (.int .u8 l), .at true (.as 1 [.sl 0 0 m, .int .i64 0, .int .u64 0])]) := by
  kernel_rfl
def tab_frN : Fns := tabT []
theorem tabok_frN : ∀ f, FnT Try.prog f (tab_frN f) := tabT_nil
theorem run_frN (N : Nat)  : run ty tab_frN ann0 N Try.f13 [.nil] []
    = some (.ptr 0 0, [.at true (.as 1 [.nil, .int .i64 0, .int .u64 0])]) := by
  kernel_rfl
theorem ok_frm : FnT Try.prog 13 gFrm := by
  intro vs hp v h' e
  unfold gFrm at e
  split at e
  · obtain ⟨rfl, rfl⟩ := T.ret_inv e
    refine FnT.runs tabok_frA Try.func13 rfl rfl ann0 0 _ _ _ _ ?_
    rw [T.run_of]
    exact run_frA 0 _ _ _
  · obtain ⟨rfl, rfl⟩ := T.ret_inv e
    refine FnT.runs tabok_frN Try.func13 rfl rfl ann0 0 _ _ _ _ ?_
    rw [T.run_of]
    exact run_frN 0
  · exact (T.no_inv e).elim
def an_rr : Ann := ⟨fun r => if r = 3 then some ([1, 5, 6], [6]) else none, fun _ _ => .quiet⟩
noncomputable def tab_rr : Fns := tabT [(13, gFrm), (14, gPick)]
theorem tabok_rr : ∀ f, FnT Try.prog f (tab_rr f) := (tabT_cons (k := 13) ok_frm (tabT_cons (k := 14) ok_pk tabT_nil))
def st_rr3 (n1 : Int) (out6n : Nat) (rw0 : Bool) (l0 : List Int) (b1_0n : Nat) (b1_1 : Int) (b1_2 : Int) (l2 : List Nat) : St := ⟨(.any :: .int .i64 n1 :: .any :: .any :: .any :: .ptr 1 0 :: .sl 2 0 out6n :: (anys 18 [])), [.at rw0 (.int .u8 l0), .at true (.as 1 [.sl 0 0 b1_0n, .int .i64 b1_1, .int .u64 b1_2]), .at true (.fl .f32 l2)]⟩
abbrev kp_rr3 : Option (List Nat × List Nat) := some ([1, 5, 6], [6])
noncomputable def lp_rr3 {R : Type} (N M : Nat) (s : St) (K : X → St → Option R) : Option R := loopH 1 kp_rr3 (fun st K => exec ty tab_rr an_rr N 1 (atOf [true, true, true, false, false, false] Try.f6) st K) M s K
noncomputable def kt_rr3 {R : Type} (N : Nat) (K : X → St → Option R) : X → St → Option R := kBlkR 0 (kSeqR tab_rr an_rr N 1 (atOf [true, true, true, true] Try.f6) (K))
def en_rr3_0 (out6n : Nat) (rw0 : Bool) (l0 : List Int) (l1 : List Nat) : St := ⟨(anys 6 (.sl 1 0 out6n :: (anys 18 []))), [.at rw0 (.int .u8 l0), .at true (.fl .f32 l1)]⟩
theorem run_rr (N : Nat) (m : Nat) (n : Int) (r : Bool) (l : List Int) : run ty tab_rr an_rr N Try.f6 [.sl 0 0 m, .int .i64 n] [.at r (.int .u8 l)]
    = lp_rr3 N N (st_rr3 n 0 r l m 0 0 ([] : List Nat)) (kt_rr3 N (kEnd Try.f6 1)) := by
  kernel_rfl
theorem step_rr3 {R : Type} (N M : Nat) (K : X → St → Option R) (n1 : Int) (out6n : Nat) (rw0 : Bool) (l0 : List Int) (b1_0n : Nat) (b1_1 : Int) (b1_2 : Int) (l2 : List Nat) : lp_rr3 N (M + 1) (st_rr3 n1 out6n rw0 l0 b1_0n b1_1 b1_2 l2) K
    = (match decide ((n1 : Int) > 0) with | true => (match srOk b1_0n l0 b1_1 && decide ((1 : Int) < 17 ∧ (17 : Int) ≤ 200) with | true => (match apok true out6n 1 l2.length 1 (out6n + 1) 4 with | true => lp_rr3 N M (st_rr3 (IntKind.i64.wrap (n1 - 1)) (out6n + 1) rw0 l0 b1_0n (b1_1 + 1) (nxS l0 b1_1 b1_2) (l2 ++ [fop .quo .f32 (floatOfInt .f32 (IntKind.i64.wrap ((Int.tmod (nxV l0 b1_1 b1_2) 17) - 4))) 1073741824])) K | false => none) | false => none) | false => K (.exit 0) (en_rr3_0 out6n rw0 l0 l2)) := by
  kernel_rfl
theorem end_rr3_0 (N : Nat) (out6n : Nat) (rw0 : Bool) (l0 : List Int) (l1 : List Nat) : kt_rr3 N (kEnd Try.f6 1) (.exit 0) (en_rr3_0 out6n rw0 l0 l1)
    = some (.sl 1 0 out6n, [.at rw0 (.int .u8 l0), .at true (.fl .f32 l1)]) := by
  kernel_rfl
noncomputable def ce_rr3_0 (N : Nat) (out6n : Nat) (rw0 : Bool) (l0 : List Int) (l1 : List Nat) : Option (V × H) := some (.sl 1 0 out6n, [.at rw0 (.int .u8 l0), .at true (.fl .f32 l1)])
noncomputable def mb_rr3 (N : Nat) (k0 : Nat → Bool → List Int → List Nat → Option (V × H)) (rq : Int → Nat → Bool → List Int → Nat → Int → Int → List Nat → Option (V × H)) : Int → Nat → Bool → List Int → Nat → Int → Int → List Nat → Option (V × H) := fun (n1 : Int) (out6n : Nat) (rw0 : Bool) (l0 : List Int) (b1_0n : Nat) (b1_1 : Int) (b1_2 : Int) (l2 : List Nat) => (match decide ((n1 : Int) > 0) with | true => (match srOk b1_0n l0 b1_1 && decide ((1 : Int) < 17 ∧ (17 : Int) ≤ 200) with | true => (match apok true out6n 1 l2.length 1 (out6n + 1) 4 with | true => (rq (IntKind.i64.wrap (n1 - 1)) (out6n + 1) rw0 l0 b1_0n (b1_1 + 1) (nxS l0 b1_1 b1_2) (l2 ++ [fop .quo .f32 (floatOfInt .f32 (IntKind.i64.wrap ((Int.tmod (nxV l0 b1_1 b1_2) 17) - 4))) 1073741824])) | false => none) | false => none) | false => (k0 out6n rw0 l0 l2))
noncomputable def mr_rr3 (N : Nat) (k0 : Nat → Bool → List Int → List Nat → Option (V × H)) (M : Nat) : Int → Nat → Bool → List Int → Nat → Int → Int → List Nat → Option (V × H) := Nat.rec (motive := fun _ => Int → Nat → Bool → List Int → Nat → Int → Int → List Nat → Option (V × H)) (fun (_ : Int) (_ : Nat) (_ : Bool) (_ : List Int) (_ : Nat) (_ : Int) (_ : Int) (_ : List Nat) => none) (fun _ rq => mb_rr3 N k0 rq) M
theorem mrs_rr3 (N : Nat) (k0 : Nat → Bool → List Int → List Nat → Option (V × H)) (M : Nat) (n1 : Int) (out6n : Nat) (rw0 : Bool) (l0 : List Int) (b1_0n : Nat) (b1_1 : Int) (b1_2 : Int) (l2 : List Nat) : mr_rr3 N k0 (M + 1) n1 out6n rw0 l0 b1_0n b1_1 b1_2 l2 = mb_rr3 N k0 (mr_rr3 N k0 M) n1 out6n rw0 l0 b1_0n b1_1 b1_2 l2 := rfl
theorem H_rr3 (N : Nat) : ∀ (M : Nat) (n1 : Int) (out6n : Nat) (rw0 : Bool) (l0 : List Int) (b1_0n : Nat) (b1_1 : Int) (b1_2 : Int) (l2 : List Nat), lp_rr3 N M (st_rr3 n1 out6n rw0 l0 b1_0n b1_1 b1_2 l2) (kt_rr3 N (kEnd Try.f6 1)) = mr_rr3 N (ce_rr3_0 N) M n1 out6n rw0 l0 b1_0n b1_1 b1_2 l2 := by
  have he0 : ∀ (out6n : Nat) (rw0 : Bool) (l0 : List Int) (l1 : List Nat), kt_rr3 N (kEnd Try.f6 1) (.exit 0) (en_rr3_0 out6n rw0 l0 l1) = ce_rr3_0 N out6n rw0 l0 l1 := by
    intro out6n rw0 l0 l1
    rw [end_rr3_0]
    unfold ce_rr3_0
    first | (simp only []; done) | (simp only []; kernel_rfl) | rfl
  intro M
  induction M with
  | zero => intros; rfl
  | succ M ih =>
    intro n1 out6n rw0 l0 b1_0n b1_1 b1_2 l2
    rw [step_rr3]
    rw [mrs_rr3]
    unfold mb_rr3
    first | (simp only [ih, he0]; done) | (simp only [ih, he0]; kernel_rfl) | rfl
noncomputable def md_rr (N : Nat) (m : Nat) (n : Int) (r : Bool) (l : List Int) : Option (V × H) := (mr_rr3 N (ce_rr3_0 N) N n 0 r l m 0 0 ([] : List Nat))
theorem mdl_rr (N : Nat) (m : Nat) (n : Int) (r : Bool) (l : List Int) : run ty tab_rr an_rr N Try.f6 [.sl 0 0 m, .int .i64 n] [.at r (.int .u8 l)] = md_rr N m n r l := by
  rw [run_rr]
  unfold md_rr
  first | (simp only [H_rr3 N N]; done) | (simp only [H_rr3 N N]; kernel_rfl) | rfl
def o_rr (m : Nat) (n : Int) (r : Bool) (l : List Int) : Option (V × H) → Option (Nat × List Nat)
  | some (.sl 1 0 x1, [.at r0 (.int .u8 y0), .at true (.fl .f32 x2)]) => match decide (r0 = r ∧ y0 = l) with | true => some (x1, x2) | false => none
  | _ => none
theorem oi_rr {m : Nat} {n : Int} {r : Bool} {l : List Int} {o : Option (V × H)} {z : Nat × List Nat} (h : o_rr m n r l o = some z) : o = some (.sl 1 0 z.1, [.at r (.int .u8 l), .at true (.fl .f32 z.2)]) := by
  unfold o_rr at h
  split at h
  · split at h
    · rename_i hd
      obtain ⟨rfl, rfl⟩ := of_decide_eq_true hd
      cases h
      rfl
    · cases h
  · cases h
noncomputable def d_rr (m : Nat) (n : Int) (r : Bool) (l : List Int) : Option (Nat × List Nat) := o_rr m n r l (md_rr 20 m n r l)
noncomputable def v_rr (m : Nat) (n : Int) (r : Bool) (l : List Int) : Nat × List Nat := (d_rr m n r l).getD (0, [])
noncomputable def g_rr : GT := fun vs h => match vs, h with
  | [.sl 0 0 m, .int .i64 n], [.at r (.int .u8 l)] => .ite (d_rr m n r l).isSome (.ret (.sl 1 0 ((v_rr m n r l).1)) [.at r (.int .u8 l), .at true (.fl .f32 ((v_rr m n r l).2))]) .no
  | _, _ => .no
theorem ok_rr : FnT Try.prog 6 g_rr := by
  refine fnT tabok_rr Try.func6 rfl rfl an_rr fun vs h v h' e => ⟨20, ?_⟩
  unfold g_rr at e
  split at e
  · rename_i m n r l
    obtain ⟨hs, e⟩ := T.pre_inv e
    obtain ⟨rfl, rfl⟩ := T.ret_inv e
    skip
    refine Eq.trans (mdl_rr 20 m n r l) ?_
    obtain ⟨z, hz⟩ := Option.isSome_iff_exists.mp hs
    have hv : v_rr m n r l = z := by unfold v_rr; rw [hz]; rfl
    rw [hv]
    exact oi_rr hz
  · exact (T.no_inv e).elim
def an_rn : Ann := ⟨fun r => if r = 3 then some ([1, 5, 6], [6]) else none, fun _ _ => .quiet⟩
noncomputable def tab_rn : Fns := tabT [(13, gFrm), (14, gPick)]
theorem tabok_rn : ∀ f, FnT Try.prog f (tab_rn f) := (tabT_cons (k := 13) ok_frm (tabT_cons (k := 14) ok_pk tabT_nil))
def st_rn3 (n1 : Int) (out6n : Nat) (b0_1 : Int) (b0_2 : Int) (l1 : List Nat) : St := ⟨(.any :: .int .i64 n1 :: .any :: .any :: .any :: .ptr 0 0 :: .sl 1 0 out6n :: (anys 18 [])), [.at true (.as 1 [.nil, .int .i64 b0_1, .int .u64 b0_2]), .at true (.fl .f32 l1)]⟩
abbrev kp_rn3 : Option (List Nat × List Nat) := some ([1, 5, 6], [6])
noncomputable def lp_rn3 {R : Type} (N M : Nat) (s : St) (K : X → St → Option R) : Option R := loopH 0 kp_rn3 (fun st K => exec ty tab_rn an_rn N 0 (atOf [true, true, true, false, false, false] Try.f6) st K) M s K
noncomputable def kt_rn3 {R : Type} (N : Nat) (K : X → St → Option R) : X → St → Option R := kBlkR 0 (kSeqR tab_rn an_rn N 0 (atOf [true, true, true, true] Try.f6) (K))
def en_rn3_0 (out6n : Nat) (l0 : List Nat) : St := ⟨(anys 6 (.sl 0 0 out6n :: (anys 18 []))), [.at true (.fl .f32 l0)]⟩
theorem run_rn (N : Nat) (n : Int) : run ty tab_rn an_rn N Try.f6 [.nil, .int .i64 n] []
    = lp_rn3 N N (st_rn3 n 0 0 0 ([] : List Nat)) (kt_rn3 N (kEnd Try.f6 0)) := by
  kernel_rfl
theorem step_rn3 {R : Type} (N M : Nat) (K : X → St → Option R) (n1 : Int) (out6n : Nat) (b0_1 : Int) (b0_2 : Int) (l1 : List Nat) : lp_rn3 N (M + 1) (st_rn3 n1 out6n b0_1 b0_2 l1) K
    = (match decide ((n1 : Int) > 0) with | true => (match srOk 0 ([] : List Int) b0_1 && decide ((1 : Int) < 17 ∧ (17 : Int) ≤ 200) with | true => (match apok true out6n 1 l1.length 1 (out6n + 1) 4 with | true => lp_rn3 N M (st_rn3 (IntKind.i64.wrap (n1 - 1)) (out6n + 1) (b0_1 + 1) (nxS ([] : List Int) b0_1 b0_2) (l1 ++ [fop .quo .f32 (floatOfInt .f32 (IntKind.i64.wrap ((Int.tmod (nxV ([] : List Int) b0_1 b0_2) 17) - 4))) 1073741824])) K | false => none) | false => none) | false => K (.exit 0) (en_rn3_0 out6n l1)) := by
  kernel_rfl
theorem end_rn3_0 (N : Nat) (out6n : Nat) (l0 : List Nat) : kt_rn3 N (kEnd Try.f6 0) (.exit 0) (en_rn3_0 out6n l0)
    = some (.sl 0 0 out6n, [.at true (.fl .f32 l0)]) := by
  kernel_rfl
noncomputable def ce_rn3_0 (N : Nat) (out6n : Nat) (l0 : List Nat) : Option (V × H) := some (.sl 0 0 out6n, [.at true (.fl .f32 l0)])
noncomputable def mb_rn3 (N : Nat) (k0 : Nat → List Nat → Option (V × H)) (rq : Int → Nat → Int → Int → List Nat → Option (V × H)) : Int → Nat → Int → Int → List Nat → Option (V × H) := fun (n1 : Int) (out6n : Nat) (b0_1 : Int) (b0_2 : Int) (l1 : List Nat) => (match decide ((n1 : Int) > 0) with | true => (match srOk 0 ([] : List Int) b0_1 && decide ((1 : Int) < 17 ∧ (17 : Int) ≤ 200) with | true => (match apok true out6n 1 l1.length 1 (out6n + 1) 4 with | true => (rq (IntKind.i64.wrap (n1 - 1)) (out6n + 1) (b0_1 + 1) (nxS ([] : List Int) b0_1 b0_2) (l1 ++ [fop .quo .f32 (floatOfInt .f32 (IntKind.i64.wrap ((Int.tmod (nxV ([] : List Int) b0_1 b0_2) 17) - 4))) 1073741824])) | false => none) | false => none) | false => (k0 out6n l1))
noncomputable def mr_rn3 (N : Nat) (k0 : Nat → List Nat → Option (V × H)) (M : Nat) : Int → Nat → Int → Int → List Nat → Option (V × H) := Nat.rec (motive := fun _ => Int → Nat → Int → Int → List Nat → Option (V × H)) (fun (_ : Int) (_ : Nat) (_ : Int) (_ : Int) (_ : List Nat) => none) (fun _ rq => mb_rn3 N k0 rq) M
theorem mrs_rn3 (N : Nat) (k0 : Nat → List Nat → Option (V × H)) (M : Nat) (n1 : Int) (out6n : Nat) (b0_1 : Int) (b0_2 : Int) (l1 : List Nat) : mr_rn3 N k0 (M + 1) n1 out6n b0_1 b0_2 l1 = mb_rn3 N k0 (mr_rn3 N k0 M) n1 out6n b0_1 b0_2 l1 := rfl
theorem H_rn3 (N : Nat) : ∀ (M : Nat) (n1 : Int) (out6n : Nat) (b0_1 : Int) (b0_2 : Int) (l1 : List Nat), lp_rn3 N M (st_rn3 n1 out6n b0_1 b0_2 l1) (kt_rn3 N (kEnd Try.f6 0)) = mr_rn3 N (ce_rn3_0 N) M n1 out6n b0_1 b0_2 l1 := by
  have he0 : ∀ (out6n : Nat) (l0 : List Nat), kt_rn3 N (kEnd Try.f6 0) (.exit 0) (en_rn3_0 out6n l0) = ce_rn3_0 N out6n l0 := by
    intro out6n l0
    rw [end_rn3_0]
    unfold ce_rn3_0
    first | (simp only []; done) | (simp only []; kernel_rfl) | rfl
  intro M
  induction M with
  | zero => intros; rfl
  | succ M ih =>
    intro n1 out6n b0_1 b0_2 l1
    rw [step_rn3]
    rw [mrs_rn3]
    unfold mb_rn3
    first | (simp only [ih, he0]; done) | (simp only [ih, he0]; kernel_rfl) | rfl
noncomputable def md_rn (N : Nat) (n : Int) : Option (V × H) := (mr_rn3 N (ce_rn3_0 N) N n 0 0 0 ([] : List Nat))
theorem mdl_rn (N : Nat) (n : Int) : run ty tab_rn an_rn N Try.f6 [.nil, .int .i64 n] [] = md_rn N n := by
  rw [run_rn]
  unfold md_rn
  first | (simp only [H_rn3 N N]; done) | (simp only [H_rn3 N N]; kernel_rfl) | rfl
def o_rn (n : Int) : Option (V × H) → Option (Nat × List Nat)
  | some (.sl 0 0 x1, [.at true (.fl .f32 x2)]) => match decide (True) with | true => some (x1, x2) | false => none
  | _ => none
theorem oi_rn {n : Int} {o : Option (V × H)} {z : Nat × List Nat} (h : o_rn n o = some z) : o = some (.sl 0 0 z.1, [.at true (.fl .f32 z.2)]) := by
  unfold o_rn at h
  split at h
  · split at h
    · rename_i hd
      obtain _ := of_decide_eq_true hd
      cases h
      rfl
    · cases h
  · cases h
noncomputable def d_rn (n : Int) : Option (Nat × List Nat) := o_rn n (md_rn 20 n)
noncomputable def v_rn (n : Int) : Nat × List Nat := (d_rn n).getD (0, [])
noncomputable def g_rn : GT := fun vs h => match vs, h with
  | [.nil, .int .i64 n], [] => .ite (d_rn n).isSome (.ret (.sl 0 0 ((v_rn n).1)) [.at true (.fl .f32 ((v_rn n).2))]) .no
  | _, _ => .no
theorem ok_rn : FnT Try.prog 6 g_rn := by
  refine fnT tabok_rn Try.func6 rfl rfl an_rn fun vs h v h' e => ⟨20, ?_⟩
  unfold g_rn at e
  split at e
  · rename_i n
    obtain ⟨hs, e⟩ := T.pre_inv e
    obtain ⟨rfl, rfl⟩ := T.ret_inv e
    skip
    refine Eq.trans (mdl_rn 20 n) ?_
    obtain ⟨z, hz⟩ := Option.isSome_iff_exists.mp hs
    have hv : v_rn n = z := by unfold v_rn; rw [hz]; rfl
    rw [hv]
    exact oi_rn hz
  · exact (T.no_inv e).elim
noncomputable def g_R8 : GT := fun vs h => match vs with
  | .nil :: _ => g_rn vs h
  | _ => g_rr vs h
theorem ok_R8 : FnT Try.prog 6 g_R8 := by
  intro vs hp v h' e
  unfold g_R8 at e
  split at e
  · exact ok_rn _ _ _ _ e
  · exact ok_rr _ _ _ _ e
end Go.Proofs.Ytpeplbbphpamhaa.Ab

namespace Go.Proofs.Ytpeplbbphpamhaa.Ab
set_option linter.unusedVariables false
set_option linter.unusedSimpArgs false
open Go
theorem drawn_app {x : Nat} {a : Rat} (hx : Drawn x a) : ∀ {l : List Nat} {ar : List Rat}, DrawnL l ar → DrawnL (l ++ [x]) (ar ++ [a])
  | [], [], _ => ⟨hx, trivial⟩
  | y :: l, c :: ar, h => ⟨h.1, drawn_app hx h.2⟩
theorem row_drawn {v : Int} (h0 : 0 ≤ v) (h1 : v < 256) : ∃ a, Drawn (fop .quo .f32 (floatOfInt .f32 (IntKind.i64.wrap ((Int.tmod v 17) - 4))) 1073741824) a := by
  have e1 : Int.tmod v 17 = v % 17 := Int.tmod_eq_emod_of_nonneg h0
  have e2 : 0 ≤ v % 17 := Int.emod_nonneg _ (by decide)
  have e3 : v % 17 < 17 := Int.emod_lt_of_pos _ (by decide)
  rw [e1]
  generalize v % 17 = w at e2 e3
  obtain ⟨j, rfl⟩ : ∃ j : Nat, w = ((j : Nat) : Int) := ⟨w.toNat, by omega⟩
  rw [wrap_z (by omega) (by omega)]
  exact ⟨_, row_ok (j := j) (by omega)⟩
theorem rr_loop {N : Nat} {k0 : Nat → Bool → List Int → List Nat → Option (V × H)} {r : Bool} {l : List Int} {m n : Nat} (hm : l.length = m ∧ m < 2147483648) (hb : bytesB l = true) (hn : n < 100) : ∀ (t i M : Nat) (s : Int) (out : List Nat) (ar : List Rat), i + t = n → t < M → out.length = i → DrawnL out ar →
    ∃ rows ar', DrawnL rows ar' ∧ rows.length = n ∧ mr_rr3 N k0 M ((t : Nat) : Int) i r l m ((i : Nat) : Int) s out = k0 n r l rows
  | 0, i, M + 1, s, out, ar, hi, hM, ho, hd => by
    refine ⟨out, ar, hd, by omega, ?_⟩
    rw [mrs_rr3]
    unfold mb_rr3
    try dsimp only
    rw [decide_eq_false (show ¬ ((0 : Nat) : Int) > 0 by omega), show i = n by omega]
  | t + 1, i, M + 1, s, out, ar, hi, hM, ho, hd => by
    obtain ⟨v0', v1'⟩ := nx_range (l := l) (a := ((i : Nat) : Int)) (s := s) hb (by omega)
    obtain ⟨a, ha⟩ := row_drawn v0' v1'
    have hsr : srOk m l ((i : Nat) : Int) = true := decide_eq_true ⟨hm.1, hm.2, by omega, by omega⟩
    have hw : IntKind.i64.wrap (((t + 1 : Nat) : Int) - 1) = ((t : Nat) : Int) := by rw [wrap_z (by omega) (by omega)]; omega
    rw [mrs_rr3]
    unfold mb_rr3
    try dsimp only
    rw [decide_eq_true (show ((t + 1 : Nat) : Int) > 0 by omega), hsr, decide_eq_true (show (1 : Int) < 17 ∧ (17 : Int) ≤ 200 by decide), apc ho (by omega) (by decide), hw]
    exact rr_loop hm hb hn t (i + 1) M _ _ (ar ++ [a]) (by omega) (by omega) (by rw [List.length_append, ho]; rfl) (drawn_app ha hd)
theorem rr_ok {r : Bool} {l : List Int} {m n : Nat} (hm : l.length = m ∧ m < 2147483648) (hb : bytesB l = true) (hn : n ≤ 8) : ∃ rows ar, DrawnL rows ar ∧ rows.length = n ∧ d_rr m ((n : Nat) : Int) r l = some (n, rows) := by
  obtain ⟨rows, ar, h1, h2, h3⟩ := rr_loop (N := 20) (k0 := ce_rr3_0 20) (r := r) (n := n) hm hb (by omega) n 0 20 0 [] [] (by omega) (by omega) rfl trivial
  refine ⟨rows, ar, h1, h2, ?_⟩
  unfold d_rr md_rr
  rw [show (((0 : Nat) : Int)) = 0 from rfl] at h3
  rw [h3]
  show (match decide (r = r ∧ l = l) with | true => some (n, rows) | false => none) = _
  rw [eq_self]
theorem rn_loop {N : Nat} {k0 : Nat → List Nat → Option (V × H)} {n : Nat} (hn : n < 100) : ∀ (t i M : Nat) (s : Int) (out : List Nat) (ar : List Rat), i + t = n → t < M → out.length = i → DrawnL out ar →
    ∃ rows ar', DrawnL rows ar' ∧ rows.length = n ∧ mr_rn3 N k0 M ((t : Nat) : Int) i ((i : Nat) : Int) s out = k0 n rows
  | 0, i, M + 1, s, out, ar, hi, hM, ho, hd => by
    refine ⟨out, ar, hd, by omega, ?_⟩
    rw [mrs_rn3]
    unfold mb_rn3
    try dsimp only
    rw [decide_eq_false (show ¬ ((0 : Nat) : Int) > 0 by omega), show i = n by omega]
  | t + 1, i, M + 1, s, out, ar, hi, hM, ho, hd => by
    obtain ⟨v0', v1'⟩ := nx_range (l := ([] : List Int)) (a := ((i : Nat) : Int)) (s := s) rfl (by omega)
    obtain ⟨a, ha⟩ := row_drawn v0' v1'
    have hsr : srOk 0 ([] : List Int) ((i : Nat) : Int) = true := decide_eq_true ⟨rfl, by decide, by omega, by omega⟩
    have hw : IntKind.i64.wrap (((t + 1 : Nat) : Int) - 1) = ((t : Nat) : Int) := by rw [wrap_z (by omega) (by omega)]; omega
    rw [mrs_rn3]
    unfold mb_rn3
    try dsimp only
    rw [decide_eq_true (show ((t + 1 : Nat) : Int) > 0 by omega), hsr, decide_eq_true (show (1 : Int) < 17 ∧ (17 : Int) ≤ 200 by decide), apc ho (by omega) (by decide), hw]
    exact rn_loop hn t (i + 1) M _ _ (ar ++ [a]) (by omega) (by omega) (by rw [List.length_append, ho]; rfl) (drawn_app ha hd)
theorem rn_ok {n : Nat} (hn : n ≤ 8) : ∃ rows ar, DrawnL rows ar ∧ rows.length = n ∧ d_rn ((n : Nat) : Int) = some (n, rows) := by
  obtain ⟨rows, ar, h1, h2, h3⟩ := rn_loop (N := 20) (k0 := ce_rn3_0 20) (n := n) (by omega) n 0 20 0 [] [] (by omega) (by omega) rfl trivial
  refine ⟨rows, ar, h1, h2, ?_⟩
  unfold d_rn md_rn
  rw [show (((0 : Nat) : Int)) = 0 from rfl] at h3
  rw [h3]
  show (match decide True with | true => some (n, rows) | false => none) = _
  rw [decide_eq_true trivial]
theorem drawn_n {l : List Int} (hb : bytesB l = true) : ∃ n, 1 ≤ n ∧ n ≤ 8 ∧ IntKind.i64.wrap (1 + (atF l 40 8)) = ((n : Nat) : Int) := by
  obtain ⟨h1, h2⟩ := atF_range (l := l) (i := 40) (k := 8) hb (by decide) (by decide) (by decide)
  exact ⟨(1 + atF l 40 8).toNat, by omega, by omega, by rw [wrap_z (by omega) (by omega)]; omega⟩
theorem drawn_b {l : List Int} (hb : bytesB l = true) : ∃ j, j < 8 ∧ fop .quo .f32 (fneg .f32 (floatOfInt .f32 (IntKind.i64.wrap (1 + (atF l 41 8))))) 1082130432 = besL j := by
  obtain ⟨h1, h2⟩ := atF_range (l := l) (i := 41) (k := 8) hb (by decide) (by decide) (by decide)
  obtain ⟨j, hj⟩ : ∃ j : Nat, atF l 41 8 = ((j : Nat) : Int) := ⟨(atF l 41 8).toNat, by omega⟩
  rw [hj]
  refine ⟨j, by omega, ?_⟩
  rw [wrap_z (by omega) (by omega)]
  rfl
theorem pre_of {j n : Nat} {rows : List Nat} {ar : List Rat} (hj : j < 8) (hd : DrawnL rows ar) (hl : rows.length = n) (h1 : 1 ≤ n) (h8 : n ≤ 8) : PreL (besL j) rows ar (((1 + j : Nat) : Rat) / 4) :=
  ⟨(bes_ok hj).1, (bes_ok hj).2, hd, by omega, by omega⟩
structure AtK (b : Nat) (l : List Nat) (n k : Nat) : Prop where
  lo : d_lo n b ((k : Nat) : Int) 36 true l = some (levW b l k, true)
  dn : d_CB n b (fop .sub .f32 (levW b l k) 1008981770) true l = some (((cbF b (fop .sub .f32 (levW b l k) 1008981770) none l : Nat) : Int), true)
  up : d_CB n b (fop .add .f32 (levW b l k) 1008981770) true l = some (((cbF b (fop .add .f32 (levW b l k) 1008981770) none l : Nat) : Int), true)
  dnk : cbF b (fop .sub .f32 (levW b l k) 1008981770) none l ≤ k
  upk : k + 1 ≤ cbF b (fop .add .f32 (levW b l k) 1008981770) none l
  same : (FloatKind.f32.format.order (levW b l k) (levW b l k) != some .eq) = false
  rise : ∀ j, k = j + 1 → ltB (levW b l k) (levW b l j) = false
theorem at_k {b n k : Nat} {l : List Nat} {ar : List Rat} {g : Rat} (p : PreL b l ar g) (h : l.length = n) (hk : k < n) : AtK b l n k := by
  have h0 := p.h0
  have h8 := p.h8
  have hfl := drawn_fin p.rows
  have hfb := finB_v p.bes.v
  obtain ⟨r, hr⟩ := level p.bes p.rows p.h0 p.h8 (k := k) (by omega)
  obtain ⟨c1, c2, c3, c4⟩ := lev_counts p.bes p.rows p.h8 hr
  refine ⟨lo_ok p h hk, CB_ok h (by omega) (by omega) hfl hfb c1, CB_ok h (by omega) (by omega) hfl hfb c3, c2, c4, ?_, fun j hj => ?_⟩
  · rw [show FloatKind.f32.format.order (levW b l k) (levW b l k) = _ from order_v hr.v hr.v, if_neg (by grind), if_pos rfl]
    rfl
  · obtain ⟨s, hs⟩ := level p.bes p.rows p.h0 p.h8 (k := j) (by omega)
    have hm := lev_mono p.bes p.rows p.h0 (show j ≤ k by omega)
    rw [val_eq hr.v, val_eq hs.v] at hm
    rw [ltB_v hr.v hs.v, decide_eq_false (by grind)]
structure Whole (b : Nat) (l : List Nat) (n : Nat) : Prop where
  gl : d_gl n b ((n : Nat) : Int) 36 true l = some (n, levs b l n)
  no : d_CB n b 3267887104 true l = some (0, true)
  all : d_CB n b 1120403456 true l = some (((n : Nat) : Int), true)
  sums : ∃ c1 c2, fconv .f64 (sum64 (fun k => levW b l k) n) .f32 = some c1 ∧ fconv .f64 (sum64 (fun k => l.getD k 0) n) .f32 = some c2 ∧ gtD (r8G c1 c2) 4576918229304087675 = false
  state : ∃ l4, HoldsL l4 n (stW b l) ∧ d_so n b (levW b l 0) 4 l = some (n, l4) ∧ (∃ o, d_ov n n true l4 = some (o, true) ∧ gtD (r8G o 1065353216) 4562254508917369340 = false)
  rest : ∀ i, i < n → gtD (r8G (restW b (levW b l 0) (fun i => l.getD i 0) (stW b l) n i) 0) 4576918229304087675 = false
theorem ovW_congr {U W : Nat → Nat} : ∀ n, (∀ i, i < n → U i = W i) → ovW U n = ovW W n
  | 0, _ => rfl
  | n + 1, h => by
    show fop .add .f32 (ovW U n) (fop .mul .f32 (U n) (U n)) = fop .add .f32 (ovW W n) (fop .mul .f32 (W n) (W n))
    rw [ovW_congr n fun i hi => h i (by omega), h n (by omega)]
theorem hundred : Vw Ieee.single 1120403456 100 := isV_v (by decide +kernel)
theorem mhundred : Vw Ieee.single 3267887104 (-100) := isV_v (by decide +kernel)
theorem whole {b n : Nat} {l : List Nat} {ar : List Rat} {g : Rat} (p : PreL b l ar g) (h : l.length = n) : Whole b l n := by
  have h0 := p.h0
  have h8 := p.h8
  have hfl := drawn_fin p.rows
  have hfb := finB_v p.bes.v
  have g0 := p.bes.g0
  have g1 := p.bes.g1
  have gg0 : 1 / 16 ≤ g * g := by have := mul_nn (show 0 ≤ g - 1 / 4 by grind) (show 0 ≤ g + 1 / 4 by grind); grind
  have gg1 : g * g ≤ 4 := by have := mul_nn (show 0 ≤ 2 - g by grind) (show 0 ≤ 2 + g by grind); grind
  have hmem := drawn_mem p.rows
  have rows := drawn_rows p.rows
  have hmem8 : ∀ a ∈ ar, absR a ≤ 8 := fun a ha => by have := hmem a ha; rw [le_both]; grind
  obtain ⟨hd, hse⟩ := state_ok p.bes p.rows p.h0 p.h8
  obtain ⟨r, hr⟩ := level p.bes p.rows p.h0 p.h8 (k := 0) (by omega)
  have hx := finB_v hr.v
  have hr1 := hr.lo
  have hr2 := hr.hi
  rw [val_eq hr.v] at hd
  subst h
  refine ⟨gl_ok p rfl, ?_, ?_, sums_ok p.bes p.rows p.h0 p.h8, ?_, fun i hi => ?_⟩
  · rw [CB_ok rfl (by omega) (by omega) hfl hfb (finB_v mhundred)]
    rw [cb_none ⟨p.bes.sq, gg0, gg1, mhundred, by decide +kernel, ⟨-100 * 2 ^ 40, by decide +kernel⟩⟩ rows p.h8 hmem8]
    rfl
  · rw [CB_ok rfl (by omega) (by omega) hfl hfb (finB_v hundred)]
    rw [cb_all ⟨p.bes.sq, gg0, gg1, hundred, by decide +kernel, ⟨100 * 2 ^ 40, by decide +kernel⟩⟩ rows p.h8 hmem8]
  · obtain ⟨l4, f1, f2, f3⟩ := so_ok (x := levW b l 0) rfl (by omega) (by omega) hfl hfb hx (fun i hi => fin_state hd i hi)
    obtain ⟨n1, n2⟩ := norm_ok p.h8 hd
    have hc : ovW (fun j => l4.getD j 0) l.length = ovW (stW b l) l.length := ovW_congr _ fun i hi => f1.2 i hi
    refine ⟨l4, f1, f3, ovW (stW b l) l.length, ?_, n2⟩
    have := ov_ok (r := true) f1.1 (by omega) (by omega) f2 (by rw [hc]; exact n1)
    rw [hc] at this
    exact this
  · exact rest_ok p.bes (fun i hi => (drawn_getD p.rows i hi).v) hr.v (fun i hi => by
      have h1 := (drawn_getD p.rows i hi).lo
      have h2 := (drawn_getD p.rows i hi).hi
      rw [le_both]
      constructor <;> grind) hd hi
end Go.Proofs.Ytpeplbbphpamhaa.Ab

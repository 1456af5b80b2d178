/- What the proof names: lemmas and words, merged by a program from its parts. No condition. -/
import Derived.Test.YtpjoapgfdjfbdaaZ24
import Derived.Test.YtpjoapgfdjfbdaaZ25
import Derived.Test.YtpjoapgfdjfbdaaZ26
import Derived.Test.YtpjoapgfdjfbdaaZ27
import Derived.Test.YtpjoapgfdjfbdaaZ28
import Derived.Test.YtpjoapgfdjfbdaaZ29
import Derived.Test.YtpjoapgfdjfbdaaZ30
import Derived.Test.YtpjoapgfdjfbdaaZ17
import Derived.Test.YtpjoapgfdjfbdaaZ6
import Derived.Test.YtpjoapgfdjfbdaaZ8
import Derived.Test.YtpjoapgfdjfbdaaZ10
import Derived.Test.YtpjoapgfdjfbdaaZ12
import Derived.Test.YtpjoapgfdjfbdaaZ14
import Derived.Test.YtpjoapgfdjfbdaaZ16
namespace Go.Proofs.Ytpjoapgfdjfbdaa.Ab
set_option linter.unusedVariables false
set_option linter.unusedSimpArgs false
open Go
theorem a00 (x : Nat) (hx : x < 13) (q : Nat) (hq : q < 6) (y : Nat) (hy : y < 13) (r : Nat) (hr : r < 6) : xB 0 x q y r = true := by
  have key : ∀ i, i < 78 → xr x q i = true := by
    match x, hx, q, hq with
    | 0, _, 0, _ => exact aZB
    | 0, _, 1, _ => exact aZC
    | 0, _, 2, _ => exact aZD
    | 0, _, 3, _ => exact aZE
    | 0, _, 4, _ => exact aZF
    | 0, _, 5, _ => exact aZG
    | 1, _, 0, _ => exact aZH
    | 1, _, 1, _ => exact aZI
    | 1, _, 2, _ => exact aZJ
    | 1, _, 3, _ => exact aZK
    | 1, _, 4, _ => exact aZL
    | 1, _, 5, _ => exact aZM
    | 2, _, 0, _ => exact aZN
    | 2, _, 1, _ => exact aZO
    | 2, _, 2, _ => exact aZP
    | 2, _, 3, _ => exact aZQ
    | 2, _, 4, _ => exact aZR
    | 2, _, 5, _ => exact aZS
    | 3, _, 0, _ => exact aZT
    | 3, _, 1, _ => exact aZU
    | 3, _, 2, _ => exact aZV
    | 3, _, 3, _ => exact aZW
    | 3, _, 4, _ => exact aZX
    | 3, _, 5, _ => exact aZY
    | 4, _, 0, _ => exact aZZ
    | 4, _, 1, _ => exact aZ0
    | 4, _, 2, _ => exact aZ1
    | 4, _, 3, _ => exact aZ2
    | 4, _, 4, _ => exact aZ3
    | 4, _, 5, _ => exact aZ4
    | 5, _, 0, _ => exact aZ5
    | 5, _, 1, _ => exact aZ6
    | 5, _, 2, _ => exact aZ7
    | 5, _, 3, _ => exact aZ8
    | 5, _, 4, _ => exact aZ9
    | 5, _, 5, _ => exact a0A
    | 6, _, 0, _ => exact a0B
    | 6, _, 1, _ => exact a0C
    | 6, _, 2, _ => exact a0D
    | 6, _, 3, _ => exact a0E
    | 6, _, 4, _ => exact a0G
    | 6, _, 5, _ => exact a0H
    | 7, _, 0, _ => exact a0I
    | 7, _, 1, _ => exact a0J
    | 7, _, 2, _ => exact a0K
    | 7, _, 3, _ => exact a0L
    | 7, _, 4, _ => exact a0M
    | 7, _, 5, _ => exact a0N
    | 8, _, 0, _ => exact a0O
    | 8, _, 1, _ => exact a0P
    | 8, _, 2, _ => exact a0Q
    | 8, _, 3, _ => exact a0R
    | 8, _, 4, _ => exact a0S
    | 8, _, 5, _ => exact a0T
    | 9, _, 0, _ => exact a0U
    | 9, _, 1, _ => exact a0V
    | 9, _, 2, _ => exact a0W
    | 9, _, 3, _ => exact a0X
    | 9, _, 4, _ => exact a0Y
    | 9, _, 5, _ => exact a0Z
    | 10, _, 0, _ => exact aXM
    | 10, _, 1, _ => exact aXN
    | 10, _, 2, _ => exact aXO
    | 10, _, 3, _ => exact aXP
    | 10, _, 4, _ => exact aXQ
    | 10, _, 5, _ => exact aXR
    | 11, _, 0, _ => exact aXS
    | 11, _, 1, _ => exact aXT
    | 11, _, 2, _ => exact aXU
    | 11, _, 3, _ => exact aXV
    | 11, _, 4, _ => exact aXW
    | 11, _, 5, _ => exact aXX
    | 12, _, 0, _ => exact aXY
    | 12, _, 1, _ => exact aXZ
    | 12, _, 2, _ => exact aX0
    | 12, _, 3, _ => exact aX1
    | 12, _, 4, _ => exact aX2
    | 12, _, 5, _ => exact aX3
    | n + 13, h, _, _ => omega
    | _, _, n + 6, h => omega
  have := key (y * 6 + r) (by omega)
  unfold xr at this
  rwa [show (y * 6 + r) / 6 = y by omega, show (y * 6 + r) % 6 = r by omega] at this
theorem aX4 (J : Nat) (hJ : J = 1 ∨ J = 2) (x : Nat) (hx : x < 13) (q : Nat) (hq : q < 6) (y : Nat) (hy : y < 13) (r : Nat) (hr : r < 6) : xB J x q y r = true := by
  have hi : q * 78 + y * 6 + r < 468 := by omega
  have key : ((List.range 468).all fun i => xB J x (i / 78) (i / 6 % 13) (i % 6)) = true := by
    rcases hJ with rfl | rfl
    · match x, hx with
      | 0, _ => exact aLV
      | 1, _ => exact aLW
      | 2, _ => exact aLX
      | 3, _ => exact aLY
      | 4, _ => exact aLZ
      | 5, _ => exact aL0
      | 6, _ => exact aL1
      | 7, _ => exact aL2
      | 8, _ => exact aL3
      | 9, _ => exact aL4
      | 10, _ => exact aEV
      | 11, _ => exact aEW
      | 12, _ => exact aEX
      | n + 13, h => omega
    · match x, hx with
      | 0, _ => exact aL5
      | 1, _ => exact aL6
      | 2, _ => exact aL7
      | 3, _ => exact aL8
      | 4, _ => exact aL9
      | 5, _ => exact aMA
      | 6, _ => exact aMB
      | 7, _ => exact aMC
      | 8, _ => exact aMD
      | 9, _ => exact aME
      | 10, _ => exact aEY
      | 11, _ => exact aEZ
      | 12, _ => exact aE0
      | n + 13, h => omega
  have := bQ key hi
  rwa [show (q * 78 + y * 6 + r) / 78 = q by omega, show (q * 78 + y * 6 + r) / 6 % 13 = y by omega, show (q * 78 + y * 6 + r) % 6 = r by omega] at this
section
variable {J x q y r : Nat} (hJ : J < 24) (hx : x < 13) (hq : q < 6) (hy : y < 13) (hr : r < 6)
include hJ hx hq hy hr
theorem a1V : GT' J x q * GT' J y r ≤ cN J 10 * cN J 10 ∨ aXH J x q y r = true := by
  by_cases h3 : 3 ≤ J
  · left
    have hJ' : J < 32 := by omega
    have hs := (abT hJ').s h3
    obtain ⟨-, p1, p2⟩ := pcv hJ' hx hq
    obtain ⟨-, p3, p4⟩ := pcv hJ' hy hr
    rw [hs] at p2 p4
    have i1 := aF (show 0 ≤ GT' J x q by grind) (show 0 ≤ cN J 10 - GT' J y r by grind)
    have i2 := aF (show 0 ≤ cN J 10 by grind) (show 0 ≤ cN J 10 - GT' J x q by grind)
    grind
  · have hb : xB J x q y r = true := by
      by_cases h0 : J = 0
      · subst h0; exact a00 x hx q hq y hy r hr
      · exact aX4 J (by omega) x hx q hq y hy r hr
    unfold xB at hb
    cases hd : decide (GT' J x q * GT' J y r ≤ cN J 10 * cN J 10) with
    | true => exact .inl (of_decide_eq_true hd)
    | false => rw [hd] at hb; exact .inr hb
structure Wf (k : Nat) (w : W4) : Prop where
  fa : cfB (w.ar, w.ai) = true
  fb : cfB (w.br, w.bi) = true
  pa : pwB w.ar w.ai = true
  pb : pwB w.br w.bi = true
  ft : iH (thW k w) = true
  fr : iH (bkW w) = true
omit hJ hx hq hy hr in
theorem Wd.f {k : Nat} {w : W4} (h : Wd k w) : Wf k w := ⟨h.fa, h.fb, h.pa, h.pb, h.ft, h.fr⟩
def aX5 (k : Nat) (w : W4) : Prop := gtD (r8G (fop .add .f32 (thW k w) (bkW w)) 1065353216) 4562254508917369340 = false
def aTS (k : Nat) (w : W4) : Prop := ltD (r8G (fop .add .f32 (thW k w) (bkW w)) 1065353216) 4576918229304087675 = true
structure N3 (J x q y r : Nat) : Prop where
  one : aX5 (kW J) (A2 J x q y r)
  gT : gtD (r8G (thW (kW J) (A2 J x q y r)) (thW (kW J) (A2 J y r x q))) 4562254508917369340 = false
  gR : gtD (r8G (bkW (A2 J x q y r)) (bkW (A2 J y r x q))) 4562254508917369340 = false
  rep : aTS (kW J) (A2 J x q y r)
  wf : Wf (kW J) (R2 J x q y r (q + r + 1))
  rep2 : aTS (kW J) (R2 J x q y r (q + r + 1))
omit hJ hx hq hy hr in
theorem a01 {w : W4} {v : Q4} (h : Has w v) (hv : uU v) : pwB w.ar w.ai = true ∧ pwB w.br w.bi = true := by
  have h1 := hv.hi
  have a := ZC v
  have b := O5 v
  rw [ax3] at h1
  have ha : v.ar * v.ar + v.ai * v.ai ≤ tw 40 := by show sqA v ≤ tw 40; grind
  have hb : v.br * v.br + v.bi * v.bi ≤ tw 40 := by show sqB v ≤ tw 40; grind
  exact ⟨JQ (ax4 h.ar h.ai ha).1, JQ (ax4 h.br h.bi hb).1⟩
theorem a02 : N3 J x q y r := by
  have hJ' : J < 32 := by omega
  rcases a1V hJ hx hq hy hr with hG | hE
  · have o := aXG hJ' hx hq hy hr hG
    have t := abT hJ'
    have o2 := aZA hJ hx hq hy hr (g := q + r + 1) (by omega) hG
    obtain ⟨g1, g2⟩ := aY8 hJ' hx hq hy hr hG
    have e1 := t.h
    exact ⟨o.one t.h, g1, g2, o.rep (by grind), o2.wd.f, o2.rep Rat.le_refl⟩
  · unfold aXH at hE
    rw [am8, am8, am8] at hE
    unfold aUK at hE
    simp only [ZV, Bool.and_eq_true, Bool.not_eq_true'] at hE
    obtain ⟨e1, e2, e3, e4, e5, e6, e7⟩ := hE
    obtain ⟨-, v, h1, h2⟩ := aY9 hJ hx hq hy hr (g := q + r + 1) (by omega)
    obtain ⟨p1, p2⟩ := a01 h1 h2
    exact ⟨e1, e2, e3, e4, ⟨h1.fin.1, h1.fin.2, p1, p2, e5, e6⟩, e7⟩
end
structure HxJ (J x : Nat) : Prop where
  q : wvQ (eT J) (hW x) = true
  v : wvV (eT J) (hW x) = zT J x
  c : cfB (zT J x) = true
  l : ltB (hW x) (eT J) = true → (FloatKind.f32.format.order (zT J x).2 0 != some .eq) = false ∧ gtD (r8G (fop .mul .f32 (zT J x).1 (zT J x).1) (fop .sub .f32 (eT J) (hW x))) 4562254508917369340 = false
  g : gtB (hW x) (eT J) = true → (FloatKind.f32.format.order (zT J x).1 0 != some .eq) = false ∧ gtD (r8G (fop .mul .f32 (zT J x).2 (zT J x).2) (fop .sub .f32 (hW x) (eT J))) 4562254508917369340 = false
theorem azW {J x : Nat} (hJ : J < 32) (hx : x < 13) : HxJ J x := by
  have h := bQ aWO (i := J * 13 + x) (by omega)
  rw [show (J * 13 + x) / 13 = J by omega, show (J * 13 + x) % 13 = x by omega] at h
  unfold hxB at h
  simp only [Bool.and_eq_true, Bool.or_eq_true, Bool.not_eq_true', beq_iff_eq] at h
  obtain ⟨⟨h1, h2, h3⟩, h4, h5⟩ := h
  refine ⟨h1, h2, h3, fun hl => ?_, fun hg => ?_⟩
  · rcases h4 with h4 | h4
    · rw [hl] at h4; cases h4
    · exact h4
  · rcases h5 with h5 | h5
    · rw [hg] at h5; cases h5
    · exact h5
theorem aX6 {x : Nat} (hx : x < 13) : iH (hW x) = true ∧ hW x < 4294967296 ∧ (FloatKind.f32.format.order (hW x) (hW x) != some .eq) = false := by
  have h := bQ aY2 hx
  simp only [Bool.and_eq_true, Bool.not_eq_true', decide_eq_true_eq] at h
  exact h
theorem awJ {xs : List Nat} (h : ∀ x ∈ xs, x < 13) : (xs.map hW).all iH = true ∧ w32 (xs.map hW) = true := by
  unfold w32
  rw [List.all_eq_true, List.all_eq_true]
  refine ⟨fun y hy => ?_, fun y hy => ?_⟩
  · obtain ⟨x, h1, rfl⟩ := List.mem_map.mp hy
    exact (aX6 (h x h1)).1
  · obtain ⟨x, h1, rfl⟩ := List.mem_map.mp hy
    exact decide_eq_true (aX6 (h x h1)).2.1
theorem aMF {J : Nat} (hJ : J < 32) {xs : List Nat} (h : ∀ x ∈ xs, x < 13) : wvL (eT J) (xs.map hW) = xs.map (zT J) ∧ (xs.map hW).all (wvQ (eT J)) = true ∧ (xs.map (zT J)).all cfB = true := by
  refine ⟨?_, ?_, ?_⟩
  · unfold wvL
    rw [List.map_map]
    exact List.map_congr_left fun x hx => (azW hJ (h x hx)).v
  · rw [List.all_eq_true]
    intro y hy
    obtain ⟨x, h1, rfl⟩ := List.mem_map.mp hy
    exact (azW hJ (h x h1)).q
  · rw [List.all_eq_true]
    intro y hy
    obtain ⟨x, h1, rfl⟩ := List.mem_map.mp hy
    exact (azW hJ (h x h1)).c
theorem aMG {l : List Nat} (h : okE l = true) : l.all iH = true ∧ aAH l = true ∧ w32 l = true := by
  unfold okE at h
  simp only [Bool.and_eq_true] at h
  exact h
theorem a03 {x0 xs : List Nat} (h : okE x0 = true) (hl : xs.length = x0.length + 1) (hn : x0.length < 12) (hx : ∀ x ∈ xs, x < 13) : vsB x0 (xs.map hW) = true := by
  obtain ⟨h1, h2, h3⟩ := aMG h
  unfold vsB
  rw [h1, h2, (awJ hx).1, decide_eq_true hn, decide_eq_true (show (xs.map hW).length = x0.length + 1 by rw [List.length_map]; exact hl)]
  rfl
theorem IV {α β : Type} (f : α → β) (xs : List α) (a : α) (b : β) {i : Nat} (hi : i < xs.length) : (xs.map f).getD i b = f (xs.getD i a) := by
  simp [List.getD_eq_getElem?_getD, hi]
theorem awK {xs : List Nat} {i : Nat} (hi : i < xs.length) : xs.getD i 0 ∈ xs := by
  rw [List.getD_eq_getElem?_getD, List.getElem?_eq_getElem hi, Option.getD_some]
  exact List.getElem_mem hi
structure Am (J : Nat) (x0 xs : List Nat) (w : W4) : Prop where
  ok : okE x0 = true
  n : xs.length = x0.length + 1
  m : 1 ≤ x0.length ∧ x0.length < 12
  hx : ∀ x ∈ xs, x < 13
  f : xs.getD 0 0 = 4
  g : xs.getD (xs.length - 1) 0 = 4
  w : amW (xs.map (zT J)) x0 x0.length oP = w
  b : amB (xs.map (zT J)) x0 x0.length oP = true
theorem Am.vs {J : Nat} {x0 xs : List Nat} {w : W4} (h : Am J x0 xs w) : vsB x0 (xs.map hW) = true := a03 h.ok h.n h.m.2 h.hx
theorem Am.ss {J : Nat} {x0 xs : List Nat} {w : W4} (hJ : J < 32) (h : Am J x0 xs w) (d : Wf (kW J) w) : uC x0 (xs.map hW) (eT J) = true ∧ waW x0 (xs.map hW) (eT J) = w ∧ ssT x0 (xs.map hW) (eT J) = thW (kW J) w ∧ ssR x0 (xs.map hW) (eT J) = bkW w := by
  obtain ⟨v1, v2, v3⟩ := aMF hJ h.hx
  have hn := h.n
  have hw : waW x0 (xs.map hW) (eT J) = w := by unfold waW; rw [v1]; exact h.w
  have hz : (zT J 4).1 = kW J := by rw [I4]; rfl
  have hF : ssF (xs.map hW) (eT J) = kW J := by
    unfold ssF
    rw [v1, IV (zT J) xs 0 zz (show 0 < xs.length by omega), h.f, hz]
  have hG : ssG (xs.map hW) (eT J) = kW J := by
    unfold ssG
    rw [v1, List.length_map, IV (zT J) xs 0 zz (show xs.length - 1 < xs.length by omega), h.g, hz]
  have hT : ssT x0 (xs.map hW) (eT J) = thW (kW J) w := by unfold ssT; rw [hF, hG, hw]; rfl
  have hR : ssR x0 (xs.map hW) (eT J) = bkW w := by unfold ssR; rw [hw]
  refine ⟨?_, hw, hT, hR⟩
  have hwn : OC x0 (xs.map hW) (eT J) = true := by
    unfold OC
    rw [h.vs, bQ am7.1 hJ, v2, v1, v3]
    rfl
  have hwa : ZI x0 (xs.map hW) (eT J) = true := by
    unfold ZI
    rw [hw, hwn, v1, h.b, d.fa, d.fb]
    rfl
  unfold uC
  rw [hwa, hF, hG, hw, hT, hR, d.pa, d.pb, d.ft, d.fr, (aUL (i := J) (by omega)).2]
  rfl
theorem pcw {J x q d : Nat} (hJ : J < 32) (hx : x < 13) (hq : q < 6) (hd : d = wW q) : PcW (rT J x) (pT J x q) (zT J x) d := ⟨rfl, (aUM hJ hx hq hd).1, (aUM hJ hx hq hd).2⟩
theorem pgw {J g d : Nat} (hJ : J < 24) (hg : g < 12) (hd : d = wW g) : PcW (rO J) (pcT true J g) (zT J 4) d := ⟨I4 J, (aUN hJ hg hd).1, (aUN hJ hg hd).2⟩
theorem in3 {x y : Nat} (hx : x < 13) (hy : y < 13) {l : List Nat} (hl : ∀ z ∈ l, z = 4 ∨ z = x ∨ z = y) : ∀ z ∈ l, z < 13 := fun z hz => by
  rcases hl z hz with h | h | h <;> omega
theorem am1 {J x q : Nat} {x0 : List Nat} (hJ : J < 32) (hx : x < 13) (hq : q < 6) (ok : okE x0 = true) (hl : x0.length = 2) (h0 : sd x0 0 = wW q) : Am J x0 [4, x, 4] (A1 J x q) := by
  have hc := (out1 hJ hx hq).1
  have hr := agE (L := [4, x, 4].map (zT J)) (l := x0) (O := rO J) (I4 J) [(rT J x, pT J x q)] (rO J) 1 oP rfl (I4 J) (fun i p hp => by
    match i, hp with
    | 0, hp => cases hp; exact pcw hJ hx hq h0
    | i + 1, hp => simp at hp) hc
  refine ⟨ok, by rw [hl]; rfl, by omega, in3 hx hx (fun z hz => by simp at hz; omega), rfl, rfl, ?_, ?_⟩
  · rw [hl]; exact hr.1
  · rw [hl]; exact hr.2
theorem a04 {J x q y r : Nat} {x0 : List Nat} (hJ : J < 32) (hx : x < 13) (hq : q < 6) (hy : y < 13) (hr : r < 6) (ok : okE x0 = true) (hl : x0.length = 3) (h0 : sd x0 0 = wW q) (h1 : sd x0 1 = wW r) : Am J x0 [4, x, y, 4] (A2 J x q y r) := by
  have hc := (azU hJ hx hq hy hr).1
  have hr := agE (L := [4, x, y, 4].map (zT J)) (l := x0) (O := rO J) (I4 J) [(rT J y, pT J y r), (rT J x, pT J x q)] (rO J) 2 oP rfl (I4 J) (fun i p hp => by
    match i, hp with
    | 0, hp => cases hp; exact pcw hJ hy hr h1
    | 1, hp => cases hp; exact pcw hJ hx hq h0
    | i + 2, hp => simp at hp) hc
  refine ⟨ok, by rw [hl]; rfl, by omega, in3 hx hy (fun z hz => by simp at hz; omega), rfl, rfl, ?_, ?_⟩
  · rw [hl]; exact hr.1
  · rw [hl]; exact hr.2
theorem am3 {J x q g : Nat} {x0 : List Nat} (hJ : J < 24) (hx : x < 13) (hq : q < 6) (hg : g < 12) (ok : okE x0 = true) (hl : x0.length = 4) (h0 : sd x0 0 = wW q) (h1 : sd x0 1 = wW g) (h2 : sd x0 2 = wW q) : Am J x0 [4, x, 4, x, 4] (R1 J x q g) := by
  have hJ' : J < 32 := by omega
  have hc := (aUJ hJ hx hq hg).1
  have hr := agE (L := [4, x, 4, x, 4].map (zT J)) (l := x0) (O := rO J) (I4 J) [(rT J x, pT J x q), (rO J, pcT true J g), (rT J x, pT J x q)] (rO J) 3 oP rfl (I4 J) (fun i p hp => by
    match i, hp with
    | 0, hp => cases hp; exact pcw hJ' hx hq h2
    | 1, hp => cases hp; exact pgw hJ hg h1
    | 2, hp => cases hp; exact pcw hJ' hx hq h0
    | i + 3, hp => simp at hp) hc
  refine ⟨ok, by rw [hl]; rfl, by omega, in3 hx hx (fun z hz => by simp at hz; omega), rfl, rfl, ?_, ?_⟩
  · rw [hl]; exact hr.1
  · rw [hl]; exact hr.2
theorem am5 {J x q y r g : Nat} {x0 : List Nat} (hJ : J < 24) (hx : x < 13) (hq : q < 6) (hy : y < 13) (hr : r < 6) (hg : g < 12) (ok : okE x0 = true) (hl : x0.length = 6) (h0 : sd x0 0 = wW q) (h1 : sd x0 1 = wW r) (h2 : sd x0 2 = wW g) (h3 : sd x0 3 = wW q) (h4 : sd x0 4 = wW r) : Am J x0 [4, x, y, 4, x, y, 4] (R2 J x q y r g) := by
  have hJ' : J < 32 := by omega
  have hc := (aY9 hJ hx hq hy hr hg).1
  have hr := agE (L := [4, x, y, 4, x, y, 4].map (zT J)) (l := x0) (O := rO J) (I4 J) [(rT J y, pT J y r), (rT J x, pT J x q), (rO J, pcT true J g), (rT J y, pT J y r), (rT J x, pT J x q)] (rO J) 5 oP rfl (I4 J) (fun i p hp => by
    match i, hp with
    | 0, hp => cases hp; exact pcw hJ' hy hr h4
    | 1, hp => cases hp; exact pcw hJ' hx hq h3
    | 2, hp => cases hp; exact pgw hJ hg h2
    | 3, hp => cases hp; exact pcw hJ' hy hr h1
    | 4, hp => cases hp; exact pcw hJ' hx hq h0
    | i + 5, hp => simp at hp) hc
  refine ⟨ok, by rw [hl]; rfl, by omega, in3 hx hy (fun z hz => by simp at hz; omega), rfl, rfl, ?_, ?_⟩
  · rw [hl]; exact hr.1
  · rw [hl]; exact hr.2
def A0 (J : Nat) : W4 := chW (rO J) (rO J) [] oP
def z1B (J : Nat) : Bool := frW (A0 J) fun w => frc (thW (kW J) w) fun T => frc (bkW w) fun R => yY (zT J 4) (zT J 4) oP && (cfB (w.ar, w.ai) && (cfB (w.br, w.bi) && (pwB w.ar w.ai && (pwB w.br w.bi && (iH T && (iH R && (!ltB T 0 && (!ltB R 0 && (!gtD (r8G (pwN w.br w.bi) (fop .mul .f32 R (pwN w.ar w.ai))) (fop .mul .f64 4562254508917369340 (up (fop .add .f32 1065353216 (pwN w.ar w.ai)))) && (!gtD (r8G (fop .add .f32 T R) 1065353216) 4562254508917369340 && (!gtD (r8G T T) 4562254508917369340 && !gtD (r8G R R) 4562254508917369340)))))))))))
theorem aX7 : ((List.range 32).all z1B) = true := by kernel_rfl
theorem aUO {x : Nat} (h : iH x = true) : ∃ r, V32 x r := by
  obtain ⟨s, m, i, hs⟩ := arP h
  exact ⟨_, s, m, i, hs, rfl⟩
theorem aMH {x : Nat} (h : iH x = true) : (FloatKind.f32.format.order x x != some .eq) = false := by
  obtain ⟨r, hr⟩ := aUO h
  have : FloatKind.f32.format.order x x = _ := yV hr hr
  rw [this, if_neg (by grind), if_pos rfl]
  rfl
theorem agF {l0 l1 : List Nat} {a b : Nat} {τ : Nat → Rat} (hτ : ∀ i, i < 5 → V32 (ssT l0 l1 (eG5 a b i)) (τ i)) : ∀ t i best most M, i + t ≤ 5 → V32 most M →
    ∃ M', V32 (btR l0 l1 a b t i best most).2 M' ∧ M ≤ M' ∧ (∀ j, i ≤ j → j < i + t → τ j ≤ M') ∧ ((btR l0 l1 a b t i best most).1 = best ∨ ∃ j, i ≤ j ∧ j < i + t ∧ (btR l0 l1 a b t i best most).1 = eG5 a b j)
  | 0, i, best, most, M, hi, hm => ⟨M, hm, Rat.le_refl, fun j h1 h2 => by omega, .inl rfl⟩
  | t + 1, i, best, most, M, hi, hm => by
    have h1 := hτ i (by omega)
    have hg := aUB h1 hm
    unfold btR
    rw [hg]
    cases hd : decide (M < τ i) with
    | true =>
      have hlt := of_decide_eq_true hd
      obtain ⟨M', m1, m2, m3, m4⟩ := agF hτ t (i + 1) (eG5 a b i) (ssT l0 l1 (eG5 a b i)) (τ i) (by omega) h1
      refine ⟨M', m1, by grind, fun j j1 j2 => ?_, ?_⟩
      · by_cases e : j = i
        · subst e; exact m2
        · exact m3 j (by omega) (by omega)
      · right
        rcases m4 with m4 | ⟨j, j1, j2, j3⟩
        · exact ⟨i, Nat.le_refl _, by omega, m4⟩
        · exact ⟨j, by omega, by omega, j3⟩
    | false =>
      have hge := of_decide_eq_false hd
      obtain ⟨M', m1, m2, m3, m4⟩ := agF hτ t (i + 1) best most M (by omega) hm
      refine ⟨M', m1, m2, fun j j1 j2 => ?_, ?_⟩
      · by_cases e : j = i
        · subst e; grind
        · exact m3 j (by omega) (by omega)
      · rcases m4 with m4 | ⟨j, j1, j2, j3⟩
        · exact .inl m4
        · exact .inr ⟨j, by omega, by omega, j3⟩
theorem aX8 : V32 3212836864 (-1) := ⟨true, 8388608, -23, by decide +kernel, by decide +kernel⟩
theorem a05 (l0 l1 : List Nat) (a b t i best most : Nat) : btR l0 l1 a b (t + 1) i best most = (match gtB (ssT l0 l1 (eG5 a b i)) most with
    | true => btR l0 l1 a b t (i + 1) (eG5 a b i) (ssT l0 l1 (eG5 a b i))
    | false => btR l0 l1 a b t (i + 1) best most) := by
  kernel_rfl
theorem aTT {α : Type} {c : Bool} (h : c = true) (x y : α) : (match (generalizing := false) c with | true => x | false => y) = x := by subst h; rfl
theorem aTU {l0 l1 : List Nat} {a b : Nat} (h : gtB (ssT l0 l1 (eG5 a b 0)) 3212836864 = true) : btV l0 l1 a b = btR l0 l1 a b 4 1 (eG5 a b 0) (ssT l0 l1 (eG5 a b 0)) :=
  (a05 l0 l1 a b 4 0 0 3212836864).trans (aTT h _ _)
theorem aMI {l0 l1 : List Nat} {a b : Nat} (hf : ∀ i, i < 5 → iH (ssT l0 l1 (eG5 a b i)) = true) (h0 : ltB (ssT l0 l1 (eG5 a b 0)) 0 = false) :
    (∀ j, j < 5 → ltB (btV l0 l1 a b).2 (ssT l0 l1 (eG5 a b j)) = false) ∧ ∃ j, j < 5 ∧ (btV l0 l1 a b).1 = eG5 a b j := by
  have hex : ∃ τ : Nat → Rat, ∀ i, i < 5 → V32 (ssT l0 l1 (eG5 a b i)) (τ i) := ⟨fun i => val (ssT l0 l1 (eG5 a b i)), fun i hi => by
    obtain ⟨r, hr⟩ := aUO (hf i hi)
    exact aYP hr⟩
  obtain ⟨τ, hτ⟩ := hex
  have t0 : 0 ≤ τ 0 := by
    rw [axT (hτ 0 (by decide)) v0] at h0
    have := of_decide_eq_false h0
    grind
  have hb : btV l0 l1 a b = btR l0 l1 a b 4 1 (eG5 a b 0) (ssT l0 l1 (eG5 a b 0)) := aTU (by rw [aUB (hτ 0 (by decide)) aX8, decide_eq_true (show -1 < τ 0 by grind)])
  obtain ⟨M, m1, m2, m3, m4⟩ := agF hτ 4 1 (eG5 a b 0) _ (τ 0) (by decide) (hτ 0 (by decide))
  rw [hb]
  refine ⟨fun j hj => ?_, ?_⟩
  · rw [axT m1 (hτ j hj), decide_eq_false]
    by_cases e : j = 0
    · subst e; grind
    · have := m3 j (by omega) (by omega)
      grind
  · rcases m4 with m4 | ⟨j, j1, j2, j3⟩
    · exact ⟨0, by decide, m4⟩
    · exact ⟨j, by omega, j3⟩
structure EnE (J : Nat) : Prop where
  e2 : e2W (eT J) = eT (J + 8)
  g : ∀ i, i < 5 → eG5 (eT J) (eT (J + 8)) i = eT (J + 2 * i)
  l : ∀ i, i < 5 → ltB (eT (J + 2 * i)) (eT J) = false
  u : ∀ i, i < 5 → gtB (eT (J + 2 * i)) (eT (J + 8)) = false
theorem a06 {J : Nat} (hJ : J < 24) : EnE J := by
  have h := bQ aWQ hJ
  simp only [Bool.and_eq_true, beq_iff_eq] at h
  have k : ∀ i, i < 5 → eG5 (eT J) (eT (J + 8)) i = eT (J + 2 * i) ∧ ltB (eT (J + 2 * i)) (eT J) = false ∧ gtB (eT (J + 2 * i)) (eT (J + 8)) = false := fun i hi => by
    have := bQ h.2 hi
    simp only [Bool.and_eq_true, beq_iff_eq, Bool.not_eq_true'] at this
    exact this
  exact ⟨h.1, fun i hi => (k i hi).1, fun i hi => (k i hi).2.1, fun i hi => (k i hi).2.2⟩
structure EdW (x0 ws : List Nat) : Prop where
  ok : okE x0 = true
  ok' : okE (tE x0) = true
  eq : tE (tE x0) = x0
  w : ∀ i, i < ws.length → sd x0 i = wW (ws.getD i 0)
  w' : ∀ i, i < ws.reverse.length → sd (tE x0) i = wW (ws.reverse.getD i 0)
  ha : ∀ j, j < x0.length → haI x0 (x0.getD j 0) = j + 1
theorem aX9 {l ws : List Nat} (h : wdB l ws = true) : ∀ i, i < ws.length → sd l i = wW (ws.getD i 0) := fun i hi => by
  have := bQ h hi
  simpa using this
theorem aMJ {x0 ws : List Nat} (h : edB x0 ws = true) : EdW x0 ws := by
  unfold edB at h
  simp only [Bool.and_eq_true, decide_eq_true_eq] at h
  obtain ⟨⟨h1, h2⟩, h3, ⟨h4, h5⟩, h6⟩ := h
  exact ⟨h1, h2, h3, aX9 h4, aX9 h5, fun j hj => by simpa using bQ h6 hj⟩
structure ReW (x0 ws : List Nat) (g : Nat) : Prop where
  pos : agJ (rpG x0) = true
  ok : okE (jE x0 x0 (rpG x0)) = true
  w : ∀ i, i < (ws ++ g :: ws).length → sd (jE x0 x0 (rpG x0)) i = wW ((ws ++ g :: ws).getD i 0)
theorem aUP {x0 ws : List Nat} {g : Nat} (h : reB x0 ws g = true) : ReW x0 ws g := by
  unfold reB at h
  simp only [Bool.and_eq_true] at h
  exact ⟨h.1, h.2.1, aX9 h.2.2⟩
theorem aMK {J : Nat} {x0 xs ws : List Nat} {w w2 : W4} {g : Nat} {t : Int} (hJ : J < 32) (hn : 2 ≤ x0.length ∧ x0.length ≤ 3) (am : Am J x0 xs w) (wf : Wf (kW J) w) (rp : aTS (kW J) w) (re : ReW x0 ws g) (am2 : Am J (jE x0 x0 (rpG x0)) (xs ++ xs.drop 1) w2) (wf2 : Wf (kW J) w2) (rp2 : aTS (kW J) w2) (ht : t = 1 ∨ t = 2) :
    tX x0 (xs.map hW) t = true ∧ ((rpE x0 (xs.map hW) t).length < 1000 ∧ (rpM x0 (xs.map hW) t).length < 1000) ∧ uC (rpE x0 (xs.map hW) t) (rpM x0 (xs.map hW) t) (eT J) = true ∧ (((rpE x0 (xs.map hW) t).length : Nat) : Int) = ((x0.length : Nat) : Int) * t ∧ ltD (r8G (fop .add .f32 (ssT (rpE x0 (xs.map hW) t) (rpM x0 (xs.map hW) t) (eT J)) (ssR (rpE x0 (xs.map hW) t) (rpM x0 (xs.map hW) t) (eT J))) 1065353216) 4576918229304087675 = true := by
  have hxn := am.n
  have f0 : (xs.map hW).getD 0 0 = hW 4 := by rw [IV hW xs 0 0 (by omega), am.f]
  have fl : (xs.map hW).getD ((xs.map hW).length - 1) 0 = hW 4 := by rw [List.length_map, IV hW xs 0 0 (by omega), am.g]
  have fn : (xs.map hW).getD x0.length 0 = hW 4 := by
    have := fl
    rw [List.length_map, hxn, Nat.add_sub_cancel] at this
    exact this
  have sNN : sN (hW 4) (hW 4) = true := by unfold sN; exact beq_self_eq_true _
  have hM : jM (xs.map hW) (xs.map hW) = (xs ++ xs.drop 1).map hW := by unfold jM; rw [List.map_append, List.map_drop]
  rcases ht with rfl | rfl
  · have hr : rpR x0 (xs.map hW) 1 = some (x0, xs.map hW) := rfl
    have hE : rpE x0 (xs.map hW) 1 = x0 := by unfold rpE; rw [hr]; rfl
    have hMM : rpM x0 (xs.map hW) 1 = xs.map hW := by unfold rpM; rw [hr]; rfl
    obtain ⟨s1, s2, s3, s4⟩ := am.ss hJ wf
    rw [hE, hMM, s3, s4]
    refine ⟨?_, ⟨by omega, by rw [List.length_map]; omega⟩, s1, by omega, rp⟩
    unfold tX
    rw [am.vs, hr, f0, fl, sNN, decide_eq_true (show 1 ≤ x0.length by omega)]
    rfl
  · have hj : jOk x0 (xs.map hW) x0 (xs.map hW) (rpG x0) = true := by
      unfold jOk
      rw [re.pos, f0, fn, sNN, hM, am2.vs]
      rfl
    have hr : rpR x0 (xs.map hW) 2 = some (jE x0 x0 (rpG x0), (xs ++ xs.drop 1).map hW) := by
      show rpN x0 (xs.map hW) (rpG x0) 1 x0 (xs.map hW) = _
      simp only [rpN, hj, hM]
    have hE : rpE x0 (xs.map hW) 2 = jE x0 x0 (rpG x0) := by unfold rpE; rw [hr]; rfl
    have hMM : rpM x0 (xs.map hW) 2 = (xs ++ xs.drop 1).map hW := by unfold rpM; rw [hr]; rfl
    obtain ⟨s1, s2, s3, s4⟩ := am2.ss hJ wf2
    have hlen : (jE x0 x0 (rpG x0)).length = x0.length + x0.length := by unfold jE; rw [List.length_append, List.length_map]
    rw [hE, hMM, s3, s4]
    refine ⟨?_, ⟨by omega, by rw [List.length_map, List.length_append, List.length_drop]; omega⟩, s1, by omega, rp2⟩
    unfold tX
    rw [am.vs, hr, f0, fl, sNN, decide_eq_true (show 1 ≤ x0.length by omega)]
    rfl
theorem aML {J : Nat} {x0 xs ws : List Nat} {w : Nat → W4} {w' : W4} {q t : Int} (hJ : J < 24) (n3 : x0.length = 1 ∨ x0.length = 2 ∨ x0.length = 3) (ed : EdW x0 ws)
    (am : ∀ K, K < 32 → Am K x0 xs (w K)) (wd : ∀ K, K < 32 → Wd (kW K) (w K)) (am' : Am J (tE x0) xs.reverse w') (wf' : Wf (kW J) w') (one : aX5 (kW J) (w J))
    (gT : gtD (r8G (thW (kW J) (w J)) (thW (kW J) w')) 4562254508917369340 = false) (gR : gtD (r8G (bkW (w J)) (bkW w')) 4562254508917369340 = false) (hq : ∃ j : Nat, j < 8 ∧ q = 1 + (j : Int)) (ht : t = 1 ∨ t = 2)
    (rep1 : x0.length = 1 → tX x0 (xs.map hW) t = true → t = 1)
    (rep : x0.length ≠ 1 → tX x0 (xs.map hW) t = true ∧ ((rpE x0 (xs.map hW) t).length < 1000 ∧ (rpM x0 (xs.map hW) t).length < 1000) ∧ uC (rpE x0 (xs.map hW) t) (rpM x0 (xs.map hW) t) (eT J) = true ∧ (((rpE x0 (xs.map hW) t).length : Nat) : Int) = ((x0.length : Nat) : Int) * t ∧ ltD (r8G (fop .add .f32 (ssT (rpE x0 (xs.map hW) t) (rpM x0 (xs.map hW) t) (eT J)) (ssR (rpE x0 (xs.map hW) t) (rpM x0 (xs.map hW) t) (eT J))) 1065353216) 4576918229304087675 = true) :
    TF x0 (xs.map hW) ((x0.length : Nat) : Int) (eT J) q t := by
  have hJ' : J < 32 := by omega
  have a := am J hJ'
  have d := wd J hJ'
  have hn := a.n
  obtain ⟨s1, s2, s3, s4⟩ := a.ss hJ' d.f
  obtain ⟨u1, u2, u3, u4⟩ := am'.ss hJ' wf'
  have hrev : (xs.map hW).reverse = xs.reverse.map hW := List.map_reverse.symm
  have ee := a06 hJ
  obtain ⟨v1, v2, v3⟩ := aMF hJ' a.hx
  have hss : ∀ i, i < 5 → uC x0 (xs.map hW) (eG5 (eT J) (eT (J + 8)) i) = true ∧ iH (ssT x0 (xs.map hW) (eG5 (eT J) (eT (J + 8)) i)) = true := fun i hi => by
    rw [ee.g i hi]
    have hK : J + 2 * i < 32 := by omega
    obtain ⟨x1, x2, x3, x4⟩ := (am _ hK).ss hK (wd _ hK).f
    exact ⟨x1, by rw [x3]; exact (wd _ hK).ft⟩
  have e0 : eG5 (eT J) (eT (J + 8)) 0 = eT J := ee.g 0 (by decide)
  have e4 : eG5 (eT J) (eT (J + 8)) 4 = eT (J + 8) := ee.g 4 (by decide)
  have ht0 : ltB (ssT x0 (xs.map hW) (eT J)) 0 = false := by rw [s3]; exact d.t0
  obtain ⟨b1, j, hj, b2⟩ := aMI (l0 := x0) (l1 := xs.map hW) (a := eT J) (b := eT (J + 8)) (fun i hi => (hss i hi).2) (by rw [e0]; exact ht0)
  have ts : vsB (tE x0) (xs.map hW).reverse = true := by rw [hrev]; exact am'.vs
  have hl3 : decide (1 ≤ x0.length ∧ x0.length ≤ 3) = true := decide_eq_true (by omega)
  refine
    { n3 := by omega, l0 := rfl, l1 := by rw [List.length_map]; exact hn, ss := s1
      ts := by unfold ab1; rw [hl3, a.vs, ts]; rfl
      ss' := by rw [hrev]; exact u1
      ts' := by unfold ab1; rw [QP, hl3, ts, ed.eq, List.reverse_reverse, a.vs]; rfl
      eq0 := by unfold I7; rw [ed.eq, decide_eq_true rfl, (aMG ed.ok).2.2]; rfl
      eq1 := by unfold I7; rw [List.reverse_reverse, decide_eq_true rfl, (awJ a.hx).2]; rfl
      t0 := ht0, r0 := by rw [s4]; exact d.r0
      one := by rw [s3, s4]; exact one
      gT := by rw [s3, hrev, u3]; exact gT
      gR := by rw [s4, hrev, u4]; exact gR
      pw := by rw [s2, s4]; exact d.pw
      row := fun i hi => ?_
      sh := ?_, bt := ?_, tt := by rw [s3]; exact aMH d.ft
      b1 := by have := b1 0 (by decide); rw [e0] at this; rw [ee.e2]; exact this
      b2 := by have := b1 4 (by decide); rw [e4] at this; rw [ee.e2]; exact this
      b3 := by rw [ee.e2, b2, ee.g j hj]; exact ee.l j hj
      b4 := by rw [ee.e2, b2, ee.g j hj]; exact ee.u j hj
      w32 := (awJ a.hx).2, t12 := ht
      rep1 := fun h => rep1 (by omega)
      rep := fun h => rep (by omega) }
  · rw [List.length_map] at hi
    have hx := a.hx _ (awK hi)
    have hh := azW hJ' hx
    refine ⟨?_, ?_, fun j hj => ?_⟩
    · rw [v1, IV (zT J) xs 0 zz hi, IV hW xs 0 0 hi]
      exact hh.l
    · rw [v1, IV (zT J) xs 0 zz hi, IV hW xs 0 0 hi]
      exact hh.g
    · have hjl : j < x0.length := by omega
      refine ⟨List.all_eq_true.mp (aMG ed.ok).1 _ (awK hjl), ?_⟩
      rw [ed.ha j hjl, hj, IV hW xs 0 0 (show j + 1 < xs.length by omega)]
      exact (aX6 (a.hx _ (awK (show j + 1 < xs.length by omega)))).2.2
  · obtain ⟨k, hk, rfl⟩ := hq
    unfold agP
    have h8 := (hss 4 (by decide)).1
    rw [e4] at h8
    rw [a.vs, bQ aY3 hk, s1, ee.e2, h8]
    rfl
  · have hb : btB x0 (xs.map hW) (eT J) (eT (J + 8)) = true := by
      unfold btB
      rw [List.all_eq_true]
      intro i hi
      exact (hss i (List.mem_range.mp hi)).1
    have hlt : (gtB (eT J) (eT (J + 8)) || eqB (eT J) (eT (J + 8))) = false := by
      have := bQ am7.2 hJ
      simpa using this
    unfold aCF
    rw [ee.e2, a.vs, bQ am7.1 hJ', bQ am7.1 (show J + 8 < 32 by omega), hlt, hb]
    rfl
theorem aTV : ((List.range 8).all fun i => tzB (eT 0) (1 + ((i : Nat) : Int))) = true := by kernel_rfl
theorem aTW : ((List.range 8).all fun i => tzB (eT 1) (1 + ((i : Nat) : Int))) = true := by kernel_rfl
theorem aTX : ((List.range 8).all fun i => tzB (eT 2) (1 + ((i : Nat) : Int))) = true := by kernel_rfl
theorem aTY : ((List.range 8).all fun i => tzB (eT 3) (1 + ((i : Nat) : Int))) = true := by kernel_rfl
theorem aTZ : ((List.range 8).all fun i => tzB (eT 4) (1 + ((i : Nat) : Int))) = true := by kernel_rfl
theorem aT0 : ((List.range 8).all fun i => tzB (eT 5) (1 + ((i : Nat) : Int))) = true := by kernel_rfl
theorem aT1 : ((List.range 8).all fun i => tzB (eT 6) (1 + ((i : Nat) : Int))) = true := by kernel_rfl
theorem aT2 : ((List.range 8).all fun i => tzB (eT 7) (1 + ((i : Nat) : Int))) = true := by kernel_rfl
theorem aT3 : ((List.range 8).all fun i => tzB (eT 8) (1 + ((i : Nat) : Int))) = true := by kernel_rfl
theorem aT4 : ((List.range 8).all fun i => tzB (eT 9) (1 + ((i : Nat) : Int))) = true := by kernel_rfl
theorem aMM : ((List.range 8).all fun i => tzB (eT 10) (1 + ((i : Nat) : Int))) = true := by kernel_rfl
theorem aMN : ((List.range 8).all fun i => tzB (eT 11) (1 + ((i : Nat) : Int))) = true := by kernel_rfl
theorem aMO : ((List.range 8).all fun i => tzB (eT 12) (1 + ((i : Nat) : Int))) = true := by kernel_rfl
theorem aMP : ((List.range 8).all fun i => tzB (eT 13) (1 + ((i : Nat) : Int))) = true := by kernel_rfl
theorem aMQ : ((List.range 8).all fun i => tzB (eT 14) (1 + ((i : Nat) : Int))) = true := by kernel_rfl
theorem aMR : ((List.range 8).all fun i => tzB (eT 15) (1 + ((i : Nat) : Int))) = true := by kernel_rfl
theorem aMS : ((List.range 8).all fun i => tzB (eT 16) (1 + ((i : Nat) : Int))) = true := by kernel_rfl
theorem aMT : ((List.range 8).all fun i => tzB (eT 17) (1 + ((i : Nat) : Int))) = true := by kernel_rfl
theorem aMU : ((List.range 8).all fun i => tzB (eT 18) (1 + ((i : Nat) : Int))) = true := by kernel_rfl
theorem aMV : ((List.range 8).all fun i => tzB (eT 19) (1 + ((i : Nat) : Int))) = true := by kernel_rfl
theorem aMW : ((List.range 8).all fun i => tzB (eT 20) (1 + ((i : Nat) : Int))) = true := by kernel_rfl
theorem aMX : ((List.range 8).all fun i => tzB (eT 21) (1 + ((i : Nat) : Int))) = true := by kernel_rfl
theorem aMY : ((List.range 8).all fun i => tzB (eT 22) (1 + ((i : Nat) : Int))) = true := by kernel_rfl
theorem aMZ : ((List.range 8).all fun i => tzB (eT 23) (1 + ((i : Nat) : Int))) = true := by kernel_rfl
theorem a07 (J : Nat) (hJ : J < 24) (j : Nat) (hj : j < 8) : tzB (eT J) (1 + ((j : Nat) : Int)) = true := by
  match J, hJ with
  | 0, _ => exact List.all_eq_true.mp aTV j (List.mem_range.mpr hj)
  | 1, _ => exact List.all_eq_true.mp aTW j (List.mem_range.mpr hj)
  | 2, _ => exact List.all_eq_true.mp aTX j (List.mem_range.mpr hj)
  | 3, _ => exact List.all_eq_true.mp aTY j (List.mem_range.mpr hj)
  | 4, _ => exact List.all_eq_true.mp aTZ j (List.mem_range.mpr hj)
  | 5, _ => exact List.all_eq_true.mp aT0 j (List.mem_range.mpr hj)
  | 6, _ => exact List.all_eq_true.mp aT1 j (List.mem_range.mpr hj)
  | 7, _ => exact List.all_eq_true.mp aT2 j (List.mem_range.mpr hj)
  | 8, _ => exact List.all_eq_true.mp aT3 j (List.mem_range.mpr hj)
  | 9, _ => exact List.all_eq_true.mp aT4 j (List.mem_range.mpr hj)
  | 10, _ => exact List.all_eq_true.mp aMM j (List.mem_range.mpr hj)
  | 11, _ => exact List.all_eq_true.mp aMN j (List.mem_range.mpr hj)
  | 12, _ => exact List.all_eq_true.mp aMO j (List.mem_range.mpr hj)
  | 13, _ => exact List.all_eq_true.mp aMP j (List.mem_range.mpr hj)
  | 14, _ => exact List.all_eq_true.mp aMQ j (List.mem_range.mpr hj)
  | 15, _ => exact List.all_eq_true.mp aMR j (List.mem_range.mpr hj)
  | 16, _ => exact List.all_eq_true.mp aMS j (List.mem_range.mpr hj)
  | 17, _ => exact List.all_eq_true.mp aMT j (List.mem_range.mpr hj)
  | 18, _ => exact List.all_eq_true.mp aMU j (List.mem_range.mpr hj)
  | 19, _ => exact List.all_eq_true.mp aMV j (List.mem_range.mpr hj)
  | 20, _ => exact List.all_eq_true.mp aMW j (List.mem_range.mpr hj)
  | 21, _ => exact List.all_eq_true.mp aMX j (List.mem_range.mpr hj)
  | 22, _ => exact List.all_eq_true.mp aMY j (List.mem_range.mpr hj)
  | 23, _ => exact List.all_eq_true.mp aMZ j (List.mem_range.mpr hj)
  | n + 24, h => omega
theorem a08 (a : Nat) (ha : a < 6) (b : Nat) (hb : b < 6) (p : Nat) (hp : p < 9) : (edB (e3 p a b) [a, b] && reB (e3 p a b) [a, b] (a + b + 1)) = true := by
  match a, ha, b, hb with
  | 0, _, 0, _ => exact List.all_eq_true.mp aDD p (List.mem_range.mpr hp)
  | 0, _, 1, _ => exact List.all_eq_true.mp aDE p (List.mem_range.mpr hp)
  | 0, _, 2, _ => exact List.all_eq_true.mp aDF p (List.mem_range.mpr hp)
  | 0, _, 3, _ => exact List.all_eq_true.mp aDG p (List.mem_range.mpr hp)
  | 0, _, 4, _ => exact List.all_eq_true.mp aDH p (List.mem_range.mpr hp)
  | 0, _, 5, _ => exact List.all_eq_true.mp aDI p (List.mem_range.mpr hp)
  | 1, _, 0, _ => exact List.all_eq_true.mp aDJ p (List.mem_range.mpr hp)
  | 1, _, 1, _ => exact List.all_eq_true.mp aDK p (List.mem_range.mpr hp)
  | 1, _, 2, _ => exact List.all_eq_true.mp aDL p (List.mem_range.mpr hp)
  | 1, _, 3, _ => exact List.all_eq_true.mp aDM p (List.mem_range.mpr hp)
  | 1, _, 4, _ => exact List.all_eq_true.mp aDN p (List.mem_range.mpr hp)
  | 1, _, 5, _ => exact List.all_eq_true.mp aDO p (List.mem_range.mpr hp)
  | 2, _, 0, _ => exact List.all_eq_true.mp aDP p (List.mem_range.mpr hp)
  | 2, _, 1, _ => exact List.all_eq_true.mp aDQ p (List.mem_range.mpr hp)
  | 2, _, 2, _ => exact List.all_eq_true.mp aDR p (List.mem_range.mpr hp)
  | 2, _, 3, _ => exact List.all_eq_true.mp aDS p (List.mem_range.mpr hp)
  | 2, _, 4, _ => exact List.all_eq_true.mp aDT p (List.mem_range.mpr hp)
  | 2, _, 5, _ => exact List.all_eq_true.mp aDU p (List.mem_range.mpr hp)
  | 3, _, 0, _ => exact List.all_eq_true.mp aDV p (List.mem_range.mpr hp)
  | 3, _, 1, _ => exact List.all_eq_true.mp aDW p (List.mem_range.mpr hp)
  | 3, _, 2, _ => exact List.all_eq_true.mp aDX p (List.mem_range.mpr hp)
  | 3, _, 3, _ => exact List.all_eq_true.mp aDY p (List.mem_range.mpr hp)
  | 3, _, 4, _ => exact List.all_eq_true.mp aDZ p (List.mem_range.mpr hp)
  | 3, _, 5, _ => exact List.all_eq_true.mp aD0 p (List.mem_range.mpr hp)
  | 4, _, 0, _ => exact List.all_eq_true.mp aD1 p (List.mem_range.mpr hp)
  | 4, _, 1, _ => exact List.all_eq_true.mp aD2 p (List.mem_range.mpr hp)
  | 4, _, 2, _ => exact List.all_eq_true.mp aD3 p (List.mem_range.mpr hp)
  | 4, _, 3, _ => exact List.all_eq_true.mp aD4 p (List.mem_range.mpr hp)
  | 4, _, 4, _ => exact List.all_eq_true.mp aD5 p (List.mem_range.mpr hp)
  | 4, _, 5, _ => exact List.all_eq_true.mp aD6 p (List.mem_range.mpr hp)
  | 5, _, 0, _ => exact List.all_eq_true.mp aD7 p (List.mem_range.mpr hp)
  | 5, _, 1, _ => exact List.all_eq_true.mp aD8 p (List.mem_range.mpr hp)
  | 5, _, 2, _ => exact List.all_eq_true.mp aD9 p (List.mem_range.mpr hp)
  | 5, _, 3, _ => exact List.all_eq_true.mp aEA p (List.mem_range.mpr hp)
  | 5, _, 4, _ => exact List.all_eq_true.mp aEB p (List.mem_range.mpr hp)
  | 5, _, 5, _ => exact List.all_eq_true.mp aEC p (List.mem_range.mpr hp)
  | n + 6, h, _, _ => omega
  | _, _, n + 6, h => omega
structure Z1 (J : Nat) : Prop where
  b : yY (zT J 4) (zT J 4) oP = true
  wd : Wd (kW J) (A0 J)
  one : aX5 (kW J) (A0 J)
  gT : gtD (r8G (thW (kW J) (A0 J)) (thW (kW J) (A0 J))) 4562254508917369340 = false
  gR : gtD (r8G (bkW (A0 J)) (bkW (A0 J))) 4562254508917369340 = false
theorem aM0 {J : Nat} (hJ : J < 32) : Z1 J := by
  have h := bQ aX7 hJ
  unfold z1B at h
  rw [awG] at h
  simp only [ZV, Bool.and_eq_true, Bool.not_eq_true'] at h
  obtain ⟨h1, h2, h3, h4, h5, h6, h7, h8, h9, h10, h11, h12, h13⟩ := h
  exact ⟨h1, ⟨h2, h3, h4, h5, h6, h7, h8, h9, h10⟩, h11, h12, h13⟩
theorem am0 {J : Nat} {x0 : List Nat} (hJ : J < 32) (ok : okE x0 = true) (hl : x0.length = 1) : Am J x0 [4, 4] (A0 J) := by
  have hz := I4 J
  refine ⟨ok, by rw [hl]; rfl, by omega, fun z hz => by simp at hz; omega, rfl, rfl, ?_, ?_⟩
  · rw [hl]
    show mQ (zT J 4) (zT J 4) oP = uA (rO J) (rO J) oP
    rw [hz]
    rfl
  · rw [hl]
    exact (aM0 hJ).b
theorem aM1 {k : Nat} {w : W4} {η : Rat} (h : Out k w η) : gtD (r8G (thW k w) (thW k w)) 4562254508917369340 = false ∧ gtD (r8G (bkW w) (bkW w)) 4562254508917369340 = false := by
  obtain ⟨v, T, R, P, Q, h1, h2, s, h3, h4, h5⟩ := h
  obtain ⟨c, c1, c2, c3⟩ := k1
  have b200 : (1 : Rat) ≤ tw 200 := by decide +kernel
  have z : ∀ x : Rat, aH (x - x) ≤ c := fun x => by rw [show x - x = 0 by grind, show aH (0 : Rat) = 0 by decide +kernel]; grind
  exact ⟨ZW s.t s.t c1 (z _) (by grind), ZW s.r s.r c1 (z _) (by grind)⟩
theorem aYA {p : Nat} {x1 : List Nat} {t : Int} (hp : agJ (rpG (e1 p)) = false) (ht : t = 1 ∨ t = 2) (h : tX (e1 p) x1 t = true) : t = 1 := by
  rcases ht with rfl | rfl
  · rfl
  · exfalso
    unfold tX at h
    simp only [Bool.and_eq_true] at h
    have h5 := h.2.2.2.2
    have hr : rpR (e1 p) x1 2 = none := by
      show rpN (e1 p) x1 (rpG (e1 p)) 1 (e1 p) x1 = none
      have : jOk (e1 p) x1 (e1 p) x1 (rpG (e1 p)) = false := by unfold jOk; rw [hp]; rfl
      simp only [rpN, this]
    rw [hr] at h5
    cases h5
section
variable {J : Nat} {q t : Int} (hJ : J < 24) (hq : ∃ j : Nat, j < 8 ∧ q = 1 + (j : Int)) (ht : t = 1 ∨ t = 2)
include hJ hq ht
theorem tf1 {p : Nat} (hp : p < 9) : TF (e1 p) ([4, 4].map hW) 1 (eT J) q t := by
  have hJ' : J < 32 := by omega
  have h := bQ aWM hp
  simp only [Bool.and_eq_true, Bool.not_eq_true'] at h
  have ed := aMJ h.1
  have z := aM0 hJ'
  exact aML (w := A0) hJ (.inl rfl) ed (fun K hK => am0 hK ed.ok rfl) (fun K hK => (aM0 hK).wd) (am0 hJ' ed.ok' rfl) z.wd.f z.one z.gT z.gR hq ht (fun _ hr => aYA h.2 ht hr) (fun hne => absurd rfl hne)
theorem tf2 {p a x : Nat} (hp : p < 9) (ha : a < 6) (hx : x < 13) : TF (e2 p a) ([4, x, 4].map hW) 2 (eT J) q t := by
  have hJ' : J < 32 := by omega
  have h := bQ aWN (i := a * 9 + p) (by omega)
  rw [show (a * 9 + p) % 9 = p by omega, show (a * 9 + p) / 9 = a by omega, Bool.and_eq_true] at h
  have ed := aMJ h.1
  have re := aUP h.2
  have o := (out1 hJ' hx ha).2
  have g := aM1 o
  have am : ∀ K, K < 32 → Am K (e2 p a) [4, x, 4] (A1 K x a) := fun K hK => am1 hK hx ha ed.ok rfl (ed.w 0 (show 0 < 1 by decide))
  have am' : Am J (tE (e2 p a)) [4, x, 4].reverse (A1 J x a) := am1 hJ' hx ha ed.ok' rfl (ed.w' 0 (show 0 < 1 by decide))
  obtain ⟨c1, o2⟩ := aUJ hJ hx ha (g := a) (by omega)
  have amr : Am J (jE (e2 p a) (e2 p a) (rpG (e2 p a))) ([4, x, 4] ++ [4, x, 4].drop 1) (R1 J x a a) := am3 hJ hx ha (by omega) re.ok rfl (re.w 0 (show 0 < 3 by decide)) (re.w 1 (show 1 < 3 by decide)) (re.w 2 (show 2 < 3 by decide))
  exact aML (w := fun K => A1 K x a) hJ (.inr (.inl rfl)) ed am (fun K hK => (out1 hK hx ha).2.wd) am' o.wd.f (o.one (by grind)) g.1 g.2 hq ht (fun h => absurd h (show ¬ (2 : Nat) = 1 by decide))
    (fun _ => aMK hJ' ⟨show 2 ≤ 2 by decide, show 2 ≤ 3 by decide⟩ (am J hJ') o.wd.f (o.rep (by grind)) re amr o2.wd.f (o2.rep Rat.le_refl) ht)
theorem tf3 {p a b x y : Nat} (hp : p < 9) (ha : a < 6) (hb : b < 6) (hx : x < 13) (hy : y < 13) : TF (e3 p a b) ([4, x, y, 4].map hW) 3 (eT J) q t := by
  have hJ' : J < 32 := by omega
  have h := a08 a ha b hb p hp
  rw [Bool.and_eq_true] at h
  have ed := aMJ h.1
  have re := aUP h.2
  have n := a02 hJ hx ha hy hb
  have am : ∀ K, K < 32 → Am K (e3 p a b) [4, x, y, 4] (A2 K x a y b) := fun K hK => a04 hK hx ha hy hb ed.ok rfl (ed.w 0 (show 0 < 2 by decide)) (ed.w 1 (show 1 < 2 by decide))
  have am' : Am J (tE (e3 p a b)) [4, x, y, 4].reverse (A2 J y b x a) := a04 hJ' hy hb hx ha ed.ok' rfl (ed.w' 0 (show 0 < 2 by decide)) (ed.w' 1 (show 1 < 2 by decide))
  have o' := (azU hJ' hy hb hx ha).2
  have o := (azU hJ' hx ha hy hb).2
  have amr : Am J (jE (e3 p a b) (e3 p a b) (rpG (e3 p a b))) ([4, x, y, 4] ++ [4, x, y, 4].drop 1) (R2 J x a y b (a + b + 1)) := am5 hJ hx ha hy hb (by omega) re.ok rfl (re.w 0 (show 0 < 5 by decide)) (re.w 1 (show 1 < 5 by decide)) (re.w 2 (show 2 < 5 by decide)) (re.w 3 (show 3 < 5 by decide)) (re.w 4 (show 4 < 5 by decide))
  exact aML (w := fun K => A2 K x a y b) hJ (.inr (.inr rfl)) ed am (fun K hK => (azU hK hx ha hy hb).2.wd) am' o'.wd.f n.one n.gT n.gR hq ht (fun h => absurd h (show ¬ (3 : Nat) = 1 by decide))
    (fun _ => aMK hJ' ⟨show 2 ≤ 3 by decide, show 3 ≤ 3 by decide⟩ (am J hJ') o.wd.f n.rep re amr n.wf n.rep2 ht)
end
theorem aM2 {l q : List Int} (hl : pI l = true) (hq : pI q = true) (h : dn q ≠ 0) : TF (X0 q l) (X1 q l) (dn q) (dE q) (dq q) (dt q) := by
  obtain ⟨J, hJ, he⟩ := aK5 hq
  have h1 := aK6 hq
  have h2 := aXJ hq
  obtain ⟨p, hp, ep⟩ := aXI hl
  rw [he]
  unfold X0 X1
  rcases aXK hq with h0 | h0 | h0 | h0
  · exact absurd h0 h
  · rw [h0]
    show TF (es1 l) (hs1 l) 1 _ _ _
    have e1' : es1 l = e1 p := by unfold es1 e1; rw [ep]
    rw [e1']
    exact tf1 hJ h1 h2 hp
  · rw [h0]
    show TF (es2 l) (hs2 l) 2 _ _ _
    obtain ⟨a, ha, ea⟩ := awH hl 1
    obtain ⟨x, hx, ex⟩ := awI hl 4
    have e2' : es2 l = e2 p a := by unfold es2 e2; rw [ep, ea]
    have h2' : hs2 l = [4, x, 4].map hW := by unfold hs2; rw [ex]; rfl
    rw [e2', h2']
    exact tf2 hJ h1 h2 hp ha hx
  · rw [h0]
    show TF (es3 l) (hs3 l) 3 _ _ _
    obtain ⟨a, ha, ea⟩ := awH hl 1
    obtain ⟨b, hb, eb⟩ := awH hl 2
    obtain ⟨x, hx, ex⟩ := awI hl 5
    obtain ⟨y, hy, ey⟩ := awI hl 6
    have e3' : es3 l = e3 p a b := by unfold es3 e3; rw [ep, ea, eb]
    have h3' : hs3 l = [4, x, y, 4].map hW := by unfold hs3; rw [ex, ey]; rfl
    rw [e3', h3']
    exact tf3 hJ h1 h2 hp ha hb hx hy
theorem am9 {q : List Int} (hq : pI q = true) : TZ (dE q) (dq q) := by
  obtain ⟨J, hJ, he⟩ := aK5 hq
  obtain ⟨j, hj, hd⟩ := aK6 hq
  rw [he, hd]
  exact TZ.of (a07 J hJ j hj)
noncomputable section
theorem aT5 : FnT Try.prog 3 (fun vs h => T.of (uQ ty zY NG vM 40 Try.f3 vs h)) := AX abV aI mixed Try.func3 rfl rfl NG vM avX fun vs h v h' e => ⟨40, by rw [T.run_of] at e; exact e⟩
theorem azX : FnT Try.prog 3 (fun vs h => T.of (uQ ty zZ NJ vV 40 Try.f3 vs h)) := AX abV aK mixed Try.func3 rfl rfl NJ vV av1 fun vs h v h' e => ⟨40, by rw [T.run_of] at e; exact e⟩
theorem aT6 : FnT Try.prog 3 (fun vs h => T.of (uQ ty AB NL wE 40 Try.f3 vs h)) := AX abV aO mixed Try.func3 rfl rfl NL wE av4 fun vs h v h' e => ⟨40, by rw [T.run_of] at e; exact e⟩
theorem aT7 : FnT Try.prog 3 (fun vs h => T.of (uQ ty AC NQ wM 40 Try.f3 vs h)) := AX abV aQ mixed Try.func3 rfl rfl NQ wM av7 fun vs h v h' e => ⟨40, by rw [T.run_of] at e; exact e⟩
theorem anA : FnT Try.prog 3 (fun vs h => T.of (uQ ty AL NS wX 40 Try.f3 vs h)) := AX abV aT mixed Try.func3 rfl rfl NS wX awC fun vs h v h' e => ⟨40, by rw [T.run_of] at e; exact e⟩
theorem azY : FnT Try.prog 3 (fun vs h => T.of (uQ ty AO NZ xJ 40 Try.f3 vs h)) := AX abV aV mixed Try.func3 rfl rfl NZ xJ awF fun vs h v h' e => ⟨40, by rw [T.run_of] at e; exact e⟩
def aM3 : G := fun vs h => match vs, h with
  | [.sl 0 0 n, .sl 1 0 m], [.at false (.int .u8 l0), .at false (.int .u8 l1)] => if n = l0.length ∧ m = l1.length ∧ pI l0 = true ∧ pI l1 = true then some (.bool true, [.at false (.int .u8 l0), .at false (.int .u8 l1)]) else none
  | [.sl 0 0 n, .nil], [.at false (.int .u8 l0)] => if n = l0.length ∧ pI l0 = true then some (.bool true, [.at false (.int .u8 l0)]) else none
  | [.nil, .sl 0 0 m], [.at false (.int .u8 l1)] => if m = l1.length ∧ pI l1 = true then some (.bool true, [.at false (.int .u8 l1)]) else none
  | [.nil, .nil], [] => some (.bool true, [])
  | _, _ => none
theorem aM4 {n m : Nat} (h : ¬ n < 2147483648) : qG n m = true := by unfold qG; rw [decide_eq_true (show ((n : Nat) : Int) > 48 by omega)]; rfl
theorem aM5 {n m : Nat} (h : ¬ m < 2147483648) : qG n m = true := by unfold qG; rw [decide_eq_true (show ((m : Nat) : Int) > 48 by omega)]; cases decide ((n : Int) > 48) <;> rfl
theorem bytes_wf {l : List Int} (h : ∀ z ∈ l, (Lit.int .u8 z).wf = true) : pI l = true := by
  unfold pI
  rw [List.all_eq_true]
  intro z hz
  have hw := h z hz
  simp only [Lit.wf, Bool.and_eq_true, decide_eq_true_eq] at hw
  have h1 : (0 : Int) ≤ z := hw.1
  have h2 : z ≤ 255 := hw.2
  exact decide_eq_true (by omega)
theorem ok_lawThrough : aYG Try.prog 3 aM3 := by
  intro vs hp v h' e
  rw [T.run_of] at e
  unfold aM3 at e
  split at e
  · rename_i n m l0 l1
    split at e
    · rename_i hc
      cases e
      by_cases h1 : n < 2147483648
      · by_cases h2 : m < 2147483648
        · by_cases h0 : dn l1 = 0
          · refine aT5 _ _ _ _ ?_
            rw [T.run_of]
            exact aWG n m false l0 false l1 ⟨hc.1.symm, h1⟩ ⟨hc.2.1.symm, h2⟩ h0 (am9 hc.2.2.2)
          · refine anA _ _ _ _ ?_
            rw [T.run_of]
            exact aWK n m false l0 false l1 ⟨hc.1.symm, h1⟩ ⟨hc.2.1.symm, h2⟩ (aM2 hc.2.2.1 hc.2.2.2 h0)
        ·
          refine anA _ _ _ _ ?_
          rw [T.run_of]
          refine Eq.trans (af8 40 _ _ _ _ _ _) ?_
          rw [aM5 h2]
          all_goals rfl
      ·
        refine anA _ _ _ _ ?_
        rw [T.run_of]
        refine Eq.trans (af8 40 _ _ _ _ _ _) ?_
        rw [aM4 h1]
        all_goals rfl
    · cases e
  · rename_i n l0
    split at e
    · rename_i hc
      cases e
      by_cases h1 : n < 2147483648
      ·
        refine azX _ _ _ _ ?_
        rw [T.run_of]
        exact aWH n false l0 ⟨hc.1.symm, h1⟩ (by decide +kernel) (am9 (q := []) rfl)
      ·
        refine azX _ _ _ _ ?_
        rw [T.run_of]
        refine Eq.trans (aqD 40 _ _ _) ?_
        rw [aM4 h1]
        all_goals rfl
    · cases e
  · rename_i m l1
    split at e
    · rename_i hc
      cases e
      by_cases h1 : m < 2147483648
      ·
        by_cases h0 : dn l1 = 0
        · refine aT6 _ _ _ _ ?_
          rw [T.run_of]
          exact aWI m false l1 ⟨hc.1.symm, h1⟩ h0 (am9 hc.2)
        · refine azY _ _ _ _ ?_
          rw [T.run_of]
          exact aWL m false l1 ⟨hc.1.symm, h1⟩ (aM2 (l := []) rfl hc.2 h0)
      ·
        refine azY _ _ _ _ ?_
        rw [T.run_of]
        refine Eq.trans (arA 40 _ _ _) ?_
        rw [aM5 h1]
        all_goals rfl
    · cases e
  · cases e
    refine aT7 _ _ _ _ ?_
    rw [T.run_of]
    exact aWJ   (by decide +kernel) (am9 (q := []) rfl)
  · cases e
end
end Go.Proofs.Ytpjoapgfdjfbdaa.Ab

/- RingThrough. Only lemmas. Printed by gen_ring.py. -/
import Derived.Test.YtobbmffldbbhpaaTrB
namespace Go.Proofs.Ytobbmffldbbhpaa.Ab
set_option linter.unusedVariables false
set_option linter.unusedSimpArgs false
open Go
def powW (a b : Nat) : Nat := fop .add .f64 (fop .mul .f64 (up a) (up a)) (fop .mul .f64 (up b) (up b))
def gScl : GT := fun vs h => match vs, h with | [.cx .f32 a b, .fl .f32 c], [] => .ret (.cx .f32 (fop .mul .f32 a c) (fop .mul .f32 b c)) [] | _, _ => .no
def tab_sclI : Fns := tabT []
theorem tabok_sclI : ∀ f, FnT Try.prog f (tab_sclI f) := tabT_nil
theorem run_sclI (N : Nat) (a : Nat) (b : Nat) (c : Nat) : run ty tab_sclI ann0 N Try.f99 [.cx .f32 a b, .fl .f32 c] []
    = some (.cx .f32 (fop .mul .f32 a c) (fop .mul .f32 b c), []) := by
  kernel_rfl

theorem ok_sclI : FnT Try.prog 99 gScl := by
  refine fnT tabok_sclI Try.func99 rfl rfl ann0 fun vs h v h' e => ⟨0, ?_⟩
  unfold gScl at e
  split at e
  case h_2 => exact (T.no_inv e).elim
  obtain ⟨rfl, rfl⟩ := T.ret_inv e
  refine Eq.trans (run_sclI 0 _ _ _) ?_
  try simp only [fconv_eq]
  try rfl
def tab_sclS : Fns := tabT []
theorem tabok_sclS : ∀ f, FnT Try.prog f (tab_sclS f) := tabT_nil
theorem run_sclS (N : Nat) (a : Nat) (b : Nat) (c : Nat) : run ty tab_sclS ann0 N Try.f92 [.cx .f32 a b, .fl .f32 c] []
    = some (.cx .f32 (fop .mul .f32 a c) (fop .mul .f32 b c), []) := by
  kernel_rfl

theorem ok_sclS : FnT Try.prog 92 gScl := by
  refine fnT tabok_sclS Try.func92 rfl rfl ann0 fun vs h v h' e => ⟨0, ?_⟩
  unfold gScl at e
  split at e
  case h_2 => exact (T.no_inv e).elim
  obtain ⟨rfl, rfl⟩ := T.ret_inv e
  refine Eq.trans (run_sclS 0 _ _ _) ?_
  try simp only [fconv_eq]
  try rfl
def gMin : GT := fun vs h => match vs, h with | [.cx .f32 a b, .cx .f32 c d], [] => .ret (.cx .f32 (fop .sub .f32 a c) (fop .sub .f32 b d)) [] | _, _ => .no
def tab_minI : Fns := tabT []
theorem tabok_minI : ∀ f, FnT Try.prog f (tab_minI f) := tabT_nil
theorem run_minI (N : Nat) (a : Nat) (b : Nat) (c : Nat) (d : Nat) : run ty tab_minI ann0 N Try.f98 [.cx .f32 a b, .cx .f32 c d] []
    = some (.cx .f32 (fop .sub .f32 a c) (fop .sub .f32 b d), []) := by
  kernel_rfl

theorem ok_minI : FnT Try.prog 98 gMin := by
  refine fnT tabok_minI Try.func98 rfl rfl ann0 fun vs h v h' e => ⟨0, ?_⟩
  unfold gMin at e
  split at e
  case h_2 => exact (T.no_inv e).elim
  obtain ⟨rfl, rfl⟩ := T.ret_inv e
  refine Eq.trans (run_minI 0 _ _ _ _) ?_
  try simp only [fconv_eq]
  try rfl
def gPow : GT := fun vs h => match vs, h with | [.cx .f32 a b], [] => .ret (.fl .f64 (powW a b)) [] | _, _ => .no
def tab_powI : Fns := tabT []
theorem tabok_powI : ∀ f, FnT Try.prog f (tab_powI f) := tabT_nil
theorem run_powI (N : Nat) (a : Nat) (b : Nat) : run ty tab_powI ann0 N Try.f142 [.cx .f32 a b] []
    = (match fconv .f32 a .f64 with | some c1 => (match fconv .f32 b .f64 with | some c2 => some (.fl .f64 (fop .add .f64 (fop .mul .f64 c1 c1) (fop .mul .f64 c2 c2)), []) | none => none) | none => none) := by
  kernel_rfl

theorem ok_powI : FnT Try.prog 142 gPow := by
  refine fnT tabok_powI Try.func142 rfl rfl ann0 fun vs h v h' e => ⟨0, ?_⟩
  unfold gPow at e
  split at e
  case h_2 => exact (T.no_inv e).elim
  obtain ⟨rfl, rfl⟩ := T.ret_inv e
  refine Eq.trans (run_powI 0 _ _) ?_
  try simp only [fconv_eq]
  try rfl
def tab_powS : Fns := tabT []
theorem tabok_powS : ∀ f, FnT Try.prog f (tab_powS f) := tabT_nil
theorem run_powS (N : Nat) (a : Nat) (b : Nat) : run ty tab_powS ann0 N Try.f141 [.cx .f32 a b] []
    = (match fconv .f32 a .f64 with | some c1 => (match fconv .f32 b .f64 with | some c2 => some (.fl .f64 (fop .add .f64 (fop .mul .f64 c1 c1) (fop .mul .f64 c2 c2)), []) | none => none) | none => none) := by
  kernel_rfl

theorem ok_powS : FnT Try.prog 141 gPow := by
  refine fnT tabok_powS Try.func141 rfl rfl ann0 fun vs h v h' e => ⟨0, ?_⟩
  unfold gPow at e
  split at e
  case h_2 => exact (T.no_inv e).elim
  obtain ⟨rfl, rfl⟩ := T.ret_inv e
  refine Eq.trans (run_powS 0 _ _) ?_
  try simp only [fconv_eq]
  try rfl
def gPwN : GT := fun vs h => match vs, h with | [.cx .f32 a b], [] => .ite (narOk (powW a b)) (.ret (.fl .f32 (nar (powW a b))) []) .no | _, _ => .no
def tab_pwI : Fns := tabT [(142, gPow)]
theorem tabok_pwI : ∀ f, FnT Try.prog f (tab_pwI f) := (tabT_cons (k := 142) ok_powI tabT_nil)
theorem run_pwI (N : Nat) (a : Nat) (b : Nat) : run ty tab_pwI ann0 N Try.f97 [.cx .f32 a b] []
    = (match fconv .f64 (powW a b) .f32 with | some c1 => some (.fl .f32 c1, []) | none => none) := by
  kernel_rfl

theorem ok_pwI : FnT Try.prog 97 gPwN := by
  refine fnT tabok_pwI Try.func97 rfl rfl ann0 fun vs h v h' e => ⟨0, ?_⟩
  unfold gPwN at e
  split at e
  case h_2 => exact (T.no_inv e).elim
  rename_i a b
  obtain ⟨hn, e⟩ := T.pre_inv e
  obtain ⟨rfl, rfl⟩ := T.ret_inv e
  refine Eq.trans (run_pwI 0 _ _) ?_
  have hn2 : (fconv .f64 (powW a b) .f32).isSome = true := hn
  obtain ⟨r, hr⟩ := Option.isSome_iff_exists.mp hn2
  first | (rw [hn]; done) | (unfold nar; rw [hr]; try rfl)
def tab_pwS : Fns := tabT [(141, gPow), (140, gNar)]
theorem tabok_pwS : ∀ f, FnT Try.prog f (tab_pwS f) := (tabT_cons (k := 141) ok_powS (tabT_cons (k := 140) ok_l01Narrow tabT_nil))
theorem run_pwS (N : Nat) (a : Nat) (b : Nat) : run ty tab_pwS ann0 N Try.f95 [.cx .f32 a b] []
    = (match narOk (powW a b) with | true => some (.fl .f32 (nar (powW a b)), []) | false => none) := by
  kernel_rfl

theorem ok_pwS : FnT Try.prog 95 gPwN := by
  refine fnT tabok_pwS Try.func95 rfl rfl ann0 fun vs h v h' e => ⟨0, ?_⟩
  unfold gPwN at e
  split at e
  case h_2 => exact (T.no_inv e).elim
  rename_i a b
  obtain ⟨hn, e⟩ := T.pre_inv e
  obtain ⟨rfl, rfl⟩ := T.ret_inv e
  refine Eq.trans (run_pwS 0 _ _) ?_
  have hn2 : (fconv .f64 (powW a b) .f32).isSome = true := hn
  obtain ⟨r, hr⟩ := Option.isSome_iff_exists.mp hn2
  first | (rw [hn]; done) | (unfold nar; rw [hr]; try rfl)
theorem numD_fin {x : Nat} {s : Bool} {m : Nat} {p : Int} (hx : Ieee.double.read x = .number s m p) : finD x = true := by
  have h1 : ∃ b, fop .sub .f64 x x = Ieee.double.word b 0 := by
    unfold fop floatBits
    show ∃ b, (Ieee.double.sub x x).getD _ = _
    unfold Ieee.Format.sub
    rw [hx]
    show ∃ b, ((((Ieee.Datum.number s m p).sum (Ieee.Datum.number (!s) m p))).map Ieee.double.write).getD _ = _
    unfold Ieee.Datum.sum
    dsimp only
    have hz : Ieee.signed s m (p - min p p).toNat + Ieee.signed (!s) m (p - min p p).toNat = 0 := by
      unfold Ieee.signed
      cases s <;> simp <;> omega
    rw [hz]
    refine ⟨s && !s, ?_⟩
    show Ieee.double.nearest _ 0 (min p p) = _
    unfold Ieee.Format.nearest
    rw [if_pos rfl, if_pos rfl]
  obtain ⟨b, hb⟩ := h1
  unfold finD
  rw [hb]
  cases b <;> decide +kernel
theorem read32_place {x : Nat} {s : Bool} {m : Nat} {e : Int} (h : Ieee.single.read x = .number s m e) : m < 16777216 ∧ -149 ≤ e ∧ e ≤ 104 := by
  unfold Ieee.Format.read at h
  have c1 : Ieee.single.signWeight = 2147483648 := by decide
  have c2 : Ieee.single.binade = 8388608 := by decide
  have c3 : Ieee.single.infRung = 2139095040 := by decide
  have c4 : Ieee.single.leastPlace = -149 := by decide
  rw [c1, c2, c3, c4] at h
  dsimp only at h
  split at h
  · cases h
    omega
  · split at h
    · cases h
      omega
    · split at h <;> cases h
theorem fin_bel {x : Nat} (h : finB x = true) : Bel 128 x := by
  obtain ⟨s, m, e, hx⟩ := num_of_fin h
  have hx2 : Ieee.single.read x = _ := hx
  obtain ⟨h1, h2, h3⟩ := read32_place hx2
  refine ⟨s, m, e, hx, ?_⟩
  by_cases h0 : m = 0
  · exact .inl h0
  · have := (Nat.log2_lt h0).2 (show m < 2 ^ 24 by omega)
    exact .inr (by omega)
theorem up_finD {x : Nat} (h : finB x = true) : finD (up x) = true := by
  obtain ⟨s, m, e, h1, _⟩ := beld_up (fin_bel h) (by decide) (by decide)
  exact numD_fin h1
theorem bel_sub {B : Int} {x y : Nat} (hx : Bel B x) (hy : Bel B y) (h1 : -100 ≤ B) (h2 : B ≤ 125) : Bel (B + 2) (fop .sub .f32 x y) := by
  obtain ⟨s, m, i, hx, hm⟩ := hx
  obtain ⟨t, n, j, hy, hn⟩ := hy
  have e : ∃ b : Bool, fop .sub .f32 x y = Ieee.single.nearest b (Ieee.signed s m (i - min i j).toNat + Ieee.signed (!t) n (j - min i j).toNat).natAbs (min i j) := by
    unfold fop floatBits
    show ∃ b : Bool, (Ieee.single.sub x y).getD _ = _
    have hx : Ieee.single.read x = _ := hx
    have hy : Ieee.single.read y = _ := hy
    unfold Ieee.Format.sub
    rw [hx, hy]
    exact ⟨_, rfl⟩
  obtain ⟨b, e⟩ := e
  rw [e, show B + 2 = (B + 1) + 1 by omega]
  exact bel_near (sum_log hm hn) (by omega) (by omega)
theorem one_bel32 : Bel 1 1065353216 := ⟨false, 8388608, -23, by decide +kernel, .inr (by decide)⟩
theorem zero_bel32 (B : Int) : Bel B 0 := ⟨false, 0, -149, by decide +kernel, .inl rfl⟩
theorem unit_bel {a : Nat} (h1 : (gtB a 0 || eqB a 0) = true) (h2 : ltB a 1065353216 = true) : Bel 1 a := by
  have hone : FloatKind.f32.format.read 1065353216 = .number false 8388608 (-23) := by decide +kernel
  have hz : FloatKind.f32.format.read 0 = .number false 0 (-149) := by decide +kernel
  cases hd : FloatKind.f32.format.read a with
  | nan s f =>
    exfalso
    unfold ltB Ieee.Format.order at h2
    rw [hd] at h2
    cases h2
  | infinity s =>
    exfalso
    unfold gtB eqB Ieee.Format.order at h1
    unfold ltB Ieee.Format.order at h2
    rw [hd, hz] at h1
    rw [hd, hone] at h2
    cases s
    · cases h2
    · cases h1
  | number s m p =>
    refine ⟨s, m, p, hd, ?_⟩
    by_cases h0 : m = 0
    · exact .inl h0
    right
    have hs : s = false := by
      cases s with
      | false => rfl
      | true =>
        exfalso
        have ho : FloatKind.f32.format.order a 0 = some .lt := by
          unfold Ieee.Format.order
          rw [hd, hz]
          unfold Ieee.Datum.order
          dsimp only
          rw [Option.some.injEq, Int.compare_eq_lt]
          have q1 := signed_pos (p - min p (-149)).toNat h0
          rw [show true = !false from rfl, signed_neg']
          have q2 : Ieee.signed false 0 (-149 - min p (-149)).toNat = 0 := by simp [Ieee.signed]
          omega
        unfold gtB eqB at h1
        rw [ho] at h1
        cases h1
    subst hs
    unfold ltB Ieee.Format.order at h2
    rw [hd, hone] at h2
    unfold Ieee.Datum.order at h2
    dsimp only at h2
    generalize hb : min p (-23) = base at h2
    have hlt : compare (Ieee.signed false m (p - base).toNat) (Ieee.signed false 8388608 (-23 - base).toNat) = .lt := by
      cases hc : compare (Ieee.signed false m (p - base).toNat) (Ieee.signed false 8388608 (-23 - base).toNat) with
      | lt => rfl
      | eq => rw [hc] at h2; cases h2
      | gt => rw [hc] at h2; cases h2
    rw [Int.compare_eq_lt] at hlt
    unfold Ieee.signed at hlt
    rw [if_neg (by decide), if_neg (by decide), Nat.shiftLeft_eq, Nat.shiftLeft_eq] at hlt
    have hlt : m * 2 ^ (p - base).toNat < 8388608 * 2 ^ (-23 - base).toNat := by omega
    rw [show (8388608 : Nat) = 2 ^ 23 by decide, ← Nat.pow_add] at hlt
    have h3 : 2 ^ m.log2 * 2 ^ (p - base).toNat ≤ m * 2 ^ (p - base).toNat := Nat.mul_le_mul_right _ (Nat.log2_self_le h0)
    rw [← Nat.pow_add] at h3
    have h4 := (Nat.pow_lt_pow_iff_right (by decide)).1 (Nat.lt_of_le_of_lt h3 hlt)
    omega
def rgX (b : Nat) : Nat := match smB (up b) with | true => nr (phX (up b)) | false => 1065353216
def rgY (b : Nat) : Nat := match smB (up b) with | true => nr (phY (up b)) | false => 0
def rgP (a b : Nat) : Nat := powW (fop .sub .f32 1065353216 (fop .mul .f32 (rgX b) a)) (fop .sub .f32 0 (fop .mul .f32 (rgY b) a))
def rgV (a b : Nat) : Nat := fop .quo .f32 (fop .mul .f32 (fop .sub .f32 1065353216 a) (fop .sub .f32 1065353216 a)) (nar (rgP a b))
theorem rgXY_bel (b : Nat) : Bel 51 (rgX b) ∧ Bel 51 (rgY b) := by
  unfold rgX rgY
  cases h : smB (up b) with
  | false => exact ⟨one_bel32.mono (by decide), zero_bel32 _⟩
  | true =>
    obtain ⟨h1, h2⟩ := phX_bel h
    exact ⟨nr_bel h1, nr_bel h2⟩
theorem rgP_ok {a b : Nat} (ha : Bel 1 a) : narOk (rgP a b) = true := by
  obtain ⟨h1, h2⟩ := rgXY_bel b
  have x1 := bel_sub (one_bel32.mono (show (1 : Int) ≤ 53 by decide)) (bel_mul h1 ha (by decide) (by decide)) (by decide) (by decide)
  have y1 := bel_sub (zero_bel32 53) (bel_mul h2 ha (by decide) (by decide)) (by decide) (by decide)
  have x2 := beld_up x1 (by decide) (by decide)
  have y2 := beld_up y1 (by decide) (by decide)
  have z := beld_add (beld_mul x2 x2 (by decide) (by decide)) (beld_mul y2 y2 (by decide) (by decide)) (by decide) (by decide)
  obtain ⟨r, hr⟩ := beld_conv (z.mono (by decide))
  unfold narOk rgP powW
  rw [hr]
  rfl
def shareB (a : Nat) : Bool := match gtB a 0 || eqB a 0 with | true => ltB a 1065353216 || eqB a 1065353216 | false => false
def gShr : GT := fun vs h => match vs, h with | [.fl .f32 a], [] => .ret (.bool (shareB a)) [] | _, _ => .no
theorem lt_ne (a : Nat) : (match ltB a 1065353216 with | true => eqB a 1065353216 | false => false) = false := by
  unfold ltB eqB
  cases FloatKind.f32.format.order a 1065353216 with
  | none => rfl
  | some o => cases o <;> rfl
def rgOk (a b : Nat) : Bool := (gtB a 0 || eqB a 0) && (ltB a 1065353216 && finB b)
def gRing : GT := fun vs h => match vs, h with
  | [.fl .f32 a, .fl .f32 b], [] => .ite (rgOk a b) (.ite (finB (rgV a b)) (.ret (.tup [.a (.fl .f32 (rgV a b)), .a (.bool true)]) []) (.ret (.tup [.a (.fl .f32 0), .a (.bool false)]) [])) (.ret (.tup [.a (.fl .f32 0), .a (.bool false)]) [])
  | _, _ => .no
def tab_shr : Fns := tabT []
theorem tabok_shr : ∀ f, FnT Try.prog f (tab_shr f) := tabT_nil
theorem run_shr (N : Nat) (a : Nat) : run ty tab_shr ann0 N Try.f91 [.fl .f32 a] []
    = (match gtB a 0 || eqB a 0 with | true => some (.bool (ltB a 1065353216 || eqB a 1065353216), []) | false => some (.bool false, [])) := by
  kernel_rfl

theorem ok_shr : FnT Try.prog 91 gShr := by
  refine fnT tabok_shr Try.func91 rfl rfl ann0 fun vs h v h' e => ⟨0, ?_⟩
  unfold gShr at e
  split at e
  case h_2 => exact (T.no_inv e).elim
  rename_i a
  obtain ⟨rfl, rfl⟩ := T.ret_inv e
  refine Eq.trans (run_shr 0 _) ?_
  unfold shareB
  cases (gtB a 0 || eqB a 0) <;> rfl
def tab_rgI : Fns := tabT [(90, gT (gF1 finB)), (100, gPh), (99, gScl), (98, gMin), (97, gPwN), (96, gNumT)]
theorem tabok_rgI : ∀ f, FnT Try.prog f (tab_rgI f) := (tabT_cons (k := 90) ok_IsFinite (tabT_cons (k := 100) ok_phI (tabT_cons (k := 99) ok_sclI (tabT_cons (k := 98) ok_minI (tabT_cons (k := 97) ok_pwI (tabT_cons (k := 96) ok_checked tabT_nil))))))
theorem run_rgI (N : Nat) (a : Nat) (b : Nat) : run ty tab_rgI ann0 N Try.f31 [.fl .f32 a, .fl .f32 b] []
    = (match gtB a 0 || eqB a 0 with | true => (match !(ltB a 1065353216) with | true => some (.tup [.a (.fl .f32 0), .a (.bool false)], []) | false => (match !(finB b) with | true => some (.tup [.a (.fl .f32 0), .a (.bool false)], []) | false => (match fconv .f32 b .f64 with | some c1 => (match finD c1 with | true => (match smB c1 with | true => (match narOk (powW (fop .sub .f32 1065353216 (fop .mul .f32 (nr (phX c1)) a)) (fop .sub .f32 0 (fop .mul .f32 (nr (phY c1)) a))) with | true => (match finB (fop .quo .f32 (fop .mul .f32 (fop .sub .f32 1065353216 a) (fop .sub .f32 1065353216 a)) (nar (powW (fop .sub .f32 1065353216 (fop .mul .f32 (nr (phX c1)) a)) (fop .sub .f32 0 (fop .mul .f32 (nr (phY c1)) a))))) with | true => some (.tup [.a (.fl .f32 (fop .quo .f32 (fop .mul .f32 (fop .sub .f32 1065353216 a) (fop .sub .f32 1065353216 a)) (nar (powW (fop .sub .f32 1065353216 (fop .mul .f32 (nr (phX c1)) a)) (fop .sub .f32 0 (fop .mul .f32 (nr (phY c1)) a)))))), .a (.bool true)], []) | false => some (.tup [.a (.fl .f32 0), .a (.bool false)], [])) | false => none) | false => (match narOk (powW (fop .sub .f32 1065353216 (fop .mul .f32 1065353216 a)) (fop .sub .f32 0 (fop .mul .f32 0 a))) with | true => (match finB (fop .quo .f32 (fop .mul .f32 (fop .sub .f32 1065353216 a) (fop .sub .f32 1065353216 a)) (nar (powW (fop .sub .f32 1065353216 (fop .mul .f32 1065353216 a)) (fop .sub .f32 0 (fop .mul .f32 0 a))))) with | true => some (.tup [.a (.fl .f32 (fop .quo .f32 (fop .mul .f32 (fop .sub .f32 1065353216 a) (fop .sub .f32 1065353216 a)) (nar (powW (fop .sub .f32 1065353216 (fop .mul .f32 1065353216 a)) (fop .sub .f32 0 (fop .mul .f32 0 a)))))), .a (.bool true)], []) | false => some (.tup [.a (.fl .f32 0), .a (.bool false)], [])) | false => none)) | false => (match narOk (powW (fop .sub .f32 1065353216 (fop .mul .f32 2143289344 a)) (fop .sub .f32 0 (fop .mul .f32 2143289344 a))) with | true => (match finB (fop .quo .f32 (fop .mul .f32 (fop .sub .f32 1065353216 a) (fop .sub .f32 1065353216 a)) (nar (powW (fop .sub .f32 1065353216 (fop .mul .f32 2143289344 a)) (fop .sub .f32 0 (fop .mul .f32 2143289344 a))))) with | true => some (.tup [.a (.fl .f32 (fop .quo .f32 (fop .mul .f32 (fop .sub .f32 1065353216 a) (fop .sub .f32 1065353216 a)) (nar (powW (fop .sub .f32 1065353216 (fop .mul .f32 2143289344 a)) (fop .sub .f32 0 (fop .mul .f32 2143289344 a)))))), .a (.bool true)], []) | false => some (.tup [.a (.fl .f32 0), .a (.bool false)], [])) | false => none)) | none => none))) | false => some (.tup [.a (.fl .f32 0), .a (.bool false)], [])) := by
  kernel_rfl

theorem ok_rgI : FnT Try.prog 31 gRing := by
  refine fnT tabok_rgI Try.func31 rfl rfl ann0 fun vs h v h' e => ⟨0, ?_⟩
  unfold gRing at e
  split at e
  case h_2 => exact (T.no_inv e).elim
  rename_i a b
  refine Eq.trans (run_rgI 0 a b) (Eq.trans ?_ e)
  clear e
  show _ = T.k _ _
  simp only [T.k]
  unfold rgOk
  have hne := lt_ne a
  cases h0 : (gtB a 0 || eqB a 0)
  case false => rfl
  cases h1 : ltB a 1065353216
  case false =>
    rfl
  rw [h1] at hne
  dsimp only at hne
  skip
  cases hb : finB b
  case false => rfl
  dsimp only [Bool.not_true, Bool.true_or, Bool.or_true, Bool.or_false, Bool.and_self, Bool.not_false]
  rw [fconv_eq]
  dsimp only
  rw [up_finD hb]
  dsimp only
  have hp : narOk (rgP a b) = true := rgP_ok (unit_bel h0 h1)
  unfold rgV
  revert hp
  unfold rgP rgX rgY
  cases smB (up b)
  · dsimp only
    intro hp
    rw [hp]
    dsimp only
    cases finB (fop .quo .f32 (fop .mul .f32 (fop .sub .f32 1065353216 a) (fop .sub .f32 1065353216 a)) (nar (powW (fop .sub .f32 1065353216 (fop .mul .f32 1065353216 a)) (fop .sub .f32 0 (fop .mul .f32 0 a))))) <;> rfl
  · dsimp only
    intro hp
    rw [hp]
    dsimp only
    cases finB (fop .quo .f32 (fop .mul .f32 (fop .sub .f32 1065353216 a) (fop .sub .f32 1065353216 a)) (nar (powW (fop .sub .f32 1065353216 (fop .mul .f32 (nr (phX (up b))) a)) (fop .sub .f32 0 (fop .mul .f32 (nr (phY (up b))) a))))) <;> rfl
def tab_rgS : Fns := tabT [(91, gShr), (86, gT (gF1 finB)), (93, gPh), (92, gScl), (95, gPwN), (94, gNumT)]
theorem tabok_rgS : ∀ f, FnT Try.prog f (tab_rgS f) := (tabT_cons (k := 91) ok_shr (tabT_cons (k := 86) ok_l01Finite (tabT_cons (k := 93) ok_phS (tabT_cons (k := 92) ok_sclS (tabT_cons (k := 95) ok_pwS (tabT_cons (k := 94) ok_l02Number tabT_nil))))))
theorem run_rgS (N : Nat) (a : Nat) (b : Nat) : run ty tab_rgS ann0 N Try.f30 [.fl .f32 a, .fl .f32 b] []
    = (match !(shareB a) with | true => some (.tup [.a (.fl .f32 0), .a (.bool false)], []) | false => (match eqB a 1065353216 with | true => some (.tup [.a (.fl .f32 0), .a (.bool false)], []) | false => (match !(finB b) with | true => some (.tup [.a (.fl .f32 0), .a (.bool false)], []) | false => (match fconv .f32 b .f64 with | some c1 => (match finD c1 with | true => (match smB c1 with | true => (match narOk (powW (fop .sub .f32 1065353216 (fop .mul .f32 (nr (phX c1)) a)) (fop .sub .f32 0 (fop .mul .f32 (nr (phY c1)) a))) with | true => (match finB (fop .quo .f32 (fop .mul .f32 (fop .sub .f32 1065353216 a) (fop .sub .f32 1065353216 a)) (nar (powW (fop .sub .f32 1065353216 (fop .mul .f32 (nr (phX c1)) a)) (fop .sub .f32 0 (fop .mul .f32 (nr (phY c1)) a))))) with | true => some (.tup [.a (.fl .f32 (fop .quo .f32 (fop .mul .f32 (fop .sub .f32 1065353216 a) (fop .sub .f32 1065353216 a)) (nar (powW (fop .sub .f32 1065353216 (fop .mul .f32 (nr (phX c1)) a)) (fop .sub .f32 0 (fop .mul .f32 (nr (phY c1)) a)))))), .a (.bool true)], []) | false => some (.tup [.a (.fl .f32 0), .a (.bool false)], [])) | false => none) | false => (match narOk (powW (fop .sub .f32 1065353216 (fop .mul .f32 1065353216 a)) (fop .sub .f32 0 (fop .mul .f32 0 a))) with | true => (match finB (fop .quo .f32 (fop .mul .f32 (fop .sub .f32 1065353216 a) (fop .sub .f32 1065353216 a)) (nar (powW (fop .sub .f32 1065353216 (fop .mul .f32 1065353216 a)) (fop .sub .f32 0 (fop .mul .f32 0 a))))) with | true => some (.tup [.a (.fl .f32 (fop .quo .f32 (fop .mul .f32 (fop .sub .f32 1065353216 a) (fop .sub .f32 1065353216 a)) (nar (powW (fop .sub .f32 1065353216 (fop .mul .f32 1065353216 a)) (fop .sub .f32 0 (fop .mul .f32 0 a)))))), .a (.bool true)], []) | false => some (.tup [.a (.fl .f32 0), .a (.bool false)], [])) | false => none)) | false => (match narOk (powW (fop .sub .f32 1065353216 (fop .mul .f32 2143289344 a)) (fop .sub .f32 0 (fop .mul .f32 2143289344 a))) with | true => (match finB (fop .quo .f32 (fop .mul .f32 (fop .sub .f32 1065353216 a) (fop .sub .f32 1065353216 a)) (nar (powW (fop .sub .f32 1065353216 (fop .mul .f32 2143289344 a)) (fop .sub .f32 0 (fop .mul .f32 2143289344 a))))) with | true => some (.tup [.a (.fl .f32 (fop .quo .f32 (fop .mul .f32 (fop .sub .f32 1065353216 a) (fop .sub .f32 1065353216 a)) (nar (powW (fop .sub .f32 1065353216 (fop .mul .f32 2143289344 a)) (fop .sub .f32 0 (fop .mul .f32 2143289344 a)))))), .a (.bool true)], []) | false => some (.tup [.a (.fl .f32 0), .a (.bool false)], [])) | false => none)) | none => none)))) := by
  kernel_rfl

theorem ok_rgS : FnT Try.prog 30 gRing := by
  refine fnT tabok_rgS Try.func30 rfl rfl ann0 fun vs h v h' e => ⟨0, ?_⟩
  unfold gRing at e
  split at e
  case h_2 => exact (T.no_inv e).elim
  rename_i a b
  refine Eq.trans (run_rgS 0 a b) (Eq.trans ?_ e)
  clear e
  show _ = T.k _ _
  simp only [T.k]
  unfold rgOk shareB
  have hne := lt_ne a
  cases h0 : (gtB a 0 || eqB a 0)
  case false => rfl
  cases h1 : ltB a 1065353216
  case false =>
    cases eqB a 1065353216 <;> rfl
  rw [h1] at hne
  dsimp only at hne
  rw [hne]
  cases hb : finB b
  case false => rfl
  dsimp only [Bool.not_true, Bool.true_or, Bool.or_true, Bool.or_false, Bool.and_self, Bool.not_false]
  rw [fconv_eq]
  dsimp only
  rw [up_finD hb]
  dsimp only
  have hp : narOk (rgP a b) = true := rgP_ok (unit_bel h0 h1)
  unfold rgV
  revert hp
  unfold rgP rgX rgY
  cases smB (up b)
  · dsimp only
    intro hp
    rw [hp]
    dsimp only
    cases finB (fop .quo .f32 (fop .mul .f32 (fop .sub .f32 1065353216 a) (fop .sub .f32 1065353216 a)) (nar (powW (fop .sub .f32 1065353216 (fop .mul .f32 1065353216 a)) (fop .sub .f32 0 (fop .mul .f32 0 a))))) <;> rfl
  · dsimp only
    intro hp
    rw [hp]
    dsimp only
    cases finB (fop .quo .f32 (fop .mul .f32 (fop .sub .f32 1065353216 a) (fop .sub .f32 1065353216 a)) (nar (powW (fop .sub .f32 1065353216 (fop .mul .f32 (nr (phX (up b))) a)) (fop .sub .f32 0 (fop .mul .f32 (nr (phY (up b))) a))))) <;> rfl
def tab_lawRg : Fns := tabT [(30, gRing), (31, gRing), (32, gT gSame)]
theorem tabok_lawRg : ∀ f, FnT Try.prog f (tab_lawRg f) := (tabT_cons (k := 30) ok_rgS (tabT_cons (k := 31) ok_rgI (tabT_cons (k := 32) ok_sameFloat tabT_nil)))
theorem run_lawRg (N : Nat) (a : Nat) (b : Nat) : run ty tab_lawRg ann0 N Try.f8 [.fl .f32 a, .fl .f32 b] []
    = (match rgOk a b with | true => (match finB (rgV a b) with | true => (match rgOk a b with | true => (match finB (rgV a b) with | true => (match fconv .f32 (rgV a b) .f64 with | some c1 => (match fconv .f32 (rgV a b) .f64 with | some c2 => (match !(sameB c1 c2) with | true => some (.bool false, []) | false => some (.bool true, [])) | none => none) | none => none) | false => (match fconv .f32 (rgV a b) .f64 with | some c3 => (match !(sameB 0 c3) with | true => some (.bool false, []) | false => some (.bool false, [])) | none => none)) | false => (match fconv .f32 (rgV a b) .f64 with | some c4 => (match !(sameB 0 c4) with | true => some (.bool false, []) | false => some (.bool false, [])) | none => none)) | false => (match rgOk a b with | true => (match finB (rgV a b) with | true => (match fconv .f32 (rgV a b) .f64 with | some c5 => (match !(sameB c5 0) with | true => some (.bool false, []) | false => some (.bool false, [])) | none => none) | false => (match !(sameB 0 0) with | true => some (.bool false, []) | false => some (.bool true, []))) | false => (match !(sameB 0 0) with | true => some (.bool false, []) | false => some (.bool true, [])))) | false => (match rgOk a b with | true => (match finB (rgV a b) with | true => (match fconv .f32 (rgV a b) .f64 with | some c6 => (match !(sameB c6 0) with | true => some (.bool false, []) | false => some (.bool false, [])) | none => none) | false => (match !(sameB 0 0) with | true => some (.bool false, []) | false => some (.bool true, []))) | false => (match !(sameB 0 0) with | true => some (.bool false, []) | false => some (.bool true, [])))) := by
  kernel_rfl

theorem ok_lawRingThrough : FnOk Try.prog 8 (fun vs h => match vs, h with | [.fl .f32 a, .fl .f32 b], [] => some (.bool true, []) | _, _ => none) := by
  refine fnOk tabok_lawRg Try.func8 rfl rfl ann0 fun vs h v h' e => ⟨0, ?_⟩
  split at e
  case h_2 => cases e
  rename_i a b
  cases e
  refine Eq.trans (run_lawRg 0 _ _) ?_
  simp only [fconv_eq]
  cases hc1 : rgOk a b
  case false =>
    have hc2 : (!(sameB 0 0)) = false := by rw [sameB_self]; rfl
    rw [hc2]
  case true =>
    cases hc3 : finB (rgV a b)
    case false =>
      have hc4 : (!(sameB 0 0)) = false := by rw [sameB_self]; rfl
      rw [hc4]
    case true =>
      have hc5 : (!(sameB (up (rgV a b)) (up (rgV a b)))) = false := by rw [sameB_self]; rfl
      rw [hc5]
end Go.Proofs.Ytobbmffldbbhpaa.Ab

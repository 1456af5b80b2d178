/- The exponential: CrossShare. Only lemmas. Printed by gen_exp.py. -/
import Derived.Test.YthcjbchkagkaaaaLib
import Derived.Test.YthcjbchkagkaaaaSgn
namespace Go.Proofs.Ythcjbchkagkaaaa.Ab
set_option linter.unusedVariables false
set_option linter.unusedSimpArgs false
open Go
def narOk (x : Nat) : Bool := (fconv .f64 x .f32).isSome
def nar (x : Nat) : Nat := (fconv .f64 x .f32).getD 0
def gNar : GT := fun vs h => match vs, h with | [.fl .f64 x], [] => .ite (narOk x) (.ret (.fl .f32 (nar x)) []) .no | _, _ => .no
def tab_l01Narrow : Fns := tabT []
theorem tabok_l01Narrow : ∀ f, FnT Try.prog f (tab_l01Narrow f) := tabT_nil
theorem run_l01Narrow (N : Nat) (x : Nat) : run ty tab_l01Narrow ann0 N Try.f90 [.fl .f64 x] []
    = (match fconv .f64 x .f32 with
  | some c1 => some (.fl .f32 c1, [])
  | none => none) := by
  kernel_rfl

theorem ok_l01Narrow : FnT Try.prog 90 (gNar) := by
  refine fnT tabok_l01Narrow Try.func90 rfl rfl ann0 fun vs h v h' e => ⟨0, ?_⟩
  unfold gNar at e
  split at e
  case h_2 => exact (T.no_inv e).elim
  rename_i x
  obtain ⟨hx, e⟩ := T.pre_inv e
  obtain ⟨rfl, rfl⟩ := T.ret_inv e
  refine Eq.trans (run_l01Narrow 0 x) ?_
  unfold narOk at hx
  unfold nar
  cases hy : fconv .f64 x .f32 with
  | none => rw [hy] at hx; cases hx
  | some y => rfl
theorem ok_from64 : FnT Try.prog 103 (gFrom .f64 .u64) := from64_ok Try.func103 (by decide) (by rfl) (by rfl) (by rfl)
def gInf1 : GT := fun vs h => match vs, h with | [.int .i64 1], [] => .ret (.fl .f64 9218868437227405312) [] | _, _ => .no
def tab_mInf : Fns := tabT [(103, (gFrom .f64 .u64))]
theorem tabok_mInf : ∀ f, FnT Try.prog f (tab_mInf f) := (tabT_cons (k := 103) ok_from64 tabT_nil)
theorem run_mInf (N : Nat)  : run ty tab_mInf ann0 N Try.f107 [.int .i64 1] []
    = some (.fl .f64 9218868437227405312, []) := by
  kernel_rfl

theorem ok_mInf : FnT Try.prog 107 (gInf1) := by
  refine fnT tabok_mInf Try.func107 rfl rfl ann0 fun vs h v h' e => ⟨0, ?_⟩
  unfold gInf1 at e
  split at e
  case h_2 => exact (T.no_inv e).elim
  obtain ⟨rfl, rfl⟩ := T.ret_inv e
  exact run_mInf 0
def expW (x : Nat) : Nat := cond (!eqD x x) x (expD x)
def gEW : G := fun vs h => match vs, h with | [.fl .f64 x], [] => some (.fl .f64 (expW x), []) | _, _ => none
def gED : G := fun vs h => match vs, h with | [.fl .f64 x], [] => some (.fl .f64 (expD x), []) | _, _ => none
theorem expW_up (x : Nat) : expW (up x) = expD (up x) := by
  unfold expW
  cases hx : isN .f32 x with
  | true =>
    have hu : up x = qnan .f64 := by
      have h := fconv_eq x
      unfold fconv at h
      unfold isN at hx
      rw [if_neg (by decide), if_pos hx] at h
      exact (Option.some.inj h).symm
    rw [hu]
    decide +kernel
  | false =>
    have hn : isN .f64 (up x) = false := by
      unfold isN
      rcases up_num hx with ⟨s, hd⟩ | ⟨s, m, e, hd, _⟩ <;> rw [hd] <;> rfl
    have : eqD (up x) (up x) = true := by
      unfold eqD
      rw [order_self hn]
      rfl
    rw [this]
    rfl
def gExp : GT := fun vs h => match vs, h with | [.fl .f32 x], [] => .ite (expOk x) (.ret (.fl .f32 (expF x)) []) .no | _, _ => .no
def tab_expWide : Fns := tabT [(107, gInf1)]
theorem tabok_expWide : ∀ f, FnT Try.prog f (tab_expWide f) := (tabT_cons (k := 107) ok_mInf tabT_nil)

theorem run_expWide (N : Nat) (x : Nat) : run ty tab_expWide ann0 (N + 20) Try.f91 [.fl .f64 x] []
    = (match FloatKind.f64.format.order x x != some .eq with
  | true => some (.fl .f64 x, [])
  | false => (match gtD x 4641240890982006784 with
    | true => some (.fl .f64 9218868437227405312, [])
    | false => (match ltD x 13864612927836782592 with
      | true => some (.fl .f64 0, [])
      | false => some (.fl .f64 (expV x), [])))) := by
  kernel_rfl
theorem ok_expWide : FnT Try.prog 91 (gT gEW) := by
  refine fnT tabok_expWide Try.func91 rfl rfl ann0 fun vs h v h' e => ⟨20, ?_⟩
  rw [T.run_of] at e
  unfold gEW at e
  split at e
  case h_2 => cases e
  rename_i x
  cases e
  refine Eq.trans (run_expWide 0 x) ?_
  show _ = some (V.fl .f64 (expW x), [])
  unfold expW expD
  rw [show (FloatKind.f64.format.order x x != some .eq) = !eqD x x from rfl]
  cases eqD x x
  · rfl
  cases gtD x 4641240890982006784 <;> cases ltD x 13864612927836782592 <;> rfl
def tab_exponential : Fns := tabT [(107, gInf1)]
theorem tabok_exponential : ∀ f, FnT Try.prog f (tab_exponential f) := (tabT_cons (k := 107) ok_mInf tabT_nil)

theorem run_exponential (N : Nat) (x : Nat) : run ty tab_exponential ann0 (N + 20) Try.f92 [.fl .f64 x] []
    = (match gtD x 4641240890982006784 with
  | true => some (.fl .f64 9218868437227405312, [])
  | false => (match ltD x 13864612927836782592 with
    | true => some (.fl .f64 0, [])
    | false => some (.fl .f64 (expV x), []))) := by
  kernel_rfl
theorem ok_exponential : FnT Try.prog 92 (gT gED) := by
  refine fnT tabok_exponential Try.func92 rfl rfl ann0 fun vs h v h' e => ⟨20, ?_⟩
  rw [T.run_of] at e
  unfold gED at e
  split at e
  case h_2 => cases e
  rename_i x
  cases e
  refine Eq.trans (run_exponential 0 x) ?_
  show _ = some (V.fl .f64 (expD x), [])
  unfold expD
  cases gtD x 4641240890982006784 <;> cases ltD x 13864612927836782592 <;> rfl
def tab_l01Exp : Fns := tabT [(91, gT gEW), (90, gNar)]
theorem tabok_l01Exp : ∀ f, FnT Try.prog f (tab_l01Exp f) := (tabT_cons (k := 91) ok_expWide (tabT_cons (k := 90) ok_l01Narrow tabT_nil))
theorem run_l01Exp (N : Nat) (x : Nat) : run ty tab_l01Exp ann0 N Try.f59 [.fl .f32 x] []
    = (match fconv .f32 x .f64 with
  | some c1 => (match narOk (expW c1) with
    | true => some (.fl .f32 (nar (expW c1)), [])
    | false => none)
  | none => none) := by
  kernel_rfl

theorem ok_l01Exp : FnT Try.prog 59 (gExp) := by
  refine fnT tabok_l01Exp Try.func59 rfl rfl ann0 fun vs h v h' e => ⟨0, ?_⟩
  unfold gExp at e
  split at e
  case h_2 => exact (T.no_inv e).elim
  rename_i x
  obtain ⟨hx, e⟩ := T.pre_inv e
  obtain ⟨rfl, rfl⟩ := T.ret_inv e
  refine Eq.trans (run_l01Exp 0 x) ?_
  simp only [fconv_eq, expW_up]
  unfold narOk nar
  have hx' : (fconv .f64 (expD (up x)) .f32).isSome = true := hx
  unfold expF
  cases hy : fconv .f64 (expD (up x)) .f32 with
  | none => rw [hy] at hx'; cases hx'
  | some y => rfl
def tab_ExpNumber : Fns := tabT [(92, gT gED)]
theorem tabok_ExpNumber : ∀ f, FnT Try.prog f (tab_ExpNumber f) := (tabT_cons (k := 92) ok_exponential tabT_nil)
theorem run_ExpNumber (N : Nat) (x : Nat) : run ty tab_ExpNumber ann0 N Try.f61 [.fl .f32 x] []
    = (match fconv .f32 x .f64 with
  | some c1 => (match fconv .f64 (expD c1) .f32 with
    | some c2 => some (.fl .f32 c2, [])
    | none => none)
  | none => none) := by
  kernel_rfl

theorem ok_ExpNumber : FnT Try.prog 61 (gExp) := by
  refine fnT tabok_ExpNumber Try.func61 rfl rfl ann0 fun vs h v h' e => ⟨0, ?_⟩
  unfold gExp at e
  split at e
  case h_2 => exact (T.no_inv e).elim
  rename_i x
  obtain ⟨hx, e⟩ := T.pre_inv e
  obtain ⟨rfl, rfl⟩ := T.ret_inv e
  refine Eq.trans (run_ExpNumber 0 x) ?_
  simp only [fconv_eq]
  have hx' : (fconv .f64 (expD (up x)) .f32).isSome = true := hx
  unfold expF
  cases hy : fconv .f64 (expD (up x)) .f32 with
  | none => rw [hy] at hx'; cases hx'
  | some y => rfl
def crR (r s : Nat) : Nat := expF (fop .sub .f32 0 (fop .quo .f32 (fop .mul .f32 (fop .mul .f32 1070141403 r) r) s))
def crOk (r s : Nat) : Bool := nonB r && (posB s && finB (crR r s))
theorem c_geq : Geq0 .f32 1070141403 := g0_iff.2 (by rw [show FloatKind.f32.format.read 1070141403 = .number false 13176795 (-23) by decide]; exact .inl rfl)
theorem cr_exp {r s : Nat} (hr : nonB r = true) (hs : posB s = true) : expOk (fop .sub .f32 0 (fop .quo .f32 (fop .mul .f32 (fop .mul .f32 1070141403 r) r) s)) = true := by
  obtain ⟨n, j, h1, h2⟩ := pos_num hs
  exact expOk_of (sub0_l0 (quo_g0 (mul_g0 (mul_g0 c_geq (non_geq hr)) (non_geq hr)) h1 h2))
def g_cr : GT := fun vs h => match vs, h with | [.fl .f32 r, .fl .f32 s], [] => .ite (crOk r s) (.ret (pairV true (crR r s)) []) (.ret (pairV false 0) []) | _, _ => .no
theorem nonB_eq (x : Nat) : nonB x = (finB x && !ltB x 0) := by
  have h := not_non x
  cases hf : finB x with
  | false => unfold nonB; rw [hf]; rfl
  | true =>
    rw [hf] at h
    have h : ltB x 0 = !nonB x := h
    rw [h]
    cases nonB x <;> rfl
def tab_crS : Fns := tabT [(57, gT (gF1 nonB)), (58, gT (gF1 posB)), (59, gExp), (52, gNumT)]
theorem tabok_crS : ∀ f, FnT Try.prog f (tab_crS f) := (tabT_cons (k := 57) ok_l02Least (tabT_cons (k := 58) ok_l02Above (tabT_cons (k := 59) ok_l01Exp (tabT_cons (k := 52) ok_l02Number tabT_nil))))
theorem run_crS (N : Nat) (r : Nat) (s : Nat) : run ty tab_crS ann0 N Try.f23 [.fl .f32 r, .fl .f32 s] []
    = (match !(nonB r) with
  | true => some (.tup [.a (.fl .f32 0), .a (.bool false)], [])
  | false => (match !(posB s) with
    | true => some (.tup [.a (.fl .f32 0), .a (.bool false)], [])
    | false => (match expOk (fop .sub .f32 0 (fop .quo .f32 (fop .mul .f32 (fop .mul .f32 1070141403 r) r) s)) with
      | true => (match finB (expF (fop .sub .f32 0 (fop .quo .f32 (fop .mul .f32 (fop .mul .f32 1070141403 r) r) s))) with
        | true => some (.tup [.a (.fl .f32 (expF (fop .sub .f32 0 (fop .quo .f32 (fop .mul .f32 (fop .mul .f32 1070141403 r) r) s)))), .a (.bool true)], [])
        | false => some (.tup [.a (.fl .f32 0), .a (.bool false)], []))
      | false => none))) := by
  kernel_rfl

theorem ok_crS : FnT Try.prog 23 (g_cr) := by
  refine fnT tabok_crS Try.func23 rfl rfl ann0 fun vs h v h' e => ⟨0, ?_⟩
  unfold g_cr at e
  split at e
  case h_2 => exact (T.no_inv e).elim
  rename_i r s
  refine Eq.trans (run_crS 0 r s) (Eq.trans ?_ e)
  show _ = T.k _ _
  simp only [T.k]
  unfold crOk
  cases hr : nonB r
  · rfl
  cases hs : posB s
  · rfl
  rw [cr_exp hr hs]
  show (match finB (crR r s) with | true => some (pairV true (crR r s), ([] : H)) | false => some (pairV false 0, [])) = _
  simp only [Bool.true_and]
  cases finB (crR r s) <;> rfl
def tab_crI : Fns := tabT [(60, gT (gF1 finB)), (55, gAllT posB), (61, gExp), (53, gNumT)]
theorem tabok_crI : ∀ f, FnT Try.prog f (tab_crI f) := (tabT_cons (k := 60) ok_IsFinite (tabT_cons (k := 55) ok_arePositive (tabT_cons (k := 61) ok_ExpNumber (tabT_cons (k := 53) ok_checked tabT_nil))))
theorem run_crI (N : Nat) (r : Nat) (s : Nat) : run ty tab_crI ann0 N Try.f24 [.fl .f32 r, .fl .f32 s] []
    = (match !(finB r) with
  | true => some (.tup [.a (.fl .f32 0), .a (.bool false)], [])
  | false => (match ltB r 0 with
    | true => some (.tup [.a (.fl .f32 0), .a (.bool false)], [])
    | false => (match !(posB s && true) with
      | true => some (.tup [.a (.fl .f32 0), .a (.bool false)], [])
      | false => (match expOk (fop .sub .f32 0 (fop .quo .f32 (fop .mul .f32 (fop .mul .f32 1070141403 r) r) s)) with
        | true => (match finB (expF (fop .sub .f32 0 (fop .quo .f32 (fop .mul .f32 (fop .mul .f32 1070141403 r) r) s))) with
          | true => some (.tup [.a (.fl .f32 (expF (fop .sub .f32 0 (fop .quo .f32 (fop .mul .f32 (fop .mul .f32 1070141403 r) r) s)))), .a (.bool true)], [])
          | false => some (.tup [.a (.fl .f32 0), .a (.bool false)], []))
        | false => none)))) := by
  kernel_rfl

theorem ok_crI : FnT Try.prog 24 (g_cr) := by
  refine fnT tabok_crI Try.func24 rfl rfl ann0 fun vs h v h' e => ⟨0, ?_⟩
  unfold g_cr at e
  split at e
  case h_2 => exact (T.no_inv e).elim
  rename_i r s
  refine Eq.trans (run_crI 0 r s) (Eq.trans ?_ e)
  show _ = T.k _ _
  simp only [T.k]
  unfold crOk
  cases hr : nonB r
  · rw [nonB_eq] at hr
    cases hf : finB r
    · rfl
    · rw [hf] at hr
      have hl : ltB r 0 = true := by simpa using hr
      rw [hl]
      rfl
  have hr2 := hr
  rw [nonB_eq, Bool.and_eq_true] at hr2
  rw [hr2.1, show ltB r 0 = false by simpa using hr2.2]
  cases hs : posB s
  · rfl
  rw [cr_exp hr hs]
  show (match finB (crR r s) with | true => some (pairV true (crR r s), ([] : H)) | false => some (pairV false 0, [])) = _
  simp only [Bool.true_and]
  cases finB (crR r s) <;> rfl
def tab_lawcr : Fns := tabT [(23, g_cr), (24, g_cr), (17, gT gSame)]
theorem tabok_lawcr : ∀ f, FnT Try.prog f (tab_lawcr f) := (tabT_cons (k := 23) ok_crS (tabT_cons (k := 24) ok_crI (tabT_cons (k := 17) ok_sameFloat tabT_nil)))
theorem run_lawcr (N : Nat) (r : Nat) (s : Nat) : run ty tab_lawcr ann0 N Try.f5 [.fl .f32 r, .fl .f32 s] []
    = (match crOk r s with
  | true => (match crOk r s with
    | true => (match fconv .f32 (crR r s) .f64 with
      | some c1 => (match fconv .f32 (crR r s) .f64 with
        | some c2 => (match !(sameB c1 c2) with
          | true => some (.bool false, [])
          | false => some (.bool true, []))
        | none => none)
      | none => none)
    | false => (match fconv .f32 (crR r s) .f64 with
      | some c3 => (match !(sameB 0 c3) with
        | true => some (.bool false, [])
        | false => some (.bool false, []))
      | none => none))
  | false => (match crOk r s with
    | true => (match fconv .f32 (crR r s) .f64 with
      | some c4 => (match !(sameB c4 0) with
        | true => some (.bool false, [])
        | false => some (.bool false, []))
      | none => none)
    | false => (match !(sameB 0 0) with
      | true => some (.bool false, [])
      | false => some (.bool true, [])))) := by
  kernel_rfl

theorem ok_lawCrossShare : FnOk Try.prog 5 (fun vs h => match vs, h with | [.fl .f32 r, .fl .f32 s], [] => some (.bool true, []) | _, _ => none) := by
  refine fnOk tabok_lawcr Try.func5 rfl rfl ann0 fun vs h v h' e => ⟨0, ?_⟩
  split at e
  case h_2 => cases e
  rename_i r s
  cases e
  refine Eq.trans (run_lawcr 0 _ _) ?_
  cases crOk r s <;> simp only [fconv_eq, sameB_self, Bool.not_true]
end Go.Proofs.Ythcjbchkagkaaaa.Ab

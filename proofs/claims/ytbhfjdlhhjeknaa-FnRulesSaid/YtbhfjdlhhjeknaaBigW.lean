/- Functions of digits: products, sums, differences. Only lemmas. Printed by gen_big.py. -/
import Derived.Test.YtbhfjdlhhjeknaaLib
import Derived.Test.YtbhfjdlhhjeknaaNat
namespace Go.Proofs.Ytbhfjdlhhjeknaa.Ab
set_option linter.unusedVariables false
set_option linter.unusedSimpArgs false
open Go
def lowB (v : Nat) : Bool := decide (v < 4294967296 ^ 8)
theorem lowB_len {D : List Int} (hd : okD D) (hl : D.getLast? ≠ some 0) (h : lowB (nv D) = true) : D.length ≤ 8 := trim_len hd hl (of_decide_eq_true h)
theorem drop_lt {D : List Int} {k : Nat} (h : nv D < 4294967296 ^ k) (hk : k ≤ D.length) : nv (D.drop k) = 0 := by
  have h1 := nv_take_drop D k hk
  rcases Nat.eq_zero_or_pos (nv (D.drop k)) with h2 | h2
  · exact h2
  · have := Nat.le_mul_of_pos_right (4294967296 ^ k) h2
    omega
theorem wz2 {i k : Nat} (h : i + k < 2147483648) : IntKind.i64.wrap ((i : Int) + (k : Int)) = ((i + k : Nat) : Int) := by
  rw [wrap_s (by omega) (by omega)]; omega
theorem dltN {i n : Nat} (h : i < n) : decide (0 + ((i : Nat) : Int).toNat * 1 < n) = true := by simp; omega
def GoodD (D E : List Int) (v : Nat) (o : Option (V × H)) : Prop := ∃ A, o = some (.sl 2 0 A.length, [.at false (.int .u32 D), .at false (.int .u32 E), .at true (.int .u32 A)]) ∧ okD A ∧ nv A = v
theorem nat_get {D : List Int} (h : okD D) {i : Nat} (hi : i < D.length) : ∃ x : Nat, D[i]? = some (x : Int) ∧ x < 4294967296 ∧ x = dgt (nv D) i :=
  ⟨dgt (nv D) i, nv_get h hi, dgt_lt _ _, rfl⟩
def an_mulD : Ann := ⟨fun r => if r = 3 then some ([1, 5, 17, 18, 19], [5]) else if r = 7 then some ([1, 5, 6, 7, 8, 17, 18, 19, 24, 25, 26], [1, 5, 6, 8, 17, 18, 19]) else none, fun _ _ => .quiet⟩
def tab_mulD : Fns := tabT []
theorem tabok_mulD : ∀ f, FnT Try.prog f (tab_mulD f) := tabT_nil
def st_mulD3 (t1n : Nat) (t5n : Nat) (t17n : Nat) (t18 : Int) (t19 : Int) (l0 : List Int) (l1 : List Int) (l2 : List Int) : St := ⟨[.any, .ro 1 t1n, .any, .any, .any, .sl 2 0 t5n, .any, .any, .any, .any, .any, .any, .any, .any, .any, .any, .any, .ro 0 t17n, .int .i64 t18, .int .i64 t19, .any, .any, .any, .any, .any, .any, .any, .any, .any, .any, .any, .any, .any, .any, .any, .any, .any, .any, .any, .any, .any, .any, .any, .any, .any, .any, .any, .any, .any, .any, .any, .any, .any, .any, .any, .any, .any, .any, .any, .any, .any, .any, .any, .any, .any, .any], [.at false (.int .u32 l0), .at false (.int .u32 l1), .at true (.int .u32 l2)]⟩
abbrev kp_mulD3 : Option (List Nat × List Nat) := some ([1, 5, 17, 18, 19], [5])
noncomputable def lp_mulD3 {R : Type} (N M : Nat) (s : St) (K : X → St → Option R) : Option R := loopH 2 kp_mulD3 (fun st K => exec ty tab_mulD an_mulD N 2 (atOf [true, true, false, true, false, false] Try.f161) st K) M s K
noncomputable def bk_mulD3 {R : Type} (N M : Nat) (K : X → St → Option R) : X → St → Option R := fun x st => match x with | .norm => tidyK 2 (kp_mulD3.map (·.1)) st fun st => lp_mulD3 N M st K | x => tidyK 2 (kp_mulD3.map (·.2)) st fun st => K x st
noncomputable def kt_mulD3 {R : Type} (N : Nat) (K : X → St → Option R) : X → St → Option R := kBlkR 0 (kSeqR tab_mulD an_mulD N 2 (atOf [true, true, true] Try.f161) (K))
def st_mulD7 (t1n : Nat) (t5n : Nat) (t6 : Int) (t7 : Int) (t8 : Int) (t17n : Nat) (t18 : Int) (t25 : Int) (t26 : Int) (l0 : List Int) (l1 : List Int) (l2 : List Int) : St := ⟨[.any, .ro 1 t1n, .any, .any, .any, .sl 2 0 t5n, .int .i64 t6, .int .u32 t7, .int .u64 t8, .any, .any, .any, .any, .any, .any, .any, .any, .ro 0 t17n, .int .i64 t18, .int .i64 t6, .any, .any, .any, .any, .ro 1 t1n, .int .i64 t25, .int .i64 t26, .any, .any, .any, .any, .any, .any, .any, .any, .any, .any, .any, .any, .any, .any, .any, .any, .any, .any, .any, .any, .any, .any, .any, .any, .any, .any, .any, .any, .any, .any, .any, .any, .any, .any, .any, .any, .any, .any, .any], [.at false (.int .u32 l0), .at false (.int .u32 l1), .at true (.int .u32 l2)]⟩
abbrev kp_mulD7 : Option (List Nat × List Nat) := some ([1, 5, 6, 7, 8, 17, 18, 19, 24, 25, 26], [1, 5, 6, 8, 17, 18, 19])
noncomputable def lp_mulD7 {R : Type} (N M : Nat) (s : St) (K : X → St → Option R) : Option R := loopH 2 kp_mulD7 (fun st K => exec ty tab_mulD an_mulD N 2 (atOf [true, true, false, true, false, false, true, true, false, false, true, true, false, true, false, false] Try.f161) st K) M s K
noncomputable def bk_mulD7 {R : Type} (N M : Nat) (K : X → St → Option R) : X → St → Option R := fun x st => match x with | .norm => tidyK 2 (kp_mulD7.map (·.1)) st fun st => lp_mulD7 N M st K | x => tidyK 2 (kp_mulD7.map (·.2)) st fun st => K x st
noncomputable def kt_mulD7 {R : Type} (N : Nat) (K : X → St → Option R) : X → St → Option R := kBlkR 2 (kSeqR tab_mulD an_mulD N 2 (atOf [true, true, false, true, false, false, true, true, false, false, true, true, true] Try.f161) (kBlkR 1 (kSeqR tab_mulD an_mulD N 2 (atOf [true, true, false, true, false, false, true, true, true] Try.f161) (K))))
def en_mulD3_0 (t5n : Nat) (l0 : List Int) (l1 : List Int) (l2 : List Int) : St := ⟨[.any, .any, .any, .any, .any, .sl 2 0 t5n, .any, .any, .any, .any, .any, .any, .any, .any, .any, .any, .any, .any, .any, .any, .any, .any, .any, .any, .any, .any, .any, .any, .any, .any, .any, .any, .any, .any, .any, .any, .any, .any, .any, .any, .any, .any, .any, .any, .any, .any, .any, .any, .any, .any, .any, .any, .any, .any, .any, .any, .any, .any, .any, .any, .any, .any, .any, .any, .any, .any], [.at false (.int .u32 l0), .at false (.int .u32 l1), .at true (.int .u32 l2)]⟩
def en_mulD7_0 (t1n : Nat) (t5n : Nat) (t6 : Int) (t8 : Int) (t17n : Nat) (t18 : Int) (l0 : List Int) (l1 : List Int) (l2 : List Int) : St := ⟨[.any, .ro 1 t1n, .any, .any, .any, .sl 2 0 t5n, .int .i64 t6, .any, .int .u64 t8, .any, .any, .any, .any, .any, .any, .any, .any, .ro 0 t17n, .int .i64 t18, .int .i64 t6, .any, .any, .any, .any, .any, .any, .any, .any, .any, .any, .any, .any, .any, .any, .any, .any, .any, .any, .any, .any, .any, .any, .any, .any, .any, .any, .any, .any, .any, .any, .any, .any, .any, .any, .any, .any, .any, .any, .any, .any, .any, .any, .any, .any, .any, .any], [.at false (.int .u32 l0), .at false (.int .u32 l1), .at true (.int .u32 l2)]⟩
theorem run_mulD (N : Nat) (n : Nat) (m : Nat) (A : List Int) (B : List Int) : run ty tab_mulD an_mulD N Try.f161 [.ro 0 n, .ro 1 m] [.at false (.int .u32 A), .at false (.int .u32 B)]
    = (match decide (0 ≤ (IntKind.i64.wrap (((n : Nat) : Int) + ((m : Nat) : Int)) : Int) ∧ (IntKind.i64.wrap (((n : Nat) : Int) + ((m : Nat) : Int)) : Int) ≤ (IntKind.i64.wrap (((n : Nat) : Int) + ((m : Nat) : Int))) ∧ (IntKind.i64.wrap (((n : Nat) : Int) + ((m : Nat) : Int)) : Int) ≤ 9223372036854775807 ∧ (IntKind.i64.wrap (((n : Nat) : Int) + ((m : Nat) : Int)) : Int).toNat * 4 ≤ 140737488355328 ∧ 0 < 1 ∧ 1 = 1) with
  | true => lp_mulD3 N N (st_mulD3 m ((IntKind.i64.wrap (((n : Nat) : Int) + ((m : Nat) : Int)) : Int).toNat) n ((n : Nat) : Int) 0 A B (List.replicate ((IntKind.i64.wrap (((n : Nat) : Int) + ((m : Nat) : Int)) : Int).toNat) 0)) (kt_mulD3 N (kEnd Try.f161 2))
  | false => none) := by
  kernel_rfl
theorem step_mulD3 {R : Type} (N M : Nat) (K : X → St → Option R) (t1n : Nat) (t5n : Nat) (t17n : Nat) (t18 : Int) (t19 : Int) (l0 : List Int) (l1 : List Int) (l2 : List Int) : lp_mulD3 N (M + 1) (st_mulD3 t1n t5n t17n t18 t19 l0 l1 l2) K
    = (match decide ((t19 : Int) < t18) with
  | true => (match decide (0 ≤ (t19 : Int) ∧ (t19 : Int) < ((t17n : Nat) : Int)) with
    | true => (match l0[0 + (t19).toNat * 1]? with
      | some e1 => lp_mulD7 N N (st_mulD7 t1n t5n t19 e1 0 t17n t18 ((t1n : Nat) : Int) 0 l0 l1 l2) (kt_mulD7 N (bk_mulD3 N M K))
      | none => none)
    | false => none)
  | false => K (.exit 0) (en_mulD3_0 t5n l0 l1 l2)) := by
  kernel_rfl
theorem step_mulD7 {R : Type} (N M : Nat) (K : X → St → Option R) (t1n : Nat) (t5n : Nat) (t6 : Int) (t7 : Int) (t8 : Int) (t17n : Nat) (t18 : Int) (t25 : Int) (t26 : Int) (l0 : List Int) (l1 : List Int) (l2 : List Int) : lp_mulD7 N (M + 1) (st_mulD7 t1n t5n t6 t7 t8 t17n t18 t25 t26 l0 l1 l2) K
    = (match decide ((t26 : Int) < t25) with
  | true => (match decide (0 ≤ (t26 : Int) ∧ (t26 : Int) < ((t1n : Nat) : Int)) with
    | true => (match l1[0 + (t26).toNat * 1]? with
      | some e1 => (match decide (0 ≤ (IntKind.i64.wrap (t6 + t26) : Int) ∧ (IntKind.i64.wrap (t6 + t26) : Int) < ((t5n : Nat) : Int)) with
        | true => (match l2[0 + (IntKind.i64.wrap (t6 + t26)).toNat * 1]? with
          | some e2 => (match decide (0 ≤ (IntKind.i64.wrap (t6 + t26) : Int) ∧ (IntKind.i64.wrap (t6 + t26) : Int) < ((t5n : Nat) : Int)) with
            | true => (match decide (0 + (IntKind.i64.wrap (t6 + t26)).toNat * 1 < l2.length) with
              | true => lp_mulD7 N M (st_mulD7 t1n t5n t6 t7 (Int.fdiv (IntKind.u64.wrap (t8 + (IntKind.u64.wrap ((IntKind.u64.wrap ((IntKind.u64.wrap t7) * (IntKind.u64.wrap e1))) + (IntKind.u64.wrap e2))))) (2 ^ 32)) t17n t18 t25 (IntKind.i64.wrap (t26 + 1)) l0 l1 (l2.set (0 + (IntKind.i64.wrap (t6 + t26)).toNat * 1) (IntKind.u32.wrap (IntKind.u64.wrap (t8 + (IntKind.u64.wrap ((IntKind.u64.wrap ((IntKind.u64.wrap t7) * (IntKind.u64.wrap e1))) + (IntKind.u64.wrap e2)))))))) K
              | false => none)
            | false => none)
          | none => none)
        | false => none)
      | none => none)
    | false => none)
  | false => K (.exit 2) (en_mulD7_0 t1n t5n t6 t8 t17n t18 l0 l1 l2)) := by
  kernel_rfl
theorem end_mulD3_0 (N : Nat) (t5n : Nat) (l0 : List Int) (l1 : List Int) (l2 : List Int) : kt_mulD3 N (kEnd Try.f161 2) (.exit 0) (en_mulD3_0 t5n l0 l1 l2)
    = some (.sl 2 0 t5n, [.at false (.int .u32 l0), .at false (.int .u32 l1), .at true (.int .u32 l2)]) := by
  kernel_rfl
theorem end_mulD7_0 {R : Type} (N M : Nat) (K : X → St → Option R) (t1n : Nat) (t5n : Nat) (t6 : Int) (t8 : Int) (t17n : Nat) (t18 : Int) (l0 : List Int) (l1 : List Int) (l2 : List Int) : kt_mulD7 N (bk_mulD3 N M K) (.exit 2) (en_mulD7_0 t1n t5n t6 t8 t17n t18 l0 l1 l2)
    = (match decide (0 ≤ (IntKind.i64.wrap (t6 + ((t1n : Nat) : Int)) : Int) ∧ (IntKind.i64.wrap (t6 + ((t1n : Nat) : Int)) : Int) < ((t5n : Nat) : Int)) with
  | true => (match decide (0 + (IntKind.i64.wrap (t6 + ((t1n : Nat) : Int))).toNat * 1 < l2.length) with
    | true => lp_mulD3 N M (st_mulD3 t1n t5n t17n t18 (IntKind.i64.wrap (t6 + 1)) l0 l1 (l2.set (0 + (IntKind.i64.wrap (t6 + ((t1n : Nat) : Int))).toNat * 1) (IntKind.u32.wrap t8))) K
    | false => none)
  | false => none) := by
  kernel_rfl

theorem mulD_step {a b x y P k B : Nat} {N N' c o t : Nat} (h : N + P * c = a + x * B * b) (ht : t = c + (x * y + o)) (hs : N' + P * o = N + P * (t % 4294967296)) (hp : P = B * k) (hb : P * 4294967296 * (t / 4294967296) = P * (4294967296 * (t / 4294967296))) : N' + P * 4294967296 * (t / 4294967296) = a + x * B * (b + k * y) := by
  have h1 : P * t = P * (t % 4294967296) + P * (4294967296 * (t / 4294967296)) := by rw [← Nat.mul_add, Nat.mod_add_div]
  have h2 : P * t = P * c + (P * (x * y) + P * o) := by rw [ht, Nat.mul_add, Nat.mul_add]
  have h3 : x * B * (b + k * y) = x * B * b + P * (x * y) := by
    rw [Nat.mul_add, hp]
    congr 1
    ac_rfl
  rw [hb]
  omega
theorem ok_mulD : FnT Try.prog 161 (gBig2 (fun v w => v * w) (fun v w => lowB v && lowB w)) := by
  refine FnT.big2 tabok_mulD Try.func161 rfl rfl an_mulD _ _ fun D E hD hE hDl hEl hp => ?_
  rw [Bool.and_eq_true] at hp
  have hn := lowB_len hD hDl hp.1
  have hm := lowB_len hE hEl hp.2
  have hDv := nv_lt hD
  have hEv := nv_lt hE
  refine ⟨20, ?_⟩
  show GoodD D E (nv D * nv E) _
  rw [run_mulD, wz2 (by omega), decide_eq_true (by omega)]
  dsimp only
  rw [Int.toNat_natCast]
  refine loop_fuel (fun M (s : Nat × List Int) => lp_mulD3 20 M (st_mulD3 E.length (D.length + E.length) D.length (D.length : Int) (s.1 : Int) D E s.2) (kt_mulD3 20 (kEnd Try.f161 2)))
    (fun s => s.1 ≤ D.length ∧ okD s.2 ∧ s.2.length = D.length + E.length ∧ nv s.2 = (nv D % 4294967296 ^ s.1) * nv E) (fun s => D.length - s.1) (GoodD D E (nv D * nv E)) (fun M s hs => ?_) (s := (0, List.replicate (D.length + E.length) 0)) ⟨Nat.zero_le _, .zeros _, by simp, by simp [nv_zeros, Nat.mod_one]⟩ (by show _ < 20; omega)
  obtain ⟨i, l⟩ := s
  obtain ⟨hi, hl, hlen, hv⟩ := hs
  dsimp only at hi hl hlen hv ⊢
  by_cases hlt : i < D.length
  · right
    obtain ⟨x, hx, hxb, hxd⟩ := nat_get hD hlt
    simp only [step_mulD3, dlt hlt, din hlt, ix, hx]
    refine loop_fuel (fun M' (s : Nat × Nat × List Int) => lp_mulD7 20 M' (st_mulD7 E.length (D.length + E.length) (i : Int) (x : Int) (s.2.1 : Int) D.length (D.length : Int) (E.length : Int) (s.1 : Int) D E s.2.2) (kt_mulD7 20 (bk_mulD3 20 M (kt_mulD3 20 (kEnd Try.f161 2)))))
      (fun s => s.1 ≤ E.length ∧ okD s.2.2 ∧ s.2.2.length = D.length + E.length ∧ s.2.1 < 4294967296 ∧ nv (s.2.2.drop (i + E.length)) = 0 ∧ nv s.2.2 + 4294967296 ^ (i + s.1) * s.2.1 = nv l + x * 4294967296 ^ i * (nv E % 4294967296 ^ s.1)) (fun s => E.length - s.1)
      (fun o => ∃ s' : Nat × List Int, (s'.1 ≤ D.length ∧ okD s'.2 ∧ s'.2.length = D.length + E.length ∧ nv s'.2 = (nv D % 4294967296 ^ s'.1) * nv E) ∧ D.length - s'.1 < D.length - i ∧ o = lp_mulD3 20 M (st_mulD3 E.length (D.length + E.length) D.length (D.length : Int) (s'.1 : Int) D E s'.2) (kt_mulD3 20 (kEnd Try.f161 2))) (fun M' s hs => ?_) (s := (0, 0, l)) ⟨Nat.zero_le _, hl, hlen, Nat.succ_pos _, ?_, by simp [Nat.mod_one]⟩ (by show _ < 20; omega)
    · obtain ⟨k, c, l2⟩ := s
      obtain ⟨hk, hl2, hlen2, hc, hz, hv2⟩ := hs
      dsimp only at hk hl2 hlen2 hc hz hv2 ⊢
      by_cases hkt : k < E.length
      · right
        obtain ⟨y, hy, hyb, hyd⟩ := nat_get hE hkt
        obtain ⟨o, ho, hob, _⟩ := nat_get hl2 (show i + k < l2.length by omega)
        have hxy := mulB hxb hyb
        have ht : IntKind.u64.wrap ((c : Int) + IntKind.u64.wrap (IntKind.u64.wrap (IntKind.u64.wrap (x : Int) * IntKind.u64.wrap (y : Int)) + IntKind.u64.wrap (o : Int))) = ((c + (x * y + o) : Nat) : Int) := by
          rw [wrap64 (n := x) (by omega), wrap64 (n := y) (by omega), wrap64 (n := o) (by omega), ← Int.natCast_mul, wrap64 (by omega), ← Int.natCast_add, wrap64 (by omega), ← Int.natCast_add, wrap64 (by omega)]
        refine ⟨(k + 1, (c + (x * y + o)) / 4294967296, l2.set (i + k) (((c + (x * y + o)) % 4294967296 : Nat) : Int)), ⟨by omega, hl2.set _ (by omega), by simpa using hlen2, ?_, ?_, ?_⟩, by dsimp only; omega, ?_⟩
        · dsimp only; omega
        · dsimp only; rw [drop_set (by omega)]; exact hz
        · dsimp only
          have h1 := nv_set ho (((c + (x * y + o)) % 4294967296 : Nat) : Int)
          rw [Int.toNat_natCast, Int.toNat_natCast] at h1
          rw [mod_succ, ← hyd, show i + (k + 1) = i + k + 1 by omega, Nat.pow_succ]
          exact mulD_step hv2 rfl h1 (Nat.pow_add _ _ _) (Nat.mul_assoc _ _ _)
        · simp only [step_mulD7, dlt hkt, din hkt, ix, hy, wz2 (show i + k < 2147483648 by omega), din (show i + k < D.length + E.length by omega), ho, decide_eq_true (show i + k < l2.length by omega), ht, wrap32, shr32, wr (show k < 2147483648 by omega)]
      · left
        have e : k = E.length := by omega
        subst e
        obtain ⟨o, ho, hob, _⟩ := nat_get hl2 (show i + E.length < l2.length by omega)
        have ho0 := drop_zero hl2 hz (Nat.le_refl _) ho
        refine ⟨(i + 1, l2.set (i + E.length) (c : Int)), ⟨by dsimp only; omega, hl2.set _ (by omega), by simpa using hlen2, ?_⟩, by dsimp only; omega, ?_⟩
        · dsimp only
          have h1 := nv_set ho (c : Int)
          rw [Int.toNat_natCast, Int.toNat_natCast, show o = 0 by omega, Nat.mul_zero, Nat.add_zero] at h1
          rw [h1, hv2, hv, mod_succ, ← hxd, mod_all hEv (Nat.le_refl _), Nat.add_mul]
          congr 1
          ac_rfl
        · simp only [step_mulD7, dge (Nat.le_refl _), end_mulD7_0, wz2 (show i + E.length < 2147483648 by omega), din (show i + E.length < D.length + E.length by omega), ix, decide_eq_true (show i + E.length < l2.length by omega), wrap32, Nat.mod_eq_of_lt hc, wr (show i < 2147483648 by omega)]
    · dsimp only
      refine drop_lt ?_ (by omega)
      rw [hv, Nat.pow_add]
      exact Nat.lt_of_le_of_lt (Nat.mul_le_mul_right _ (Nat.le_of_lt (Nat.mod_lt _ (bpow_pos i)))) (Nat.mul_lt_mul_of_pos_left hEv (bpow_pos i))
  · left
    have e : i = D.length := by omega
    subst e
    refine ⟨l, ?_, hl, by rw [hv, mod_all hDv (Nat.le_refl _)]⟩
    simp only [step_mulD3, dge (Nat.le_refl _), end_mulD3_0, hlen]
def an_addD : Ann := ⟨fun r => if r = 3 then some ([0, 1, 5, 6, 7], [5]) else none, fun _ _ => .quiet⟩
def tab_addD : Fns := tabT []
theorem tabok_addD : ∀ f, FnT Try.prog f (tab_addD f) := tabT_nil
def st_addD3 (a0n : Nat) (b1n : Nat) (out5n : Nat) (carry6 : Int) (i7 : Int) (l0 : List Int) (l1 : List Int) (l2 : List Int) : St := ⟨[.ro 0 a0n, .ro 1 b1n, .any, .any, .any, .sl 2 0 out5n, .int .u64 carry6, .int .i64 i7, .any, .any, .any, .any, .any, .any, .any, .any, .any, .any, .any, .any, .any, .any, .any, .any, .any, .any, .any, .any, .any, .any, .any, .any, .any, .any, .any, .any, .any, .any, .any, .any, .any, .any, .any, .any, .any, .any, .any, .any, .any, .any, .any, .any, .any, .any, .any, .any, .any, .any, .any, .any, .any], [.at false (.int .u32 l0), .at false (.int .u32 l1), .at true (.int .u32 l2)]⟩
abbrev kp_addD3 : Option (List Nat × List Nat) := some ([0, 1, 5, 6, 7], [5])
noncomputable def lp_addD3 {R : Type} (N M : Nat) (s : St) (K : X → St → Option R) : Option R := loopH 2 kp_addD3 (fun st K => exec ty tab_addD an_addD N 2 (atOf [true, true, false, true, false, false] Try.f175) st K) M s K
noncomputable def bk_addD3 {R : Type} (N M : Nat) (K : X → St → Option R) : X → St → Option R := fun x st => match x with | .norm => tidyK 2 (kp_addD3.map (·.1)) st fun st => lp_addD3 N M st K | x => tidyK 2 (kp_addD3.map (·.2)) st fun st => K x st
noncomputable def kt_addD3 {R : Type} (N : Nat) (K : X → St → Option R) : X → St → Option R := kBlkR 0 (kSeqR tab_addD an_addD N 2 (atOf [true, true, true] Try.f175) (K))
def en_addD3_0 (out5n : Nat) (l0 : List Int) (l1 : List Int) (l2 : List Int) : St := ⟨[.any, .any, .any, .any, .any, .sl 2 0 out5n, .any, .any, .any, .any, .any, .any, .any, .any, .any, .any, .any, .any, .any, .any, .any, .any, .any, .any, .any, .any, .any, .any, .any, .any, .any, .any, .any, .any, .any, .any, .any, .any, .any, .any, .any, .any, .any, .any, .any, .any, .any, .any, .any, .any, .any, .any, .any, .any, .any, .any, .any, .any, .any, .any, .any], [.at false (.int .u32 l0), .at false (.int .u32 l1), .at true (.int .u32 l2)]⟩
theorem run_addD (N : Nat) (n : Nat) (m : Nat) (A : List Int) (B : List Int) : run ty tab_addD an_addD N Try.f175 [.ro 0 n, .ro 1 m] [.at false (.int .u32 A), .at false (.int .u32 B)]
    = (match decide (0 ≤ (0 : Int) ∧ (0 : Int) ≤ (IntKind.i64.wrap ((if ((m : Nat) : Int) > ((n : Nat) : Int) then ((m : Nat) : Int) else ((n : Nat) : Int)) + 1)) ∧ (IntKind.i64.wrap ((if ((m : Nat) : Int) > ((n : Nat) : Int) then ((m : Nat) : Int) else ((n : Nat) : Int)) + 1) : Int) ≤ 9223372036854775807 ∧ (IntKind.i64.wrap ((if ((m : Nat) : Int) > ((n : Nat) : Int) then ((m : Nat) : Int) else ((n : Nat) : Int)) + 1) : Int).toNat * 4 ≤ 140737488355328 ∧ 0 < 1 ∧ 1 = 1) with
  | true => lp_addD3 N N (st_addD3 n m 0 0 0 A B []) (kt_addD3 N (kEnd Try.f175 2))
  | false => none) := by
  kernel_rfl
theorem step_addD3 {R : Type} (N M : Nat) (K : X → St → Option R) (a0n : Nat) (b1n : Nat) (out5n : Nat) (carry6 : Int) (i7 : Int) (l0 : List Int) (l1 : List Int) (l2 : List Int) : lp_addD3 N (M + 1) (st_addD3 a0n b1n out5n carry6 i7 l0 l1 l2) K
    = (match decide ((i7 : Int) < ((a0n : Nat) : Int)) with
  | true => (match decide ((i7 : Int) < ((a0n : Nat) : Int)) with
    | true => (match decide (0 ≤ (i7 : Int) ∧ (i7 : Int) < ((a0n : Nat) : Int)) with
      | true => (match l0[0 + (i7).toNat * 1]? with
        | some e1 => (match decide ((i7 : Int) < ((b1n : Nat) : Int)) with
          | true => (match decide (0 ≤ (i7 : Int) ∧ (i7 : Int) < ((b1n : Nat) : Int)) with
            | true => (match l1[0 + (i7).toNat * 1]? with
              | some e2 => (match apok true out5n 1 l2.length 1 (out5n + 1) 4 with
                | true => lp_addD3 N M (st_addD3 a0n b1n (out5n + 1) (Int.fdiv (IntKind.u64.wrap ((IntKind.u64.wrap (carry6 + (IntKind.u64.wrap e1))) + (IntKind.u64.wrap e2))) (2 ^ 32)) (IntKind.i64.wrap (i7 + 1)) l0 l1 (l2 ++ [IntKind.u32.wrap (IntKind.u64.wrap ((IntKind.u64.wrap (carry6 + (IntKind.u64.wrap e1))) + (IntKind.u64.wrap e2)))])) K
                | false => none)
              | none => none)
            | false => none)
          | false => (match apok true out5n 1 l2.length 1 (out5n + 1) 4 with
            | true => lp_addD3 N M (st_addD3 a0n b1n (out5n + 1) (Int.fdiv (IntKind.u64.wrap (carry6 + (IntKind.u64.wrap e1))) (2 ^ 32)) (IntKind.i64.wrap (i7 + 1)) l0 l1 (l2 ++ [IntKind.u32.wrap (IntKind.u64.wrap (carry6 + (IntKind.u64.wrap e1)))])) K
            | false => none))
        | none => none)
      | false => none)
    | false => (match decide ((i7 : Int) < ((b1n : Nat) : Int)) with
      | true => (match decide (0 ≤ (i7 : Int) ∧ (i7 : Int) < ((b1n : Nat) : Int)) with
        | true => (match l1[0 + (i7).toNat * 1]? with
          | some e3 => (match apok true out5n 1 l2.length 1 (out5n + 1) 4 with
            | true => lp_addD3 N M (st_addD3 a0n b1n (out5n + 1) (Int.fdiv (IntKind.u64.wrap (carry6 + (IntKind.u64.wrap e3))) (2 ^ 32)) (IntKind.i64.wrap (i7 + 1)) l0 l1 (l2 ++ [IntKind.u32.wrap (IntKind.u64.wrap (carry6 + (IntKind.u64.wrap e3)))])) K
            | false => none)
          | none => none)
        | false => none)
      | false => (match apok true out5n 1 l2.length 1 (out5n + 1) 4 with
        | true => lp_addD3 N M (st_addD3 a0n b1n (out5n + 1) (Int.fdiv carry6 (2 ^ 32)) (IntKind.i64.wrap (i7 + 1)) l0 l1 (l2 ++ [IntKind.u32.wrap carry6])) K
        | false => none)))
  | false => (match decide ((i7 : Int) < ((b1n : Nat) : Int)) with
    | true => (match decide ((i7 : Int) < ((a0n : Nat) : Int)) with
      | true => (match decide (0 ≤ (i7 : Int) ∧ (i7 : Int) < ((a0n : Nat) : Int)) with
        | true => (match l0[0 + (i7).toNat * 1]? with
          | some e4 => (match decide ((i7 : Int) < ((b1n : Nat) : Int)) with
            | true => (match decide (0 ≤ (i7 : Int) ∧ (i7 : Int) < ((b1n : Nat) : Int)) with
              | true => (match l1[0 + (i7).toNat * 1]? with
                | some e5 => (match apok true out5n 1 l2.length 1 (out5n + 1) 4 with
                  | true => lp_addD3 N M (st_addD3 a0n b1n (out5n + 1) (Int.fdiv (IntKind.u64.wrap ((IntKind.u64.wrap (carry6 + (IntKind.u64.wrap e4))) + (IntKind.u64.wrap e5))) (2 ^ 32)) (IntKind.i64.wrap (i7 + 1)) l0 l1 (l2 ++ [IntKind.u32.wrap (IntKind.u64.wrap ((IntKind.u64.wrap (carry6 + (IntKind.u64.wrap e4))) + (IntKind.u64.wrap e5)))])) K
                  | false => none)
                | none => none)
              | false => none)
            | false => (match apok true out5n 1 l2.length 1 (out5n + 1) 4 with
              | true => lp_addD3 N M (st_addD3 a0n b1n (out5n + 1) (Int.fdiv (IntKind.u64.wrap (carry6 + (IntKind.u64.wrap e4))) (2 ^ 32)) (IntKind.i64.wrap (i7 + 1)) l0 l1 (l2 ++ [IntKind.u32.wrap (IntKind.u64.wrap (carry6 + (IntKind.u64.wrap e4)))])) K
              | false => none))
          | none => none)
        | false => none)
      | false => (match decide ((i7 : Int) < ((b1n : Nat) : Int)) with
        | true => (match decide (0 ≤ (i7 : Int) ∧ (i7 : Int) < ((b1n : Nat) : Int)) with
          | true => (match l1[0 + (i7).toNat * 1]? with
            | some e6 => (match apok true out5n 1 l2.length 1 (out5n + 1) 4 with
              | true => lp_addD3 N M (st_addD3 a0n b1n (out5n + 1) (Int.fdiv (IntKind.u64.wrap (carry6 + (IntKind.u64.wrap e6))) (2 ^ 32)) (IntKind.i64.wrap (i7 + 1)) l0 l1 (l2 ++ [IntKind.u32.wrap (IntKind.u64.wrap (carry6 + (IntKind.u64.wrap e6)))])) K
              | false => none)
            | none => none)
          | false => none)
        | false => (match apok true out5n 1 l2.length 1 (out5n + 1) 4 with
          | true => lp_addD3 N M (st_addD3 a0n b1n (out5n + 1) (Int.fdiv carry6 (2 ^ 32)) (IntKind.i64.wrap (i7 + 1)) l0 l1 (l2 ++ [IntKind.u32.wrap carry6])) K
          | false => none)))
    | false => (match decide ((carry6 : Int) > 0) with
      | true => (match decide ((i7 : Int) < ((a0n : Nat) : Int)) with
        | true => (match decide (0 ≤ (i7 : Int) ∧ (i7 : Int) < ((a0n : Nat) : Int)) with
          | true => (match l0[0 + (i7).toNat * 1]? with
            | some e7 => (match decide ((i7 : Int) < ((b1n : Nat) : Int)) with
              | true => (match decide (0 ≤ (i7 : Int) ∧ (i7 : Int) < ((b1n : Nat) : Int)) with
                | true => (match l1[0 + (i7).toNat * 1]? with
                  | some e8 => (match apok true out5n 1 l2.length 1 (out5n + 1) 4 with
                    | true => lp_addD3 N M (st_addD3 a0n b1n (out5n + 1) (Int.fdiv (IntKind.u64.wrap ((IntKind.u64.wrap (carry6 + (IntKind.u64.wrap e7))) + (IntKind.u64.wrap e8))) (2 ^ 32)) (IntKind.i64.wrap (i7 + 1)) l0 l1 (l2 ++ [IntKind.u32.wrap (IntKind.u64.wrap ((IntKind.u64.wrap (carry6 + (IntKind.u64.wrap e7))) + (IntKind.u64.wrap e8)))])) K
                    | false => none)
                  | none => none)
                | false => none)
              | false => (match apok true out5n 1 l2.length 1 (out5n + 1) 4 with
                | true => lp_addD3 N M (st_addD3 a0n b1n (out5n + 1) (Int.fdiv (IntKind.u64.wrap (carry6 + (IntKind.u64.wrap e7))) (2 ^ 32)) (IntKind.i64.wrap (i7 + 1)) l0 l1 (l2 ++ [IntKind.u32.wrap (IntKind.u64.wrap (carry6 + (IntKind.u64.wrap e7)))])) K
                | false => none))
            | none => none)
          | false => none)
        | false => (match decide ((i7 : Int) < ((b1n : Nat) : Int)) with
          | true => (match decide (0 ≤ (i7 : Int) ∧ (i7 : Int) < ((b1n : Nat) : Int)) with
            | true => (match l1[0 + (i7).toNat * 1]? with
              | some e9 => (match apok true out5n 1 l2.length 1 (out5n + 1) 4 with
                | true => lp_addD3 N M (st_addD3 a0n b1n (out5n + 1) (Int.fdiv (IntKind.u64.wrap (carry6 + (IntKind.u64.wrap e9))) (2 ^ 32)) (IntKind.i64.wrap (i7 + 1)) l0 l1 (l2 ++ [IntKind.u32.wrap (IntKind.u64.wrap (carry6 + (IntKind.u64.wrap e9)))])) K
                | false => none)
              | none => none)
            | false => none)
          | false => (match apok true out5n 1 l2.length 1 (out5n + 1) 4 with
            | true => lp_addD3 N M (st_addD3 a0n b1n (out5n + 1) (Int.fdiv carry6 (2 ^ 32)) (IntKind.i64.wrap (i7 + 1)) l0 l1 (l2 ++ [IntKind.u32.wrap carry6])) K
            | false => none)))
      | false => K (.exit 0) (en_addD3_0 out5n l0 l1 l2)))) := by
  kernel_rfl
theorem end_addD3_0 (N : Nat) (out5n : Nat) (l0 : List Int) (l1 : List Int) (l2 : List Int) : kt_addD3 N (kEnd Try.f175 2) (.exit 0) (en_addD3_0 out5n l0 l1 l2)
    = some (.sl 2 0 out5n, [.at false (.int .u32 l0), .at false (.int .u32 l1), .at true (.int .u32 l2)]) := by
  kernel_rfl

theorem ok_addD : FnT Try.prog 175 (gBig2 (fun v w => v + w) (fun v w => lowB v && lowB w)) := by
  refine FnT.big2 tabok_addD Try.func175 rfl rfl an_addD _ _ fun D E hD hE hDl hEl hp => ?_
  rw [Bool.and_eq_true] at hp
  have hn := lowB_len hD hDl hp.1
  have hm := lowB_len hE hEl hp.2
  have hDv := nv_lt hD
  have hEv := nv_lt hE
  refine ⟨40, ?_⟩
  show GoodD D E (nv D + nv E) _
  have hmx : IntKind.i64.wrap ((if (E.length : Int) > (D.length : Int) then (E.length : Int) else (D.length : Int)) + 1) = ((max D.length E.length + 1 : Nat) : Int) := by
    rw [wrap_s (by split <;> omega) (by split <;> omega)]
    split <;> omega
  rw [run_addD, hmx, decide_eq_true (by omega)]
  dsimp only
  refine loop_fuel (fun M (s : Nat × Nat × List Int) => lp_addD3 40 M (st_addD3 D.length E.length s.1 (s.2.1 : Int) (s.1 : Int) D E s.2.2) (kt_addD3 40 (kEnd Try.f175 2)))
    (fun s => s.1 ≤ max D.length E.length + 1 ∧ okD s.2.2 ∧ s.2.2.length = s.1 ∧ s.2.1 ≤ 1 ∧ nv s.2.2 + 4294967296 ^ s.1 * s.2.1 = nv D % 4294967296 ^ s.1 + nv E % 4294967296 ^ s.1) (fun s => 2 * (max D.length E.length - s.1) + s.2.1) (GoodD D E (nv D + nv E)) (fun M s hs => ?_) (s := (0, 0, [])) ⟨Nat.zero_le _, (fun x hx => by cases hx), rfl, by simp, by simp [nv, Nat.mod_one]⟩ (by show _ < 40; dsimp only; omega)
  obtain ⟨i, c, l⟩ := s
  obtain ⟨hi, hl, hlen, hc, hv⟩ := hs
  dsimp only at hi hl hlen hc hv ⊢
  have fin : ∀ x y : Nat, x < 4294967296 → y < 4294967296 → x = dgt (nv D) i → y = dgt (nv E) i → nv (l ++ [(((c + x + y) % 4294967296 : Nat) : Int)]) + 4294967296 ^ (i + 1) * ((c + x + y) / 4294967296) = nv D % 4294967296 ^ (i + 1) + nv E % 4294967296 ^ (i + 1) := by
    intro x y _ _ hx hy
    rw [nv_snoc, hlen, Int.toNat_natCast, mod_succ, mod_succ, ← hx, ← hy, Nat.pow_succ, Nat.mul_assoc, Nat.add_assoc (nv l), ← Nat.mul_add, Nat.mod_add_div, Nat.mul_add, Nat.mul_add]
    omega
  have sk : ∀ t : Nat, okD (l ++ [((t % 4294967296 : Nat) : Int)]) := fun t => hl.snoc (by omega)
  have hap := apc hlen (show i < 2147483648 by omega) (show 4 ≤ 16 by omega)
  have hw := wr (show i < 2147483648 by omega)
  by_cases h1 : i < D.length
  · obtain ⟨x, hx, hxb, hxd⟩ := nat_get hD h1
    right
    by_cases h2 : i < E.length
    · obtain ⟨y, hy, hyb, hyd⟩ := nat_get hE h2
      have ht : IntKind.u64.wrap (IntKind.u64.wrap ((c : Int) + IntKind.u64.wrap (x : Int)) + IntKind.u64.wrap (y : Int)) = ((c + x + y : Nat) : Int) := by
        rw [wrap64 (n := x) (by omega), wrap64 (n := y) (by omega), ← Int.natCast_add, wrap64 (by omega), ← Int.natCast_add, wrap64 (by omega)]
      refine ⟨(i + 1, (c + x + y) / 4294967296, l ++ [(((c + x + y) % 4294967296 : Nat) : Int)]), ⟨by dsimp only; omega, sk _, by simp [hlen], by dsimp only; omega, fin x y hxb hyb hxd hyd⟩, by dsimp only; omega, ?_⟩
      simp only [step_addD3, dlt h1, dlt h2, din h1, din h2, ix, hx, hy, hap, ht, wrap32, shr32, hw]
    · have ht : IntKind.u64.wrap ((c : Int) + IntKind.u64.wrap (x : Int)) = ((c + x + 0 : Nat) : Int) := by
        rw [wrap64 (n := x) (by omega), ← Int.natCast_add, wrap64 (by omega), Nat.add_zero]
      refine ⟨(i + 1, (c + x + 0) / 4294967296, l ++ [(((c + x + 0) % 4294967296 : Nat) : Int)]), ⟨by dsimp only; omega, sk _, by simp [hlen], by dsimp only; omega, fin x 0 hxb (by decide) hxd (dgt_high hEv (by omega)).symm⟩, by dsimp only; omega, ?_⟩
      simp only [step_addD3, dlt h1, dge (show E.length ≤ i by omega), din h1, ix, hx, hap, ht, wrap32, shr32, hw]
  · by_cases h2 : i < E.length
    · obtain ⟨y, hy, hyb, hyd⟩ := nat_get hE h2
      right
      have ht : IntKind.u64.wrap ((c : Int) + IntKind.u64.wrap (y : Int)) = ((c + 0 + y : Nat) : Int) := by
        rw [wrap64 (n := y) (by omega), ← Int.natCast_add, wrap64 (by omega), Nat.add_zero]
      refine ⟨(i + 1, (c + 0 + y) / 4294967296, l ++ [(((c + 0 + y) % 4294967296 : Nat) : Int)]), ⟨by dsimp only; omega, sk _, by simp [hlen], by dsimp only; omega, fin 0 y (by decide) hyb (dgt_high hDv (by omega)).symm hyd⟩, by dsimp only; omega, ?_⟩
      simp only [step_addD3, dlt h2, dge (show D.length ≤ i by omega), din h2, ix, hy, hap, ht, wrap32, shr32, hw]
    · by_cases h3 : c = 0
      · left
        subst h3
        refine ⟨l, ?_, hl, by rw [mod_all hDv (by omega), mod_all hEv (by omega)] at hv; simpa using hv⟩
        simp only [step_addD3, dge (show D.length ≤ i by omega), dge (show E.length ≤ i by omega), decide_eq_false (show ¬ (((0 : Nat) : Int) > 0) by omega), end_addD3_0, hlen]
      · right
        have e : c = 1 := by omega
        subst e
        have hi2 : i ≤ max D.length E.length := by
          apply Nat.le_of_not_lt
          intro h4
          rw [mod_all hDv (by omega), mod_all hEv (by omega)] at hv
          have h5 : nv D < 4294967296 ^ (i - 1) := Nat.lt_of_lt_of_le hDv (Nat.pow_le_pow_right (by decide) (by omega))
          have h6 : nv E < 4294967296 ^ (i - 1) := Nat.lt_of_lt_of_le hEv (Nat.pow_le_pow_right (by decide) (by omega))
          have h7 : 4294967296 ^ i = 4294967296 ^ (i - 1) * 4294967296 := by rw [← Nat.pow_succ]; congr 1; omega
          omega
        refine ⟨(i + 1, (1 + 0 + 0) / 4294967296, l ++ [(((1 + 0 + 0) % 4294967296 : Nat) : Int)]), ⟨by dsimp only; omega, sk _, by simp [hlen], by dsimp only; omega, fin 0 0 (by decide) (by decide) (dgt_high hDv (by omega)).symm (dgt_high hEv (by omega)).symm⟩, by dsimp only; omega, ?_⟩
        simp only [step_addD3, dge (show D.length ≤ i by omega), dge (show E.length ≤ i by omega), decide_eq_true (show ((1 : Nat) : Int) > 0 by omega), hap, hw]
        rfl
def an_subD : Ann := ⟨fun r => if r = 3 then some ([1, 5, 6, 13, 14, 15], [5]) else none, fun _ _ => .quiet⟩
def tab_subD : Fns := tabT []
theorem tabok_subD : ∀ f, FnT Try.prog f (tab_subD f) := tabT_nil
def st_subD3 (b1n : Nat) (out5n : Nat) (borrow6 : Int) (t13n : Nat) (t14 : Int) (t15 : Int) (l0 : List Int) (l1 : List Int) (l2 : List Int) : St := ⟨[.any, .ro 1 b1n, .any, .any, .any, .sl 2 0 out5n, .int .u64 borrow6, .any, .any, .any, .any, .any, .any, .ro 0 t13n, .int .i64 t14, .int .i64 t15, .any, .any, .any, .any, .any, .any, .any, .any, .any, .any, .any, .any, .any, .any, .any, .any, .any, .any, .any, .any, .any, .any, .any, .any, .any, .any, .any, .any, .any, .any], [.at false (.int .u32 l0), .at false (.int .u32 l1), .at true (.int .u32 l2)]⟩
abbrev kp_subD3 : Option (List Nat × List Nat) := some ([1, 5, 6, 13, 14, 15], [5])
noncomputable def lp_subD3 {R : Type} (N M : Nat) (s : St) (K : X → St → Option R) : Option R := loopH 2 kp_subD3 (fun st K => exec ty tab_subD an_subD N 2 (atOf [true, true, false, true, false, false] Try.f177) st K) M s K
noncomputable def bk_subD3 {R : Type} (N M : Nat) (K : X → St → Option R) : X → St → Option R := fun x st => match x with | .norm => tidyK 2 (kp_subD3.map (·.1)) st fun st => lp_subD3 N M st K | x => tidyK 2 (kp_subD3.map (·.2)) st fun st => K x st
noncomputable def kt_subD3 {R : Type} (N : Nat) (K : X → St → Option R) : X → St → Option R := kBlkR 0 (kSeqR tab_subD an_subD N 2 (atOf [true, true, true] Try.f177) (K))
def en_subD3_0 (out5n : Nat) (l0 : List Int) (l1 : List Int) (l2 : List Int) : St := ⟨[.any, .any, .any, .any, .any, .sl 2 0 out5n, .any, .any, .any, .any, .any, .any, .any, .any, .any, .any, .any, .any, .any, .any, .any, .any, .any, .any, .any, .any, .any, .any, .any, .any, .any, .any, .any, .any, .any, .any, .any, .any, .any, .any, .any, .any, .any, .any, .any, .any], [.at false (.int .u32 l0), .at false (.int .u32 l1), .at true (.int .u32 l2)]⟩
theorem run_subD (N : Nat) (n : Nat) (m : Nat) (A : List Int) (B : List Int) : run ty tab_subD an_subD N Try.f177 [.ro 0 n, .ro 1 m] [.at false (.int .u32 A), .at false (.int .u32 B)]
    = (match decide (0 ≤ (((n : Nat) : Int) : Int) ∧ (((n : Nat) : Int) : Int) ≤ ((n : Nat) : Int) ∧ (((n : Nat) : Int) : Int) ≤ 9223372036854775807 ∧ (((n : Nat) : Int) : Int).toNat * 4 ≤ 140737488355328 ∧ 0 < 1 ∧ 1 = 1) with
  | true => lp_subD3 N N (st_subD3 m ((((n : Nat) : Int) : Int).toNat) 0 n ((n : Nat) : Int) 0 A B (List.replicate ((((n : Nat) : Int) : Int).toNat) 0)) (kt_subD3 N (kEnd Try.f177 2))
  | false => none) := by
  kernel_rfl
theorem step_subD3 {R : Type} (N M : Nat) (K : X → St → Option R) (b1n : Nat) (out5n : Nat) (borrow6 : Int) (t13n : Nat) (t14 : Int) (t15 : Int) (l0 : List Int) (l1 : List Int) (l2 : List Int) : lp_subD3 N (M + 1) (st_subD3 b1n out5n borrow6 t13n t14 t15 l0 l1 l2) K
    = (match decide ((t15 : Int) < t14) with
  | true => (match decide (0 ≤ (t15 : Int) ∧ (t15 : Int) < ((t13n : Nat) : Int)) with
    | true => (match l0[0 + (t15).toNat * 1]? with
      | some e1 => (match decide ((t15 : Int) < ((b1n : Nat) : Int)) with
        | true => (match decide (0 ≤ (t15 : Int) ∧ (t15 : Int) < ((b1n : Nat) : Int)) with
          | true => (match l1[0 + (t15).toNat * 1]? with
            | some e2 => (match decide (0 ≤ (t15 : Int) ∧ (t15 : Int) < ((out5n : Nat) : Int)) with
              | true => (match decide (0 + (t15).toNat * 1 < l2.length) with
                | true => (match decide ((IntKind.u64.wrap e1 : Int) < (IntKind.u64.wrap (borrow6 + (IntKind.u64.wrap e2)))) with
                  | true => lp_subD3 N M (st_subD3 b1n out5n 1 t13n t14 (IntKind.i64.wrap (t15 + 1)) l0 l1 (l2.set (0 + (t15).toNat * 1) (IntKind.u32.wrap (IntKind.u64.wrap ((IntKind.u64.wrap e1) - (IntKind.u64.wrap (borrow6 + (IntKind.u64.wrap e2)))))))) K
                  | false => lp_subD3 N M (st_subD3 b1n out5n 0 t13n t14 (IntKind.i64.wrap (t15 + 1)) l0 l1 (l2.set (0 + (t15).toNat * 1) (IntKind.u32.wrap (IntKind.u64.wrap ((IntKind.u64.wrap e1) - (IntKind.u64.wrap (borrow6 + (IntKind.u64.wrap e2)))))))) K)
                | false => none)
              | false => none)
            | none => none)
          | false => none)
        | false => (match decide (0 ≤ (t15 : Int) ∧ (t15 : Int) < ((out5n : Nat) : Int)) with
          | true => (match decide (0 + (t15).toNat * 1 < l2.length) with
            | true => (match decide ((IntKind.u64.wrap e1 : Int) < borrow6) with
              | true => lp_subD3 N M (st_subD3 b1n out5n 1 t13n t14 (IntKind.i64.wrap (t15 + 1)) l0 l1 (l2.set (0 + (t15).toNat * 1) (IntKind.u32.wrap (IntKind.u64.wrap ((IntKind.u64.wrap e1) - borrow6))))) K
              | false => lp_subD3 N M (st_subD3 b1n out5n 0 t13n t14 (IntKind.i64.wrap (t15 + 1)) l0 l1 (l2.set (0 + (t15).toNat * 1) (IntKind.u32.wrap (IntKind.u64.wrap ((IntKind.u64.wrap e1) - borrow6))))) K)
            | false => none)
          | false => none))
      | none => none)
    | false => none)
  | false => K (.exit 0) (en_subD3_0 out5n l0 l1 l2)) := by
  kernel_rfl
theorem end_subD3_0 (N : Nat) (out5n : Nat) (l0 : List Int) (l1 : List Int) (l2 : List Int) : kt_subD3 N (kEnd Try.f177 2) (.exit 0) (en_subD3_0 out5n l0 l1 l2)
    = some (.sl 2 0 out5n, [.at false (.int .u32 l0), .at false (.int .u32 l1), .at true (.int .u32 l2)]) := by
  kernel_rfl

theorem subD_fin {P c x y nl a b c' d : Nat} (h : nl + b = a + P * c) (hd : d + c + y = x + c' * 4294967296) : nl + P * d + (b + P * y) = a + P * x + P * 4294967296 * c' := by
  have h1 : P * (d + c + y) = P * (x + c' * 4294967296) := by rw [hd]
  simp only [Nat.mul_add] at h1
  have h2 : P * (c' * 4294967296) = P * 4294967296 * c' := by rw [Nat.mul_assoc, Nat.mul_comm c']
  omega
theorem ok_subD : FnT Try.prog 177 (gBig2 (fun v w => v - w) (fun v w => lowB v && lowB w && decide (w ≤ v))) := by
  refine FnT.big2 tabok_subD Try.func177 rfl rfl an_subD _ _ fun D E hD hE hDl hEl hp => ?_
  rw [Bool.and_eq_true, Bool.and_eq_true] at hp
  have hn := lowB_len hD hDl hp.1.1
  have hm := lowB_len hE hEl hp.1.2
  have hle := of_decide_eq_true hp.2
  have hDv := nv_lt hD
  have hEv := nv_lt hE
  refine ⟨20, ?_⟩
  show GoodD D E (nv D - nv E) _
  rw [run_subD, decide_eq_true (by omega)]
  dsimp only
  rw [Int.toNat_natCast]
  refine loop_fuel (fun M (s : Nat × Nat × List Int) => lp_subD3 20 M (st_subD3 E.length D.length (s.2.1 : Int) D.length (D.length : Int) (s.1 : Int) D E s.2.2) (kt_subD3 20 (kEnd Try.f177 2)))
    (fun s => s.1 ≤ D.length ∧ okD s.2.2 ∧ s.2.2.length = D.length ∧ s.2.1 ≤ 1 ∧ nv (s.2.2.drop s.1) = 0 ∧ nv s.2.2 + nv E % 4294967296 ^ s.1 = nv D % 4294967296 ^ s.1 + 4294967296 ^ s.1 * s.2.1) (fun s => D.length - s.1) (GoodD D E (nv D - nv E)) (fun M s hs => ?_) (s := (0, 0, List.replicate D.length 0)) ⟨Nat.zero_le _, .zeros _, by simp, by simp, by simp [nv_zeros], by simp [nv_zeros, Nat.mod_one]⟩ (by show _ < 20; dsimp only; omega)
  obtain ⟨i, c, l⟩ := s
  obtain ⟨hi, hl, hlen, hc, hz, hv⟩ := hs
  dsimp only at hi hl hlen hc hz hv ⊢
  by_cases h1 : i < D.length
  · right
    obtain ⟨x, hx, hxb, hxd⟩ := nat_get hD h1
    obtain ⟨o, ho, hob, _⟩ := nat_get hl (show i < l.length by omega)
    have ho0 := drop_zero hl hz (Nat.le_refl _) ho
    -- the turn: a digit y of the second number
    have fin : ∀ y : Nat, y < 4294967296 → y = dgt (nv E) i → ∃ d c' : Nat, d < 4294967296 ∧ c' ≤ 1 ∧ (c' = if x < c + y then 1 else 0) ∧ IntKind.u32.wrap (IntKind.u64.wrap ((x : Int) - ((c + y : Nat) : Int))) = (d : Int) ∧ nv (l.set i (d : Int)) + nv E % 4294967296 ^ (i + 1) = nv D % 4294967296 ^ (i + 1) + 4294967296 ^ (i + 1) * c' := by
      intro y hyb hyd
      have key : ∀ d c', d + c + y = x + c' * 4294967296 → nv (l.set i (d : Int)) + nv E % 4294967296 ^ (i + 1) = nv D % 4294967296 ^ (i + 1) + 4294967296 ^ (i + 1) * c' := by
        intro d c' hd
        have h3 := nv_set ho (d : Int)
        rw [Int.toNat_natCast, Int.toNat_natCast, show o = 0 by omega, Nat.mul_zero, Nat.add_zero] at h3
        rw [h3, mod_succ, mod_succ, ← hyd, ← hxd, Nat.pow_succ]
        exact subD_fin hv hd
      by_cases hlt : x < c + y
      · refine ⟨x + 4294967296 - (c + y), 1, by omega, by omega, by rw [if_pos hlt], ?_, key _ _ (by omega)⟩
        have e : IntKind.u64.wrap ((x : Int) - ((c + y : Nat) : Int)) = ((x + 18446744073709551616 - (c + y) : Nat) : Int) := by
          simp only [IntKind.wrap, IntKind.signed, IntKind.bits]
          first | omega | (simp; omega)
        rw [e, wrap32]
        omega
      · refine ⟨x - (c + y), 0, by omega, by omega, by rw [if_neg hlt], ?_, key _ _ (by omega)⟩
        rw [show (x : Int) - ((c + y : Nat) : Int) = ((x - (c + y) : Nat) : Int) by omega, wrap64 (by omega), wrap32, Nat.mod_eq_of_lt (by omega)]
    have hw := wr (show i < 2147483648 by omega)
    have hx64 := wrap64 (n := x) (by omega)
    by_cases h2 : i < E.length
    · obtain ⟨y, hy, hyb, hyd⟩ := nat_get hE h2
      obtain ⟨d, c', hd, hc', hcc, hdw, hfin⟩ := fin y hyb hyd
      refine ⟨(i + 1, c', l.set i (d : Int)), ⟨by dsimp only; omega, hl.set _ (by omega), by simpa using hlen, hc', by dsimp only; rw [drop_set (by omega)]; exact drop_le hz (by omega) (by omega), hfin⟩, by dsimp only; omega, ?_⟩
      have hs : IntKind.u64.wrap ((c : Int) + IntKind.u64.wrap (y : Int)) = ((c + y : Nat) : Int) := by rw [wrap64 (n := y) (by omega), ← Int.natCast_add, wrap64 (by omega)]
      simp only [step_subD3, dlt h1, din h1, ix, hx, dlt h2, din h2, hy, hs, hx64, hdw, decide_eq_true (show i < l.length by omega), hw, hcc]
      by_cases hlt : x < c + y
      · rw [decide_eq_true (show (x : Int) < ((c + y : Nat) : Int) by omega), if_pos hlt]
        rfl
      · rw [decide_eq_false (show ¬ ((x : Int) < ((c + y : Nat) : Int)) by omega), if_neg hlt]
        rfl
    · obtain ⟨d, c', hd, hc', hcc, hdw, hfin⟩ := fin 0 (by decide) (dgt_high hEv (by omega)).symm
      refine ⟨(i + 1, c', l.set i (d : Int)), ⟨by dsimp only; omega, hl.set _ (by omega), by simpa using hlen, hc', by dsimp only; rw [drop_set (by omega)]; exact drop_le hz (by omega) (by omega), hfin⟩, by dsimp only; omega, ?_⟩
      rw [Nat.add_zero] at hdw hcc
      simp only [step_subD3, dlt h1, din h1, ix, hx, dge (show E.length ≤ i by omega), hx64, hdw, decide_eq_true (show i < l.length by omega), hw, hcc]
      by_cases hlt : x < c
      · rw [decide_eq_true (show (x : Int) < (c : Int) by omega), if_pos hlt]
        rfl
      · rw [decide_eq_false (show ¬ ((x : Int) < (c : Int)) by omega), if_neg hlt]
        rfl
  · left
    have e : i = D.length := by omega
    subst e
    have hEv2 : nv E < 4294967296 ^ D.length := by omega
    rw [mod_all hDv (Nat.le_refl _), mod_all hEv2 (Nat.le_refl _)] at hv
    have hlv := nv_lt hl
    rw [hlen] at hlv
    have hc0 : c = 0 := by
      rcases Nat.eq_zero_or_pos c with h | h
      · exact h
      · have : c = 1 := by omega
        subst this
        omega
    subst hc0
    refine ⟨l, ?_, hl, by omega⟩
    simp only [step_subD3, dge (Nat.le_refl _), end_subD3_0, hlen]
def gBigC (F : Nat → Nat → V) (pre : Nat → Nat → Bool) : GT := fun vs h => match vs, h with
  | [.u (.a (.big v)), .u (.a (.big w))], [] => .ite (pre v w) (.ret (F v w) []) .no
  | _, _ => .no
theorem FnT.bigC {f : FuncId} {fn : Func} {code : Code} {fns : Fns} (hfn : ∀ f, FnT Try.prog f (fns f)) (hf : Try.prog.funcs[f]? = some fn) (hb : fn.body = some code) (hn : (fn.name == "runtime.NumGoroutine") = false) (an : Ann)
    (F : Nat → Nat → V) (hF : ∀ v w, (F v w).flat = true) (pre : Nat → Nat → Bool)
    (H : ∀ D E, okD D → okD E → D.getLast? ≠ some 0 → E.getLast? ≠ some 0 → pre (nv D) (nv E) = true → ∃ N, run ty fns an N fn [.ro 0 D.length, .ro 1 E.length] [.at false (.int .u32 D), .at false (.int .u32 E)] =
      some (F (nv D) (nv E), [.at false (.int .u32 D), .at false (.int .u32 E)])) : FnT Try.prog f (gBigC F pre) := by
  intro vs hp v h' e μ w cvs hr hv
  unfold gBigC at e
  split at e
  case h_2 => exact (T.no_inv e).elim
  rename_i a b
  obtain ⟨hpre, e⟩ := T.pre_inv e
  obtain ⟨rfl, rfl⟩ := T.ret_inv e
  obtain ⟨c1, c2, rfl, ⟨D, hD, rfl, hDl, hDs⟩, ⟨E, hE, rfl, hEl, hEs⟩⟩ := rep_two hv
  obtain ⟨m1, m2, f1, f2, r2, a2⟩ := open2 hr hDs hEs
  obtain ⟨N, hrun⟩ := H D E hD hE hDl hEl hpre
  refine (FnT.runs hfn hf hb hn an N _ _ (F (nv D) (nv E)) [.at false (.int .u32 D), .at false (.int .u32 E)] (by rw [T.run_of]; exact hrun) _ w _ r2 a2).mono fun cv w' ⟨μ', he, hcv⟩ => ?_
  have h0 : μ.l.length = 0 := by rw [hr.len]; rfl
  refine ⟨_, Ev.cut (h := []) (ros := [.at false (.int .u32 D), .at false (.int .u32 E)]) (ms := [m1, m2]) (by rw [h0]; rfl) rfl (fun b hb c => ?_) he (fun i rw c hi => absurd hi (by simp)), hcv.of_flat (hF _ _)⟩
  simp at hb
  rcases hb with rfl | rfl <;> simp
def cmpI (v w : Nat) : Int := if v < w then -1 else if v = w then 0 else 1
theorem cmp_top {D E : List Int} (hD : okD D) (hE : okD E) {k : Nat} {x y : Nat} (hx : D[k]? = some (x : Int)) (hy : E[k]? = some (y : Int)) (he : D.drop (k + 1) = E.drop (k + 1)) (hlt : x < y) : nv D < nv E := by
  have hk := getElem?_lt hx
  have hk' := getElem?_lt hy
  have e1 := nv_take_drop D k (by omega)
  have e2 := nv_take_drop E k (by omega)
  have l1 := nv_lt (hD.take k)
  rw [List.length_take, Nat.min_eq_left (by omega)] at l1
  have d1 : D.drop k = (x : Int) :: D.drop (k + 1) := by
    rw [List.drop_eq_getElem_cons hk]
    congr 1
    have := List.getElem?_eq_getElem hk
    rw [hx] at this
    exact (Option.some.inj this).symm
  have d2 : E.drop k = (y : Int) :: E.drop (k + 1) := by
    rw [List.drop_eq_getElem_cons hk']
    congr 1
    have := List.getElem?_eq_getElem hk'
    rw [hy] at this
    exact (Option.some.inj this).symm
  rw [d1, he] at e1
  rw [d2] at e2
  simp only [nv, Int.toNat_natCast] at e1 e2
  rw [e1, e2]
  have h3 : 4294967296 ^ k * (x + 4294967296 * nv (E.drop (k + 1))) + 4294967296 ^ k ≤ 4294967296 ^ k * (y + 4294967296 * nv (E.drop (k + 1))) := by
    rw [← Nat.mul_succ]
    exact Nat.mul_le_mul_left _ (by omega)
  omega
theorem cmp_len {D E : List Int} (hD : okD D) (hE : okD E) (hEl : E.getLast? ≠ some 0) (h : D.length < E.length) : nv D < nv E := by
  have h1 := nv_lt hD
  have h2 := trim_ge hE hEl (by omega)
  have h3 : 4294967296 ^ D.length ≤ 4294967296 ^ (E.length - 1) := Nat.pow_le_pow_right (by decide) (by omega)
  omega
def an_cmpD : Ann := ⟨fun r => if r = 4 then some ([0, 1, 5], [4]) else none, fun _ _ => .quiet⟩
def tab_cmpD : Fns := tabT []
theorem tabok_cmpD : ∀ f, FnT Try.prog f (tab_cmpD f) := tabT_nil
def st_cmpD4 (a0n : Nat) (b1n : Nat) (i5 : Int) (l0 : List Int) (l1 : List Int) : St := ⟨[.ro 0 a0n, .ro 1 b1n, .any, .any, .any, .int .i64 i5, .any, .any, .any, .any, .any, .any, .any, .any, .any, .any, .any, .any, .any, .any, .any, .any, .any, .any, .any, .any, .any, .any, .any, .any, .any, .any, .any, .any, .any, .any, .any, .any, .any, .any, .any, .any, .any], [.at false (.int .u32 l0), .at false (.int .u32 l1)]⟩
abbrev kp_cmpD4 : Option (List Nat × List Nat) := some ([0, 1, 5], [4])
noncomputable def lp_cmpD4 {R : Type} (N M : Nat) (s : St) (K : X → St → Option R) : Option R := loopH 2 kp_cmpD4 (fun st K => exec ty tab_cmpD an_cmpD N 2 (atOf [true, true, false, true, false, false] Try.f176) st K) M s K
noncomputable def bk_cmpD4 {R : Type} (N M : Nat) (K : X → St → Option R) : X → St → Option R := fun x st => match x with | .norm => tidyK 2 (kp_cmpD4.map (·.1)) st fun st => lp_cmpD4 N M st K | x => tidyK 2 (kp_cmpD4.map (·.2)) st fun st => K x st
noncomputable def kt_cmpD4 {R : Type} (N : Nat) (K : X → St → Option R) : X → St → Option R := kBlkR 0 (kSeqR tab_cmpD an_cmpD N 2 (atOf [true, true, true] Try.f176) (K))
def en_cmpD4_0 (t4 : Int) (l0 : List Int) (l1 : List Int) : St := ⟨[.any, .any, .any, .any, .int .i64 t4, .any, .any, .any, .any, .any, .any, .any, .any, .any, .any, .any, .any, .any, .any, .any, .any, .any, .any, .any, .any, .any, .any, .any, .any, .any, .any, .any, .any, .any, .any, .any, .any, .any, .any, .any, .any, .any, .any], [.at false (.int .u32 l0), .at false (.int .u32 l1)]⟩
def en_cmpD4_1 (l0 : List Int) (l1 : List Int) : St := ⟨[.any, .any, .any, .any, .any, .any, .any, .any, .any, .any, .any, .any, .any, .any, .any, .any, .any, .any, .any, .any, .any, .any, .any, .any, .any, .any, .any, .any, .any, .any, .any, .any, .any, .any, .any, .any, .any, .any, .any, .any, .any, .any, .any], [.at false (.int .u32 l0), .at false (.int .u32 l1)]⟩
theorem run_cmpD (N : Nat) (n : Nat) (m : Nat) (A : List Int) (B : List Int) : run ty tab_cmpD an_cmpD N Try.f176 [.ro 0 n, .ro 1 m] [.at false (.int .u32 A), .at false (.int .u32 B)]
    = (match ((n : Nat) : Int) != ((m : Nat) : Int) with
  | true => some (.int .i64 (if (if (IntKind.i64.wrap (((n : Nat) : Int) - ((m : Nat) : Int))) < 1 then IntKind.i64.wrap (((n : Nat) : Int) - ((m : Nat) : Int)) else 1) > (-1) then if (IntKind.i64.wrap (((n : Nat) : Int) - ((m : Nat) : Int))) < 1 then IntKind.i64.wrap (((n : Nat) : Int) - ((m : Nat) : Int)) else 1 else -1), [.at false (.int .u32 A), .at false (.int .u32 B)])
  | false => lp_cmpD4 N N (st_cmpD4 n m (IntKind.i64.wrap (((n : Nat) : Int) - 1)) A B) (kt_cmpD4 N (kEnd Try.f176 2))) := by
  kernel_rfl
theorem step_cmpD4 {R : Type} (N M : Nat) (K : X → St → Option R) (a0n : Nat) (b1n : Nat) (i5 : Int) (l0 : List Int) (l1 : List Int) : lp_cmpD4 N (M + 1) (st_cmpD4 a0n b1n i5 l0 l1) K
    = (match decide ((i5 : Int) ≥ 0) with
  | true => (match decide (0 ≤ (i5 : Int) ∧ (i5 : Int) < ((a0n : Nat) : Int)) with
    | true => (match l0[0 + (i5).toNat * 1]? with
      | some e1 => (match decide (0 ≤ (i5 : Int) ∧ (i5 : Int) < ((b1n : Nat) : Int)) with
        | true => (match l1[0 + (i5).toNat * 1]? with
          | some e2 => (match e1 != e2 with
            | true => (match decide (0 ≤ (i5 : Int) ∧ (i5 : Int) < ((a0n : Nat) : Int)) with
              | true => (match l0[0 + (i5).toNat * 1]? with
                | some e3 => (match decide (0 ≤ (i5 : Int) ∧ (i5 : Int) < ((b1n : Nat) : Int)) with
                  | true => (match l1[0 + (i5).toNat * 1]? with
                    | some e4 => (match decide ((e3 : Int) < e4) with
                      | true => K .ret (en_cmpD4_0 (-1) l0 l1)
                      | false => K .ret (en_cmpD4_0 1 l0 l1))
                    | none => none)
                  | false => none)
                | none => none)
              | false => none)
            | false => lp_cmpD4 N M (st_cmpD4 a0n b1n (IntKind.i64.wrap (i5 - 1)) l0 l1) K)
          | none => none)
        | false => none)
      | none => none)
    | false => none)
  | false => K (.exit 0) (en_cmpD4_1 l0 l1)) := by
  kernel_rfl
theorem end_cmpD4_0 (N : Nat) (t4 : Int) (l0 : List Int) (l1 : List Int) : kt_cmpD4 N (kEnd Try.f176 2) .ret (en_cmpD4_0 t4 l0 l1)
    = some (.int .i64 t4, [.at false (.int .u32 l0), .at false (.int .u32 l1)]) := by
  kernel_rfl
theorem end_cmpD4_1 (N : Nat) (l0 : List Int) (l1 : List Int) : kt_cmpD4 N (kEnd Try.f176 2) (.exit 0) (en_cmpD4_1 l0 l1)
    = some (.int .i64 0, [.at false (.int .u32 l0), .at false (.int .u32 l1)]) := by
  kernel_rfl

theorem ok_cmpD : FnT Try.prog 176 (gBigC (fun v w => .int .i64 (cmpI v w)) (fun v w => lowB v && lowB w)) := by
  refine FnT.bigC tabok_cmpD Try.func176 rfl rfl an_cmpD _ (fun _ _ => rfl) _ fun D E hD hE hDl hEl hp => ?_
  rw [Bool.and_eq_true] at hp
  have hn := lowB_len hD hDl hp.1
  have hm := lowB_len hE hEl hp.2
  refine ⟨20, ?_⟩
  rw [run_cmpD]
  by_cases hne : D.length = E.length
  · rw [show ((D.length : Int) != (E.length : Int)) = false by simp; omega]
    dsimp only
    have h0 : IntKind.i64.wrap ((D.length : Int) - 1) = (D.length : Int) - 1 := by rw [wrap_z (by omega) (by omega)]
    rw [h0]
    refine loop_fuel (fun M (k : Nat) => lp_cmpD4 20 M (st_cmpD4 D.length E.length ((k : Int) - 1) D E) (kt_cmpD4 20 (kEnd Try.f176 2))) (fun k => k ≤ D.length ∧ D.drop k = E.drop k) (fun k => k)
      (fun o => o = some (.int .i64 (cmpI (nv D) (nv E)), [.at false (.int .u32 D), .at false (.int .u32 E)])) (fun M k hs => ?_) (s := D.length) ⟨Nat.le_refl _, by rw [List.drop_of_length_le (Nat.le_refl _), List.drop_of_length_le (by omega)]⟩ (by show _ < 20; omega)
    obtain ⟨hk, he⟩ := hs
    cases k with
    | zero =>
      left
      simp only [List.drop_zero] at he
      subst he
      simp only [step_cmpD4, decide_eq_false (show ¬ ((((0 : Nat) : Int) - 1) ≥ 0) by omega), end_cmpD4_1, cmpI, Nat.lt_irrefl, if_false, if_true]
    | succ k =>
      obtain ⟨x, hx, hxb, _⟩ := nat_get hD (show k < D.length by omega)
      obtain ⟨y, hy, hyb, _⟩ := nat_get hE (show k < E.length by omega)
      have e1 : (((k + 1 : Nat) : Int) - 1) = (k : Int) := by omega
      by_cases hxy : x = y
      · right
        subst hxy
        refine ⟨k, ⟨by omega, ?_⟩, by omega, ?_⟩
        · rw [List.drop_eq_getElem_cons (show k < D.length by omega), List.drop_eq_getElem_cons (show k < E.length by omega), he]
          congr 1
          have h1 := List.getElem?_eq_getElem (show k < D.length by omega)
          have h2 := List.getElem?_eq_getElem (show k < E.length by omega)
          rw [hx] at h1
          rw [hy] at h2
          exact (Option.some.inj h1).symm.trans (Option.some.inj h2)
        · simp only [step_cmpD4, e1, decide_eq_true (show (k : Int) ≥ 0 by omega), din (show k < D.length by omega), din (show k < E.length by omega), ix, hx, hy, show ((x : Int) != (x : Int)) = false by simp]
          rw [wrap_z (by omega) (by omega)]
      · left
        simp only [step_cmpD4, e1, decide_eq_true (show (k : Int) ≥ 0 by omega), din (show k < D.length by omega), din (show k < E.length by omega), ix, hx, hy, show ((x : Int) != (y : Int)) = true by simp; omega]
        rcases Nat.lt_or_gt_of_ne hxy with h | h
        · have := cmp_top hD hE hx hy he h
          simp only [decide_eq_true (show (x : Int) < (y : Int) by omega), end_cmpD4_0, cmpI, if_pos this]
        · have := cmp_top hE hD hy hx he.symm h
          simp only [decide_eq_false (show ¬ ((x : Int) < (y : Int)) by omega), end_cmpD4_0, cmpI, if_neg (show ¬ nv D < nv E by omega), if_neg (show ¬ nv D = nv E by omega)]
  · rw [show ((D.length : Int) != (E.length : Int)) = true by simp; omega]
    dsimp only
    rw [wrap_z (by omega) (by omega)]
    rcases Nat.lt_or_gt_of_ne hne with h | h
    · have := cmp_len hD hE hEl h
      unfold cmpI
      rw [if_pos this, if_pos (show (D.length : Int) - (E.length : Int) < 1 by omega)]
      by_cases h2 : (D.length : Int) - (E.length : Int) > -1
      · omega
      · rw [if_neg h2]
    · have := cmp_len hE hD hDl h
      unfold cmpI
      rw [if_neg (show ¬ nv D < nv E by omega), if_neg (show ¬ nv D = nv E by omega), if_neg (show ¬ ((D.length : Int) - (E.length : Int) < 1) by omega), if_pos (by omega)]
def an_dblD : Ann := ⟨fun r => if r = 3 then some ([0, 1, 5, 6, 13, 14, 15], [0, 5, 6]) else none, fun _ _ => .quiet⟩
def tab_dblD : Fns := tabT []
theorem tabok_dblD : ∀ f, FnT Try.prog f (tab_dblD f) := tabT_nil
def st_dblD3 (a0n : Nat) (by1 : Int) (out5n : Nat) (carry6 : Int) (t14 : Int) (t15 : Int) (rw0 : Bool) (l0 : List Int) (l1 : List Int) : St := ⟨[.ro 0 a0n, .int .u64 by1, .any, .any, .any, .sl 1 0 out5n, .int .u64 carry6, .any, .any, .any, .any, .any, .any, .ro 0 a0n, .int .i64 t14, .int .i64 t15, .any, .any, .any, .any, .any, .any, .any, .any, .any, .any, .any, .any, .any, .any, .any, .any, .any, .any, .any, .any, .any, .any, .any, .any, .any], [.at rw0 (.int .u32 l0), .at true (.int .u32 l1)]⟩
abbrev kp_dblD3 : Option (List Nat × List Nat) := some ([0, 1, 5, 6, 13, 14, 15], [0, 5, 6])
noncomputable def lp_dblD3 {R : Type} (N M : Nat) (s : St) (K : X → St → Option R) : Option R := loopH 1 kp_dblD3 (fun st K => exec ty tab_dblD an_dblD N 1 (atOf [true, true, false, true, false, false] Try.f180) st K) M s K
noncomputable def bk_dblD3 {R : Type} (N M : Nat) (K : X → St → Option R) : X → St → Option R := fun x st => match x with | .norm => tidyK 1 (kp_dblD3.map (·.1)) st fun st => lp_dblD3 N M st K | x => tidyK 1 (kp_dblD3.map (·.2)) st fun st => K x st
noncomputable def kt_dblD3 {R : Type} (N : Nat) (K : X → St → Option R) : X → St → Option R := kBlkR 0 (kSeqR tab_dblD an_dblD N 1 (atOf [true, true, true] Try.f180) (K))
def en_dblD3_0 (a0n : Nat) (out5n : Nat) (carry6 : Int) (rw0 : Bool) (l0 : List Int) (l1 : List Int) : St := ⟨[.ro 0 a0n, .any, .any, .any, .any, .sl 1 0 out5n, .int .u64 carry6, .any, .any, .any, .any, .any, .any, .any, .any, .any, .any, .any, .any, .any, .any, .any, .any, .any, .any, .any, .any, .any, .any, .any, .any, .any, .any, .any, .any, .any, .any, .any, .any, .any, .any], [.at rw0 (.int .u32 l0), .at true (.int .u32 l1)]⟩
theorem run_dblD (N : Nat) (n : Nat) (y : Int) (r : Bool) (A : List Int) : run ty tab_dblD an_dblD N Try.f180 [.ro 0 n, .int .u64 y] [.at r (.int .u32 A)]
    = (match decide (0 ≤ (IntKind.i64.wrap (((n : Nat) : Int) + 1) : Int) ∧ (IntKind.i64.wrap (((n : Nat) : Int) + 1) : Int) ≤ (IntKind.i64.wrap (((n : Nat) : Int) + 1)) ∧ (IntKind.i64.wrap (((n : Nat) : Int) + 1) : Int) ≤ 9223372036854775807 ∧ (IntKind.i64.wrap (((n : Nat) : Int) + 1) : Int).toNat * 4 ≤ 140737488355328 ∧ 0 < 1 ∧ 1 = 1) with
  | true => lp_dblD3 N N (st_dblD3 n y ((IntKind.i64.wrap (((n : Nat) : Int) + 1) : Int).toNat) 0 ((n : Nat) : Int) 0 r A (List.replicate ((IntKind.i64.wrap (((n : Nat) : Int) + 1) : Int).toNat) 0)) (kt_dblD3 N (kEnd Try.f180 1))
  | false => none) := by
  kernel_rfl
theorem step_dblD3 {R : Type} (N M : Nat) (K : X → St → Option R) (a0n : Nat) (by1 : Int) (out5n : Nat) (carry6 : Int) (t14 : Int) (t15 : Int) (rw0 : Bool) (l0 : List Int) (l1 : List Int) : lp_dblD3 N (M + 1) (st_dblD3 a0n by1 out5n carry6 t14 t15 rw0 l0 l1) K
    = (match decide ((t15 : Int) < t14) with
  | true => (match decide (0 ≤ (t15 : Int) ∧ (t15 : Int) < ((a0n : Nat) : Int)) with
    | true => (match l0[0 + (t15).toNat * 1]? with
      | some e1 => (match decide (by1 < 0) with
        | true => none
        | false => (match decide (0 ≤ (t15 : Int) ∧ (t15 : Int) < ((out5n : Nat) : Int)) with
          | true => (match decide (0 + (t15).toNat * 1 < l1.length) with
            | true => lp_dblD3 N M (st_dblD3 a0n by1 out5n (Int.fdiv (IntKind.u64.wrap (BitVec.ofInt 64 carry6 ||| BitVec.ofInt 64 (IntKind.u64.wrap ((IntKind.u64.wrap e1) * 2 ^ (min (Int.toNat by1) 64)))).toNat) (2 ^ 32)) t14 (IntKind.i64.wrap (t15 + 1)) rw0 l0 (l1.set (0 + (t15).toNat * 1) (IntKind.u32.wrap (IntKind.u64.wrap (BitVec.ofInt 64 carry6 ||| BitVec.ofInt 64 (IntKind.u64.wrap ((IntKind.u64.wrap e1) * 2 ^ (min (Int.toNat by1) 64)))).toNat)))) K
            | false => none)
          | false => none))
      | none => none)
    | false => none)
  | false => K (.exit 0) (en_dblD3_0 a0n out5n carry6 rw0 l0 l1)) := by
  kernel_rfl
theorem end_dblD3_0 (N : Nat) (a0n : Nat) (out5n : Nat) (carry6 : Int) (rw0 : Bool) (l0 : List Int) (l1 : List Int) : kt_dblD3 N (kEnd Try.f180 1) (.exit 0) (en_dblD3_0 a0n out5n carry6 rw0 l0 l1)
    = (match decide (0 ≤ (((a0n : Nat) : Int) : Int) ∧ (((a0n : Nat) : Int) : Int) < ((out5n : Nat) : Int)) with
  | true => (match decide (0 + (((a0n : Nat) : Int)).toNat * 1 < l1.length) with
    | true => some (.sl 1 0 out5n, [.at rw0 (.int .u32 l0), .at true (.int .u32 (l1.set (0 + (((a0n : Nat) : Int)).toNat * 1) (IntKind.u32.wrap carry6)))])
    | false => none)
  | false => none) := by
  kernel_rfl

def digB (A : List Int) : Bool := A.all fun d => decide (0 ≤ d ∧ d < 4294967296)
theorem digB_iff {A : List Int} : digB A = true ↔ okD A := by
  unfold digB okD
  rw [List.all_eq_true]
  exact ⟨fun h d hd => of_decide_eq_true (h d hd), fun h d hd => decide_eq_true (h d hd)⟩
def dbOk (n : Nat) (A : List Int) (y : Int) : Bool := decide (n = A.length ∧ n ≤ 16 ∧ 0 ≤ y ∧ y ≤ 31) && digB A
def gDblD : GT := fun vs h => match vs, h with
  | [.u (.a (.ro 0 n)), .int .u64 y], [.at r (.int .u32 A)] => .ite (dbOk n A y) (.ret (.sl 1 0 (n + 1)) [.at r (.int .u32 A), .at true (.int .u32 (dg (n + 1) (nv A * 2 ^ y.toNat)))]) .no
  | _, _ => .no
theorem or_shift {c x y : Nat} (hc : c < 2 ^ y) (h : c + x * 2 ^ y < 18446744073709551616) : (BitVec.ofInt 64 (c : Int) ||| BitVec.ofInt 64 ((x * 2 ^ y : Nat) : Int)).toNat = c + x * 2 ^ y := by
  have e : ∀ n : Nat, n < 18446744073709551616 → (BitVec.ofInt 64 (n : Int)).toNat = n := by
    intro n hn
    simp [BitVec.toNat_ofInt]
    omega
  rw [BitVec.toNat_or, e _ (by omega), e _ (by omega)]
  have := Nat.two_pow_add_eq_or_of_lt (i := y) hc x
  rw [Nat.mul_comm x, Nat.add_comm c, this, Nat.or_comm]
theorem pow31 {y : Nat} (h : y ≤ 31) : 2 ^ y ≤ 2147483648 := Nat.pow_le_pow_right (n := 2) (by decide) h
theorem ok_dblD : FnT Try.prog 180 gDblD := by
  refine fnT tabok_dblD Try.func180 rfl rfl an_dblD fun vs h v h' e => ⟨30, ?_⟩
  unfold gDblD at e
  split at e
  case h_2 => exact (T.no_inv e).elim
  rename_i n y r A
  obtain ⟨hd, e⟩ := T.pre_inv e
  obtain ⟨rfl, rfl⟩ := T.ret_inv e
  unfold dbOk at hd
  rw [Bool.and_eq_true] at hd
  obtain ⟨rfl, hn, hy0, hy⟩ := of_decide_eq_true hd.1
  have hA := digB_iff.mp hd.2
  have hAv := nv_lt hA
  obtain ⟨y, rfl⟩ : ∃ m : Nat, y = (m : Int) := ⟨y.toNat, by omega⟩
  rw [Int.toNat_natCast]
  have hp := pow31 (show y ≤ 31 by omega)
  have hp0 : 0 < 2 ^ y := Nat.pow_pos (by decide)
  have hw : IntKind.i64.wrap ((A.length : Int) + 1) = ((A.length + 1 : Nat) : Int) := wr (by omega)
  rw [run_dblD, hw, decide_eq_true (by omega)]
  dsimp only
  rw [Int.toNat_natCast]
  refine loop_fuel (fun M (s : Nat × Nat × List Int) => lp_dblD3 30 M (st_dblD3 A.length (y : Int) (A.length + 1) (s.2.1 : Int) (A.length : Int) (s.1 : Int) r A s.2.2) (kt_dblD3 30 (kEnd Try.f180 1)))
    (fun s => s.1 ≤ A.length ∧ okD s.2.2 ∧ s.2.2.length = A.length + 1 ∧ s.2.1 < 2 ^ y ∧ nv (s.2.2.drop s.1) = 0 ∧ nv s.2.2 + 4294967296 ^ s.1 * s.2.1 = (nv A % 4294967296 ^ s.1) * 2 ^ y) (fun s => A.length - s.1)
    (fun o => o = some (.sl 1 0 (A.length + 1), [.at r (.int .u32 A), .at true (.int .u32 (dg (A.length + 1) (nv A * 2 ^ y)))])) (fun M s hs => ?_) (s := (0, 0, List.replicate (A.length + 1) 0)) ⟨Nat.zero_le _, .zeros _, by simp, hp0, by simp [nv_zeros], by simp [nv_zeros, Nat.mod_one]⟩ (by show _ < 30; dsimp only; omega)
  obtain ⟨i, c, l⟩ := s
  obtain ⟨hi, hl, hlen, hc, hz, hv⟩ := hs
  dsimp only at hi hl hlen hc hz hv ⊢
  obtain ⟨o, ho, hob, _⟩ := nat_get hl (show i < l.length by omega)
  have ho0 := drop_zero hl hz (Nat.le_refl _) ho
  by_cases h1 : i < A.length
  · right
    obtain ⟨x, hx, hxb, hxd⟩ := nat_get hA h1
    have hm : min (Int.toNat (y : Int)) 64 = y := by omega
    have hx2 : x * 2 ^ y ≤ 4294967295 * 2147483648 := Nat.mul_le_mul (by omega) hp
    have e1 : IntKind.u64.wrap (IntKind.u64.wrap (x : Int) * 2 ^ (min (Int.toNat (y : Int)) 64)) = ((x * 2 ^ y : Nat) : Int) := by
      rw [hm, wrap64 (n := x) (by omega), show (x : Int) * 2 ^ y = ((x * 2 ^ y : Nat) : Int) by rw [Int.natCast_mul, Int.natCast_pow]; rfl, wrap64 (by omega)]
    have e2 : IntKind.u64.wrap (((BitVec.ofInt 64 (c : Int) ||| BitVec.ofInt 64 ((x * 2 ^ y : Nat) : Int)).toNat : Nat) : Int) = ((c + x * 2 ^ y : Nat) : Int) := by
      rw [or_shift hc (by omega), wrap64 (by omega)]
    refine ⟨(i + 1, (c + x * 2 ^ y) / 4294967296, l.set i (((c + x * 2 ^ y) % 4294967296 : Nat) : Int)), ⟨by dsimp only; omega, hl.set _ (by omega), by simpa using hlen, ?_, by dsimp only; rw [drop_set (by omega)]; exact drop_le hz (by omega) (by omega), ?_⟩, by dsimp only; omega, ?_⟩
    · dsimp only
      rw [Nat.div_lt_iff_lt_mul (by decide)]
      have h3 : x * 2 ^ y + 2 ^ y ≤ 4294967296 * 2 ^ y := by rw [← Nat.succ_mul]; exact Nat.mul_le_mul_right _ hxb
      rw [Nat.mul_comm (2 ^ y)]
      omega
    · dsimp only
      have h3 := nv_set ho (((c + x * 2 ^ y) % 4294967296 : Nat) : Int)
      rw [Int.toNat_natCast, Int.toNat_natCast, show o = 0 by omega, Nat.mul_zero, Nat.add_zero] at h3
      rw [h3, mod_succ, ← hxd, Nat.pow_succ, Nat.mul_assoc, Nat.add_assoc (nv l), ← Nat.mul_add, Nat.mod_add_div, Nat.mul_add, Nat.add_mul, ← hv, Nat.mul_assoc]
      omega
    · simp only [step_dblD3, dlt h1, din h1, ix, hx, decide_eq_false (show ¬ ((y : Int) < 0) by omega), din (show i < A.length + 1 by omega), decide_eq_true (show i < l.length by omega), e1, e2, wrap32, shr32, wr (show i < 2147483648 by omega)]
  · left
    have e : i = A.length := by omega
    subst e
    have hcb : c < 4294967296 := by omega
    have h3 := nv_set ho (c : Int)
    rw [Int.toNat_natCast, Int.toNat_natCast, show o = 0 by omega, Nat.mul_zero, Nat.add_zero, hv, mod_all hAv (Nat.le_refl _)] at h3
    have h4 := eq_dg (hl.set A.length (x := (c : Int)) (by omega))
    rw [List.length_set, hlen, h3] at h4
    simp only [step_dblD3, dge (Nat.le_refl _), end_dblD3_0, din (show A.length < A.length + 1 by omega), ix, decide_eq_true (show A.length < l.length by omega), wrap32, Nat.mod_eq_of_lt hcb, h4]
end Go.Proofs.Ytbhfjdlhhjeknaa.Ab

/- Numbers alike, first tops, states of rotors, numbers drawn. Only lemmas. Printed by gen_rotors.py. -/
import Derived.Test.YtbbggpcbnahgiaaRtA
namespace Go.Proofs.Ytbbggpcbnahgiaa.Ab
set_option linter.unusedVariables false
set_option linter.unusedSimpArgs false
open Go
def bI (x : Nat) : Int := cond (!eqB x x) 2143289344 (IntKind.i64.wrap ((x : Nat) : Int))
def sN (a b : Nat) : Bool := bI a == bI b
theorem sN_self (a : Nat) : sN a a = true := by unfold sN; simp
theorem eqB_self {x : Nat} : eqB x x = !isN .f32 x := by
  cases hx : isN .f32 x with
  | true => unfold eqB; rw [order_nan (.inl hx)]; rfl
  | false => unfold eqB; rw [order_self hx]; rfl
def gBI : GT := fun vs h => match vs, h with | [.fl .f32 x], [] => .ret (.int .i64 (bI x)) [] | _, _ => .no
def gSN : GT := fun vs h => match vs, h with | [.fl .f32 a, .fl .f32 b], [] => .ret (.bool (sN a b)) [] | _, _ => .no
theorem ok_bits32_ok : FnT Try.prog 64 (gBits .f32 .u32) := bits32_ok Try.func64 (by decide) (by rfl) (by rfl) (by rfl)
def tab_l01Bits : Fns := tabT [(64, (gBits .f32 .u32))]
theorem tabok_l01Bits : ∀ f, FnT Try.prog f (tab_l01Bits f) := (tabT_cons (k := 64) ok_bits32_ok tabT_nil)
theorem run_l01Bits (N : Nat) (x : Nat) : run ty tab_l01Bits ann0 N Try.f53 [.fl .f32 x] []
    = (match FloatKind.f32.format.order x x != some .eq with | true => some (.int .i64 2143289344, []) | false => (match !(isN .f32 x) with | true => some (.int .i64 (IntKind.i64.wrap ((x : Nat) : Int)), []) | false => none)) := by
  kernel_rfl

theorem ok_l01Bits : FnT Try.prog 53 (gBI) := by
  refine fnT tabok_l01Bits Try.func53 rfl rfl ann0 fun vs h v h' e => ⟨0, ?_⟩
  unfold gBI at e
  split at e
  case h_2 => exact (T.no_inv e).elim
  rename_i x
  obtain ⟨rfl, rfl⟩ := T.ret_inv e
  refine Eq.trans (run_l01Bits 0 x) ?_
  unfold bI
  rw [show (FloatKind.f32.format.order x x != some .eq) = !eqB x x from rfl, eqB_self]
  cases isN .f32 x <;> rfl
def tab_l01Same : Fns := tabT [(53, gBI)]
theorem tabok_l01Same : ∀ f, FnT Try.prog f (tab_l01Same f) := (tabT_cons (k := 53) ok_l01Bits tabT_nil)
theorem run_l01Same (N : Nat) (a : Nat) (b : Nat) : run ty tab_l01Same ann0 N Try.f34 [.fl .f32 a, .fl .f32 b] []
    = some (.bool ((bI a) == (bI b)), []) := by
  kernel_rfl

theorem ok_l01Same : FnT Try.prog 34 (gSN) := by
  refine fnT tabok_l01Same Try.func34 rfl rfl ann0 fun vs h v h' e => ⟨0, ?_⟩
  unfold gSN at e
  split at e
  case h_2 => exact (T.no_inv e).elim
  obtain ⟨rfl, rfl⟩ := T.ret_inv e
  exact run_l01Same 0 _ _
def tab_sameNum : Fns := tabT [(34, gSN)]
theorem tabok_sameNum : ∀ f, FnT Try.prog f (tab_sameNum f) := (tabT_cons (k := 34) ok_l01Same tabT_nil)
theorem run_sameNum (N : Nat) (a : Nat) (b : Nat) : run ty tab_sameNum ann0 N Try.f14 [.fl .f32 a, .fl .f32 b] []
    = some (.bool (sN a b), []) := by
  kernel_rfl

theorem ok_sameNum : FnT Try.prog 14 (gSN) := by
  refine fnT tabok_sameNum Try.func14 rfl rfl ann0 fun vs h v h' e => ⟨0, ?_⟩
  unfold gSN at e
  split at e
  case h_2 => exact (T.no_inv e).elim
  obtain ⟨rfl, rfl⟩ := T.ret_inv e
  exact run_sameNum 0 _ _
def an_b10L : Ann := ⟨fun r => if r = 4 then some ([0, 1, 12, 13], [4]) else none, fun _ _ => .quiet⟩
def tab_b10L : Fns := tabT [(14, gSN)]
theorem tabok_b10L : ∀ f, FnT Try.prog f (tab_b10L f) := (tabT_cons (k := 14) ok_sameNum tabT_nil)
def st_b10L4 (a0n : Nat) (b1n : Nat) (t12 : Int) (t13 : Int) (rw0 : Bool) (l0 : List Nat) (rw1 : Bool) (l1 : List Nat) : St := ⟨(.sl 0 0 a0n :: .sl 1 0 b1n :: (anys 10 (.int .i64 t12 :: .int .i64 t13 :: (anys 13 [])))), [.at rw0 (.fl .f32 l0), .at rw1 (.fl .f32 l1)]⟩
abbrev kp_b10L4 : Option (List Nat × List Nat) := some ([0, 1, 12, 13], [4])
noncomputable def lp_b10L4 {R : Type} (N M : Nat) (s : St) (K : X → St → Option R) : Option R := loopH 2 kp_b10L4 (fun st K => exec ty tab_b10L an_b10L N 2 (atOf [true, true, false, true, false, false] Try.f13) st K) M s K
noncomputable def bk_b10L4 {R : Type} (N M : Nat) (K : X → St → Option R) : X → St → Option R := fun x st => match x with | .norm => tidyK 2 (kp_b10L4.map (·.1)) st fun st => lp_b10L4 N M st K | x => tidyK 2 (kp_b10L4.map (·.2)) st fun st => K x st
noncomputable def kt_b10L4 {R : Type} (N : Nat) (K : X → St → Option R) : X → St → Option R := kBlkR 0 (kSeqR tab_b10L an_b10L N 2 (atOf [true, true, true] Try.f13) (K))
def en_b10L4_0 (rw0 : Bool) (l0 : List Nat) (rw1 : Bool) (l1 : List Nat) : St := ⟨(.any :: .any :: .any :: .any :: .bool false :: (anys 22 [])), [.at rw0 (.fl .f32 l0), .at rw1 (.fl .f32 l1)]⟩
def en_b10L4_1 (rw0 : Bool) (l0 : List Nat) (rw1 : Bool) (l1 : List Nat) : St := ⟨(anys 27 []), [.at rw0 (.fl .f32 l0), .at rw1 (.fl .f32 l1)]⟩
theorem run_b10L (N : Nat) (n : Nat) (m : Nat) (r1 : Bool) (l : List Nat) (r2 : Bool) (l' : List Nat) : run ty tab_b10L an_b10L N Try.f13 [.sl 0 0 n, .sl 1 0 m] [.at r1 (.fl .f32 l), .at r2 (.fl .f32 l')]
    = (match ((n : Nat) : Int) != ((m : Nat) : Int) with | true => some (.bool false, [.at r1 (.fl .f32 l), .at r2 (.fl .f32 l')]) | false => lp_b10L4 N N (st_b10L4 n m ((n : Nat) : Int) 0 r1 l r2 l') (kt_b10L4 N (kEnd Try.f13 2))) := by
  kernel_rfl
theorem step_b10L4 {R : Type} (N M : Nat) (K : X → St → Option R) (a0n : Nat) (b1n : Nat) (t12 : Int) (t13 : Int) (rw0 : Bool) (l0 : List Nat) (rw1 : Bool) (l1 : List Nat) : lp_b10L4 N (M + 1) (st_b10L4 a0n b1n t12 t13 rw0 l0 rw1 l1) K
    = (match decide ((t13 : Int) < t12) with | true => (match decide (0 ≤ (t13 : Int) ∧ (t13 : Int) < ((a0n : Nat) : Int)) with | true => (match l0[0 + (t13).toNat * 1]? with | some e1 => (match decide (0 ≤ (t13 : Int) ∧ (t13 : Int) < ((b1n : Nat) : Int)) with | true => (match l1[0 + (t13).toNat * 1]? with | some e2 => (match !(sN e1 e2) with | true => K .ret (en_b10L4_0 rw0 l0 rw1 l1) | false => lp_b10L4 N M (st_b10L4 a0n b1n t12 (IntKind.i64.wrap (t13 + 1)) rw0 l0 rw1 l1) K) | none => none) | false => none) | none => none) | false => none) | false => K (.exit 0) (en_b10L4_1 rw0 l0 rw1 l1)) := by
  kernel_rfl
theorem end_b10L4_0 (N : Nat) (rw0 : Bool) (l0 : List Nat) (rw1 : Bool) (l1 : List Nat) : kt_b10L4 N (kEnd Try.f13 2) .ret (en_b10L4_0 rw0 l0 rw1 l1)
    = some (.bool false, [.at rw0 (.fl .f32 l0), .at rw1 (.fl .f32 l1)]) := by
  kernel_rfl
theorem end_b10L4_1 (N : Nat) (rw0 : Bool) (l0 : List Nat) (rw1 : Bool) (l1 : List Nat) : kt_b10L4 N (kEnd Try.f13 2) (.exit 0) (en_b10L4_1 rw0 l0 rw1 l1)
    = some (.bool true, [.at rw0 (.fl .f32 l0), .at rw1 (.fl .f32 l1)]) := by
  kernel_rfl

def eqNB (l l' : List Nat) : Bool := (l.length == l'.length) && (firstIx (fun p : Nat × Nat => !sN p.1 p.2) (l.zip l') 0).isNone
theorem firstIxN_self (l : List Nat) : ∀ i, (firstIx (fun p : Nat × Nat => !sN p.1 p.2) (l.zip l) i) = none := by
  induction l with
  | nil => intro i; rfl
  | cons x l ih =>
    intro i
    simp only [List.zip_cons_cons, firstIx, sN_self, Bool.not_true]
    exact ih (i + 1)
theorem eqNB_self (l : List Nat) : eqNB l l = true := by
  unfold eqNB
  rw [firstIxN_self]
  simp
theorem zipN_get {l l' : List Nat} {i : Nat} {x : Nat × Nat} (h : (l.zip l')[i]? = some x) : l[i]? = some x.1 ∧ l'[i]? = some x.2 := by
  rw [List.getElem?_zip_eq_some] at h
  exact h
def gList : GT := fun vs h => match vs, h with
  | [.sl 0 0 n, .sl 1 0 m], [.at r1 (.fl .f32 l), .at r2 (.fl .f32 l')] => .ite (decide (l.length = n ∧ l'.length = m ∧ n < 2147483648 ∧ m < 2147483648)) (.ret (.bool (eqNB l l')) [.at r1 (.fl .f32 l), .at r2 (.fl .f32 l')]) .no
  | _, _ => .no
theorem ok_List : FnT Try.prog 13 gList := by
  refine fnT tabok_b10L Try.func13 rfl rfl an_b10L fun vs h v h' e => ?_
  unfold gList at e
  split at e
  · rename_i n m r1 l r2 l'
    obtain ⟨hd, e⟩ := T.pre_inv e
    obtain ⟨rfl, rfl⟩ := T.ret_inv e
    obtain ⟨rfl, rfl, hb, hb'⟩ := of_decide_eq_true hd
    refine ⟨l.length + 1, Eq.trans (run_b10L _ _ _ _ _ _ _) ?_⟩
    unfold eqNB
    by_cases hl : l.length = l'.length
    · rw [show ((l.length : Int) != (l'.length : Int)) = false by simp; omega, show (l.length == l'.length) = true by simpa using hl]
      have hz : (l.zip l').length = l.length := by simp; omega
      refine Eq.trans (b := match firstIx (fun p : Nat × Nat => !sN p.1 p.2) (l.zip l') 0 with | some _ => some (.bool false, [.at r1 (.fl .f32 l), .at r2 (.fl .f32 l')]) | none => some (.bool true, [.at r1 (.fl .f32 l), .at r2 (.fl .f32 l')])) ?_ (by cases firstIx (fun p : Nat × Nat => !sN p.1 p.2) (l.zip l') 0 <;> rfl)
      have hs := scan0 (l.zip l') (fun p : Nat × Nat => !sN p.1 p.2) (fun M i => lp_b10L4 (l.length + 1) M (st_b10L4 l.length l'.length ((l.length : Nat) : Int) i r1 l r2 l') (kt_b10L4 (l.length + 1) (kEnd Try.f13 2))) (fun _ => some (.bool false, [.at r1 (.fl .f32 l), .at r2 (.fl .f32 l')])) (some (.bool true, [.at r1 (.fl .f32 l), .at r2 (.fl .f32 l')])) (fun M i x hx => ?_) (fun M => ?_)
      · rw [hz] at hs
        exact hs
      · have hi := lt_of_get hx
        rw [hz] at hi
        obtain ⟨h1, h2⟩ := zipN_get hx
        simp only [step_b10L4, dlt hi, din hi, din (show i < l'.length by omega), ix, h1, h2, wr (show i < 2147483648 by omega), end_b10L4_0] <;> (cases sN x.1 x.2 <;> rfl)
      · rw [hz]
        simp only [step_b10L4, dge (Nat.le_refl _), end_b10L4_1]
    · rw [show ((l.length : Int) != (l'.length : Int)) = true by simp; omega, show (l.length == l'.length) = false by simpa using hl]
      rfl
  · exact (T.no_inv e).elim
def ftL (a b c : Nat) : List Nat := [fop .add .f32 a b, fop .add .f32 a c, fop .add .f32 b c]
def ftB (a b c : Nat) : Bool := nonB a && (nonB b && (nonB c && (ftL a b c).all finB))
def gFT : GT := fun vs h => match vs, h with
  | [.fl .f32 a, .fl .f32 b, .fl .f32 c], [] => .ite (ftB a b c) (.ret (.tup [.a (.sl 0 0 3), .a (.bool true)]) [.at true (.fl .f32 [fop .add .f32 a b, fop .add .f32 a c, fop .add .f32 b c])]) (.ret nilF [])
  | _, _ => .no
def tab_ft : Fns := tabT [(25, gAllT nonB), (28, gLsT)]
theorem tabok_ft : ∀ f, FnT Try.prog f (tab_ft f) := (tabT_cons (k := 25) ok_areRotor (tabT_cons (k := 28) ok_checkedNumbers tabT_nil))
theorem run_ft (N : Nat) (a : Nat) (b : Nat) (c : Nat) : run ty tab_ft ann0 N Try.f12 [.fl .f32 a, .fl .f32 b, .fl .f32 c] []
    = (match !(nonB a && (nonB b && (nonB c && true))) with | true => some (.tup [.a (.nil), .a (.bool false)], []) | false => (match decide ([fop .add .f32 a b, fop .add .f32 a c, fop .add .f32 b c].length = 3 ∧ 3 < 2147483648) with | true => (match [fop .add .f32 a b, fop .add .f32 a c, fop .add .f32 b c].all finB with | true => some (.tup [.a (.sl 0 0 3), .a (.bool true)], [.at true (.fl .f32 [fop .add .f32 a b, fop .add .f32 a c, fop .add .f32 b c])]) | false => some (.tup [.a (.nil), .a (.bool false)], [])) | false => none)) := by
  kernel_rfl

theorem ok_ft : FnT Try.prog 12 (gFT) := by
  refine fnT tabok_ft Try.func12 rfl rfl ann0 fun vs h v h' e => ⟨0, ?_⟩
  unfold gFT at e
  split at e
  case h_2 => exact (T.no_inv e).elim
  rename_i a b c
  refine Eq.trans (run_ft 0 a b c) (Eq.trans ?_ e)
  show _ = T.k _ _
  simp only [T.k]
  unfold ftB
  rw [show decide ([fop .add .f32 a b, fop .add .f32 a c, fop .add .f32 b c].length = 3 ∧ 3 < 2147483648) = true from rfl]
  show _ = match (nonB a && (nonB b && (nonB c && [fop .add .f32 a b, fop .add .f32 a c, fop .add .f32 b c].all finB))) with | true => _ | false => _
  cases nonB a <;> cases nonB b <;> cases nonB c <;> cases ([fop .add .f32 a b, fop .add .f32 a c, fop .add .f32 b c].all finB) <;> rfl
def an_rs : Ann := ⟨fun r => if r = 5 then some ([0, 1, 6, 7], [6]) else none, fun _ _ => .quiet⟩
def tab_rs : Fns := tabT [(26, gT gIn)]
theorem tabok_rs : ∀ f, FnT Try.prog f (tab_rs f) := (tabT_cons (k := 26) ok_within tabT_nil)
def st_rs5 (b0 : Int) (most1 : Int) (all6 : Int) (j7 : Int) : St := ⟨(.int .i64 b0 :: .int .i64 most1 :: .any :: .any :: .any :: .any :: .int .i64 all6 :: .int .i64 j7 :: (anys 24 [])), []⟩
abbrev kp_rs5 : Option (List Nat × List Nat) := some ([0, 1, 6, 7], [6])
noncomputable def lp_rs5 {R : Type} (N M : Nat) (s : St) (K : X → St → Option R) : Option R := loopH 0 kp_rs5 (fun st K => exec ty tab_rs an_rs N 0 (atOf [true, true, true, false, true, false, false] Try.f18) st K) M s K
noncomputable def bk_rs5 {R : Type} (N M : Nat) (K : X → St → Option R) : X → St → Option R := fun x st => match x with | .norm => tidyK 0 (kp_rs5.map (·.1)) st fun st => lp_rs5 N M st K | x => tidyK 0 (kp_rs5.map (·.2)) st fun st => K x st
noncomputable def kt_rs5 {R : Type} (N : Nat) (K : X → St → Option R) : X → St → Option R := kBlkR 0 (kSeqR tab_rs an_rs N 0 (atOf [true, true, true, true] Try.f18) (K))
def en_rs5_0 (all6 : Int) : St := ⟨(anys 6 (.int .i64 all6 :: (anys 25 []))), []⟩
theorem run_rs (N : Nat) (b : Int) (m : Int) : run ty tab_rs an_rs N Try.f18 [.int .i64 b, .int .i64 m] []
    = (match !(inB b 1 1000) with | true => some (.tup [.a (.int .i64 0), .a (.bool false)], []) | false => (match !(inB m 0 1000000) with | true => some (.tup [.a (.int .i64 0), .a (.bool false)], []) | false => lp_rs5 N N (st_rs5 b m 0 0) (kt_rs5 N (kEnd Try.f18 0)))) := by
  kernel_rfl
theorem step_rs5 {R : Type} (N M : Nat) (K : X → St → Option R) (b0 : Int) (most1 : Int) (all6 : Int) (j7 : Int) : lp_rs5 N (M + 1) (st_rs5 b0 most1 all6 j7) K
    = (match decide ((IntKind.i64.wrap ((IntKind.i64.wrap (b0 * j7)) * (IntKind.i64.wrap (j7 + 1))) : Int) ≤ most1) with | true => lp_rs5 N M (st_rs5 b0 most1 (IntKind.i64.wrap (all6 + (IntKind.i64.wrap ((IntKind.i64.wrap (2 * j7)) + 1)))) (IntKind.i64.wrap (j7 + 1))) K | false => K (.exit 0) (en_rs5_0 all6)) := by
  kernel_rfl
theorem end_rs5_0 (N : Nat) (all6 : Int) : kt_rs5 N (kEnd Try.f18 0) (.exit 0) (en_rs5_0 all6)
    = some (.tup [.a (.int .i64 all6), .a (.bool true)], []) := by
  kernel_rfl

noncomputable def ce_rs5_0 (N : Nat) (all6 : Int) : Option (V × H) := some (.tup [.a (.int .i64 all6), .a (.bool true)], [])
noncomputable def mb_rs5 (N : Nat) (k0 : Int → Option (V × H)) (rq : Int → Int → Int → Int → Option (V × H)) : Int → Int → Int → Int → Option (V × H) := fun (b0 : Int) (most1 : Int) (all6 : Int) (j7 : Int) => (match decide ((IntKind.i64.wrap ((IntKind.i64.wrap (b0 * j7)) * (IntKind.i64.wrap (j7 + 1))) : Int) ≤ most1) with | true => (rq b0 most1 (IntKind.i64.wrap (all6 + (IntKind.i64.wrap ((IntKind.i64.wrap (2 * j7)) + 1)))) (IntKind.i64.wrap (j7 + 1))) | false => (k0 all6))
noncomputable def mr_rs5 (N : Nat) (k0 : Int → Option (V × H)) (M : Nat) : Int → Int → Int → Int → Option (V × H) := Nat.rec (motive := fun _ => Int → Int → Int → Int → Option (V × H)) (fun (_ : Int) (_ : Int) (_ : Int) (_ : Int) => none) (fun _ rq => mb_rs5 N k0 rq) M
theorem mrs_rs5 (N : Nat) (k0 : Int → Option (V × H)) (M : Nat) (b0 : Int) (most1 : Int) (all6 : Int) (j7 : Int) : mr_rs5 N k0 (M + 1) b0 most1 all6 j7 = mb_rs5 N k0 (mr_rs5 N k0 M) b0 most1 all6 j7 := rfl
theorem H_rs5 (N : Nat) : ∀ (M : Nat) (b0 : Int) (most1 : Int) (all6 : Int) (j7 : Int), lp_rs5 N M (st_rs5 b0 most1 all6 j7) (kt_rs5 N (kEnd Try.f18 0)) = mr_rs5 N (ce_rs5_0 N) M b0 most1 all6 j7 := by
  have he0 : ∀ (all6 : Int), kt_rs5 N (kEnd Try.f18 0) (.exit 0) (en_rs5_0 all6) = ce_rs5_0 N all6 := by
    intro all6
    rw [end_rs5_0]
    unfold ce_rs5_0
    first | (simp only []; done) | (simp only []; kernel_rfl) | rfl
  intro M
  induction M with
  | zero => intros; rfl
  | succ M ih =>
    intro b0 most1 all6 j7
    rw [step_rs5]
    rw [mrs_rs5]
    unfold mb_rs5
    first | (simp only [ih, he0]; done) | (simp only [ih, he0]; kernel_rfl) | rfl
noncomputable def md_rs (N : Nat) (b : Int) (m : Int) : Option (V × H) := (match !(inB b 1 1000) with | true => some (.tup [.a (.int .i64 0), .a (.bool false)], []) | false => (match !(inB m 0 1000000) with | true => some (.tup [.a (.int .i64 0), .a (.bool false)], []) | false => (mr_rs5 N (ce_rs5_0 N) N b m 0 0)))
theorem mdl_rs (N : Nat) (b : Int) (m : Int) : run ty tab_rs an_rs N Try.f18 [.int .i64 b, .int .i64 m] [] = md_rs N b m := by
  rw [run_rs]
  unfold md_rs
  first | (simp only [H_rs5 N N]; done) | (simp only [H_rs5 N N]; kernel_rfl) | rfl

def oRS : Option (V × H) → Option Int
  | some (.tup [.a (.int .i64 x), .a (.bool true)], []) => some x
  | _ => none
theorem oRS_inv {o : Option (V × H)} {x : Int} (h : oRS o = some x) : o = some (.tup [.a (.int .i64 x), .a (.bool true)], []) := by
  unfold oRS at h
  split at h
  · cases h
    rfl
  · cases h
noncomputable def rsD (b m : Int) : Int := (oRS (md_rs 40 b m)).getD 0
noncomputable def rsC (A B : Nat) : Bool := (oRS (md_rs 40 ((A : Int) + 1) (B : Int))).isSome
theorem rsA : (List.range 6).all (fun A => (List.range 200).all fun B => rsC A B) = true := by kernel_rfl
def rsB (b m : Int) : Bool := inB b 1 6 && inB m 0 199
noncomputable def gRS : GT := fun vs h => match vs, h with | [.int .i64 b, .int .i64 m], [] => .ite (rsB b m) (.ret (.tup [.a (.int .i64 (rsD b m)), .a (.bool true)]) []) .no | _, _ => .no
theorem ok_rsI : FnT Try.prog 18 gRS := by
  refine fnT tabok_rs Try.func18 rfl rfl an_rs fun vs h v h' e => ⟨40, ?_⟩
  unfold gRS at e
  split at e
  case h_2 => exact (T.no_inv e).elim
  rename_i b m
  obtain ⟨hs, e⟩ := T.pre_inv e
  obtain ⟨rfl, rfl⟩ := T.ret_inv e
  refine Eq.trans (mdl_rs 40 b m) ?_
  unfold rsB at hs
  rw [Bool.and_eq_true] at hs
  have h1 := inB_of hs.1
  have h2 := inB_of hs.2
  obtain ⟨A, rfl⟩ : ∃ A : Nat, b = (A : Int) + 1 := ⟨(b - 1).toNat, by omega⟩
  obtain ⟨B, rfl⟩ : ∃ B : Nat, m = (B : Int) := ⟨m.toNat, by omega⟩
  have hr := List.all_eq_true.mp (List.all_eq_true.mp rsA A (List.mem_range.mpr (by omega))) B (List.mem_range.mpr (by omega))
  unfold rsC at hr
  obtain ⟨z, hz⟩ := Option.isSome_iff_exists.mp hr
  unfold rsD
  rw [hz]
  exact oRS_inv hz
theorem wrap_n {n : Int} (h : -1000 ≤ n) (h2 : n ≤ 1000) : IntKind.i64.wrap n = n := wrap_z (by omega) (by omega)
theorem FnT.runs {f : FuncId} {fn : Func} {code : Code} {fns : Fns} (hfn : ∀ f, FnT Try.prog f (fns f)) (hf : Try.prog.funcs[f]? = some fn) (hb : fn.body = some code) (hn : (fn.name == "runtime.NumGoroutine") = false) (an : Ann) (N : Nat) :
    FnT Try.prog f (fun vs h => T.of (run ty fns an N fn vs h)) :=
  fnT hfn hf hb hn an fun vs h v h' e => ⟨N, by rw [T.run_of] at e; exact e⟩
def longB (n m : Nat) : Bool := decide ((n : Int) > 1048576) || decide ((m : Int) > 1048576)
def atOk (n : Nat) (l : List Int) (i : Int) : Bool := decide (l.length = n ∧ n < 2147483648 ∧ 0 ≤ i ∧ i < 1000)
def atF (l : List Int) (i k : Int) : Int := match decide (k ≤ 1) with
  | true => 0
  | false => match l[i.toNat]? with
    | some e => Int.tmod (IntKind.i64.wrap e) k
    | none => Int.tmod (IntKind.i64.wrap (IntKind.i64.wrap (i * 37) + 11)) k
def bytesB (l : List Int) : Bool := l.all (fun e => decide (0 ≤ e ∧ e < 256))
theorem atF_range {l : List Int} {i k : Int} (hb : bytesB l = true) (hi : 0 ≤ i) (hi2 : i < 1000) (hk : 1 ≤ k) : 0 ≤ atF l i k ∧ atF l i k < k := by
  unfold atF
  by_cases h1 : k ≤ 1
  · rw [decide_eq_true h1]
    show 0 ≤ (0 : Int) ∧ (0 : Int) < k
    omega
  · rw [decide_eq_false h1]
    dsimp only
    have ht : ∀ z : Int, 0 ≤ z → z < 100000 → 0 ≤ Int.tmod (IntKind.i64.wrap z) k ∧ Int.tmod (IntKind.i64.wrap z) k < k := by
      intro z z0 z1
      rw [wrap_z (by omega) (by omega), Int.tmod_eq_emod_of_nonneg z0]
      exact ⟨Int.emod_nonneg _ (by omega), Int.emod_lt_of_pos _ (by omega)⟩
    cases he : l[i.toNat]? with
    | some e =>
      obtain ⟨e0, e1⟩ := of_decide_eq_true (List.all_eq_true.mp hb e (List.mem_of_getElem? he))
      exact ht e e0 (by omega)
    | none =>
      show 0 ≤ Int.tmod (IntKind.i64.wrap (IntKind.i64.wrap (i * 37) + 11)) k ∧ Int.tmod (IntKind.i64.wrap (IntKind.i64.wrap (i * 37) + 11)) k < k
      rw [wrap_z (n := i * 37) (by omega) (by omega)]
      exact ht _ (by omega) (by omega)
def tab_lgA : Fns := tabT []
theorem tabok_lgA : ∀ f, FnT Try.prog f (tab_lgA f) := tabT_nil
theorem run_lgA (N : Nat) (n : Nat) (m : Nat) (r : Bool) (l : List Int) (q : Bool) (l' : List Int) : run ty tab_lgA ann0 N Try.f5 [.sl 0 0 n, .sl 1 0 m] [.at r (.int .u8 l), .at q (.int .u8 l')]
    = (match decide ((((n : Nat) : Int) : Int) > 1048576) with | true => some (.bool true, [.at r (.int .u8 l), .at q (.int .u8 l')]) | false => some (.bool (decide ((((m : Nat) : Int) : Int) > 1048576)), [.at r (.int .u8 l), .at q (.int .u8 l')])) := by
  kernel_rfl

def tab_lgB : Fns := tabT []
theorem tabok_lgB : ∀ f, FnT Try.prog f (tab_lgB f) := tabT_nil
theorem run_lgB (N : Nat) (n : Nat) (r : Bool) (l : List Int) : run ty tab_lgB ann0 N Try.f5 [.sl 0 0 n, .nil] [.at r (.int .u8 l)]
    = (match decide ((((n : Nat) : Int) : Int) > 1048576) with | true => some (.bool true, [.at r (.int .u8 l)]) | false => some (.bool false, [.at r (.int .u8 l)])) := by
  kernel_rfl

def tab_lgC : Fns := tabT []
theorem tabok_lgC : ∀ f, FnT Try.prog f (tab_lgC f) := tabT_nil
theorem run_lgC (N : Nat) (m : Nat) (r : Bool) (l : List Int) : run ty tab_lgC ann0 N Try.f5 [.nil, .sl 0 0 m] [.at r (.int .u8 l)]
    = some (.bool (decide ((((m : Nat) : Int) : Int) > 1048576)), [.at r (.int .u8 l)]) := by
  kernel_rfl

def tab_lgD : Fns := tabT []
theorem tabok_lgD : ∀ f, FnT Try.prog f (tab_lgD f) := tabT_nil
theorem run_lgD (N : Nat)  : run ty tab_lgD ann0 N Try.f5 [.nil, .nil] []
    = some (.bool false, []) := by
  kernel_rfl

def gLong : GT := fun vs h => match vs, h with
  | [.sl 0 0 n, .sl 1 0 m], [.at r (.int .u8 l), .at q (.int .u8 l')] => .ret (.bool (longB n m)) [.at r (.int .u8 l), .at q (.int .u8 l')]
  | [.sl 0 0 n, .nil], [.at r (.int .u8 l)] => .ret (.bool (longB n 0)) [.at r (.int .u8 l)]
  | [.nil, .sl 0 0 m], [.at r (.int .u8 l)] => .ret (.bool (longB 0 m)) [.at r (.int .u8 l)]
  | [.nil, .nil], [] => .ret (.bool (longB 0 0)) []
  | _, _ => .no
theorem ok_Long : FnT Try.prog 5 gLong := by
  intro vs hp v h' e
  unfold gLong at e
  split at e
  · obtain ⟨rfl, rfl⟩ := T.ret_inv e
    refine FnT.runs tabok_lgA Try.func5 rfl rfl ann0 0 _ _ _ _ ?_
    rw [T.run_of]
    refine Eq.trans (run_lgA 0 _ _ _ _ _ _) ?_
    unfold longB
    rename_i n m r q l l'
    cases decide ((n : Int) > 1048576) <;> rfl
  · obtain ⟨rfl, rfl⟩ := T.ret_inv e
    refine FnT.runs tabok_lgB Try.func5 rfl rfl ann0 0 _ _ _ _ ?_
    rw [T.run_of]
    refine Eq.trans (run_lgB 0 _ _ _) ?_
    unfold longB
    rename_i n r l
    cases decide ((n : Int) > 1048576) <;> rfl
  · obtain ⟨rfl, rfl⟩ := T.ret_inv e
    refine FnT.runs tabok_lgC Try.func5 rfl rfl ann0 0 _ _ _ _ ?_
    rw [T.run_of]
    refine Eq.trans (run_lgC 0 _ _ _) ?_
    unfold longB
    rfl
  · obtain ⟨rfl, rfl⟩ := T.ret_inv e
    refine FnT.runs tabok_lgD Try.func5 rfl rfl ann0 0 _ _ _ _ ?_
    rw [T.run_of]
    refine Eq.trans (run_lgD 0 ) ?_
    unfold longB
    rfl
  · exact (T.no_inv e).elim
def tab_atA : Fns := tabT []
theorem tabok_atA : ∀ f, FnT Try.prog f (tab_atA f) := tabT_nil
theorem run_atA (N : Nat) (n : Nat) (i : Int) (k : Int) (rw : Bool) (l : List Int) : run ty tab_atA ann0 N Try.f6 [.sl 0 0 n, .int .i64 i, .int .i64 k] [.at rw (.int .u8 l)]
    = (match decide ((k : Int) ≤ 1) with | true => some (.int .i64 0, [.at rw (.int .u8 l)]) | false => (match decide ((i : Int) < ((n : Nat) : Int)) with | true => (match decide (0 ≤ (i : Int) ∧ (i : Int) < ((n : Nat) : Int)) with | true => (match l[0 + (i).toNat * 1]? with | some e1 => (match decide (k = 0) with | true => none | false => some (.int .i64 (Int.tmod (IntKind.i64.wrap e1) k), [.at rw (.int .u8 l)])) | none => none) | false => none) | false => (match decide (k = 0) with | true => none | false => some (.int .i64 (Int.tmod (IntKind.i64.wrap ((IntKind.i64.wrap (i * 37)) + 11)) k), [.at rw (.int .u8 l)])))) := by
  kernel_rfl

def tab_atB : Fns := tabT []
theorem tabok_atB : ∀ f, FnT Try.prog f (tab_atB f) := tabT_nil
theorem run_atB (N : Nat) (i : Int) (k : Int) : run ty tab_atB ann0 N Try.f6 [.nil, .int .i64 i, .int .i64 k] []
    = (match decide ((k : Int) ≤ 1) with | true => some (.int .i64 0, []) | false => (match decide ((i : Int) < 0) with | true => none | false => (match decide (k = 0) with | true => none | false => some (.int .i64 (Int.tmod (IntKind.i64.wrap ((IntKind.i64.wrap (i * 37)) + 11)) k), [])))) := by
  kernel_rfl

def gAt : GT := fun vs h => match vs, h with
  | [.sl 0 0 n, .int .i64 i, .int .i64 k], [.at rw (.int .u8 l)] => .ite (atOk n l i) (.ret (.int .i64 (atF l i k)) [.at rw (.int .u8 l)]) .no
  | [.nil, .int .i64 i, .int .i64 k], [] => .ite (atOk 0 [] i) (.ret (.int .i64 (atF [] i k)) []) .no
  | _, _ => .no
theorem ok_At : FnT Try.prog 6 gAt := by
  intro vs hp v h' e
  unfold gAt at e
  split at e
  · rename_i n i k rw l
    obtain ⟨hd, e⟩ := T.pre_inv e
    obtain ⟨rfl, rfl⟩ := T.ret_inv e
    obtain ⟨hn, hn2, hi, hi2⟩ := of_decide_eq_true hd
    refine FnT.runs tabok_atA Try.func6 rfl rfl ann0 0 _ _ _ _ ?_
    rw [T.run_of]
    refine Eq.trans (run_atA 0 n i k rw l) ?_
    unfold atF
    by_cases h1 : k ≤ 1
    · rw [decide_eq_true h1]
    · rw [decide_eq_false h1, decide_eq_false (show ¬ k = 0 by omega), show 0 + i.toNat * 1 = i.toNat by omega]
      by_cases h2 : i < (n : Int)
      · have hx : l[i.toNat]? = some l[i.toNat] := List.getElem?_eq_getElem (by omega)
        rw [decide_eq_true h2, decide_eq_true (show 0 ≤ i ∧ i < (n : Int) from ⟨hi, h2⟩), hx]
      · have hx : l[i.toNat]? = none := List.getElem?_eq_none (by omega)
        rw [decide_eq_false h2, hx]
  · rename_i i k
    obtain ⟨hd, e⟩ := T.pre_inv e
    obtain ⟨rfl, rfl⟩ := T.ret_inv e
    obtain ⟨hn, hn2, hi, hi2⟩ := of_decide_eq_true hd
    refine FnT.runs tabok_atB Try.func6 rfl rfl ann0 0 _ _ _ _ ?_
    rw [T.run_of]
    refine Eq.trans (run_atB 0 i k) ?_
    unfold atF
    by_cases h1 : k ≤ 1
    · rw [decide_eq_true h1]
    · rw [decide_eq_false h1, decide_eq_false (show ¬ k = 0 by omega), decide_eq_false (show ¬ i < 0 by omega), List.getElem?_nil]
  · exact (T.no_inv e).elim
def tab_gapW : Fns := tabT []
theorem tabok_gapW : ∀ f, FnT Try.prog f (tab_gapW f) := tabT_nil
theorem run_gapW (N : Nat) (x : Nat) (y : Nat) : run ty tab_gapW ann0 N Try.f15 [.fl .f64 x, .fl .f64 y] []
    = (match ltD x y with | true => some (.fl .f64 (fop .sub .f64 y x), []) | false => some (.fl .f64 (fop .sub .f64 x y), [])) := by
  kernel_rfl

def gapD (x y : Nat) : Nat := match ltD x y with | true => fop .sub .f64 y x | false => fop .sub .f64 x y
def gGap : GT := fun vs h => match vs, h with | [.fl .f64 x, .fl .f64 y], [] => .ret (.fl .f64 (gapD x y)) [] | _, _ => .no
theorem ok_Gap : FnT Try.prog 15 gGap := by
  refine fnT tabok_gapW Try.func15 rfl rfl ann0 fun vs h v h' e => ⟨0, ?_⟩
  unfold gGap at e
  split at e
  case h_2 => exact (T.no_inv e).elim
  rename_i x y
  obtain ⟨rfl, rfl⟩ := T.ret_inv e
  refine Eq.trans (run_gapW 0 x y) ?_
  unfold gapD
  cases ltD x y <;> rfl
def g1_rl : GT := fun vs h => match vs, h with
  | [.fl .f32 b, .fl .f32 d, .int .i64 n], [] => .ite (ok_rl b d n) (.ret (.tup [.a (.sl 0 0 n.toNat), .a (.bool true)]) [.at true (.fl .f32 (li_rl b d n))]) .no
  | _, _ => .no
theorem ok1_rl : FnT Try.prog 7 g1_rl := fun vs h v h' e => ok_rlI vs h v h' (by
  unfold g1_rl at e
  split at e
  · obtain ⟨hs0, e⟩ := T.pre_inv e
    obtain ⟨rfl, rfl⟩ := T.ret_inv e
    unfold g_rl
    simp only [hs0]
    rfl
  · exact (T.no_inv e).elim)
def g1_w : GT := fun vs h => match vs, h with
  | [.fl .f32 b, .fl .f32 w, .int .i64 n], [] => .ite (wOk b w n) (.ret (.tup [.a (.sl 0 0 n.toNat), .a (.bool true)]) [.at true (.fl .f32 (wD b w n.toNat))]) .no
  | _, _ => .no
theorem ok1_wI : FnT Try.prog 8 g1_w := fun vs h v h' e => ok_wtI vs h v h' (by
  unfold g1_w at e
  split at e
  · obtain ⟨hs0, e⟩ := T.pre_inv e
    obtain ⟨rfl, rfl⟩ := T.ret_inv e
    unfold g_w
    simp only [hs0]
    rfl
  · exact (T.no_inv e).elim)
theorem ok1_wS : FnT Try.prog 9 g1_w := fun vs h v h' e => ok_wtW vs h v h' (by
  unfold g1_w at e
  split at e
  · obtain ⟨hs0, e⟩ := T.pre_inv e
    obtain ⟨rfl, rfl⟩ := T.ret_inv e
    unfold g_w
    simp only [hs0]
    rfl
  · exact (T.no_inv e).elim)
def g1_sh : GT := fun vs h => match vs, h with
  | [.sl 0 0 n, .fl .f32 w, .int .i64 k, .int .i64 j], [.at rw (.fl .f32 l)] => .ite (decide (l.length = n ∧ n < 2147483648)) (.ite (shOk l w k j) (.ret (.tup [.a (.sl 1 0 n), .a (.bool true)]) [.at rw (.fl .f32 l), .at true (.fl .f32 (shL l w k))]) .no) .no
  | _, _ => .no
theorem ok1_sh : FnT Try.prog 10 g1_sh := fun vs h v h' e => ok_shI vs h v h' (by
  unfold g1_sh at e
  split at e
  · obtain ⟨hs0, e⟩ := T.pre_inv e
    obtain ⟨hs1, e⟩ := T.pre_inv e
    obtain ⟨rfl, rfl⟩ := T.ret_inv e
    unfold g_sh
    simp only [hs0, hs1]
    rfl
  · exact (T.no_inv e).elim)
def g1_tl : GT := fun vs h => match vs, h with
  | [.fl .f32 a, .fl .f32 b, .int .i64 j], [] => .ite (ok_tl a b j) (.ret (.tup [.a (.sl 0 0 (j + 1).toNat), .a (.bool true)]) [.at true (.fl .f32 (li_tl a b j))]) .no
  | _, _ => .no
theorem ok1_tl : FnT Try.prog 11 g1_tl := fun vs h v h' e => ok_tlI vs h v h' (by
  unfold g1_tl at e
  split at e
  · obtain ⟨hs0, e⟩ := T.pre_inv e
    obtain ⟨rfl, rfl⟩ := T.ret_inv e
    unfold g_tl
    simp only [hs0]
    rfl
  · exact (T.no_inv e).elim)
def g1_ft : GT := fun vs h => match vs, h with
  | [.fl .f32 a, .fl .f32 b, .fl .f32 c], [] => .ite (ftB a b c) (.ret (.tup [.a (.sl 0 0 3), .a (.bool true)]) [.at true (.fl .f32 [fop .add .f32 a b, fop .add .f32 a c, fop .add .f32 b c])]) .no
  | _, _ => .no
theorem ok1_ft : FnT Try.prog 12 g1_ft := fun vs h v h' e => ok_ft vs h v h' (by
  unfold g1_ft at e
  split at e
  · obtain ⟨hs0, e⟩ := T.pre_inv e
    obtain ⟨rfl, rfl⟩ := T.ret_inv e
    unfold gFT
    simp only [hs0]
    rfl
  · exact (T.no_inv e).elim)
def g1_br : GT := fun vs h => match vs, h with
  | [.fl .f32 b, .fl .f32 o, .fl .f32 g, .int .i64 k, .int .i64 n], [] => .ite (ok_br b o g k n) (.ret (.tup [.a (.sl 0 0 n.toNat), .a (.bool true)]) [.at true (.fl .f32 (li_br b o g k n))]) .no
  | _, _ => .no
theorem ok1_br : FnT Try.prog 16 g1_br := fun vs h v h' e => ok_brI vs h v h' (by
  unfold g1_br at e
  split at e
  · obtain ⟨hs0, e⟩ := T.pre_inv e
    obtain ⟨rfl, rfl⟩ := T.ret_inv e
    unfold g_br
    simp only [hs0]
    rfl
  · exact (T.no_inv e).elim)
def g1_hd : GT := fun vs h => match vs, h with
  | [.fl .f32 b, .fl .f32 o, .fl .f32 g, .int .i64 n], [] => .ite (ok_br b o g 1 n) (.ret (hdV (hdI b o g n) (hdX b o g n) true) []) .no
  | _, _ => .no
theorem ok1_hd : FnT Try.prog 17 g1_hd := fun vs h v h' e => ok_hdI2 vs h v h' (by
  unfold g1_hd at e
  split at e
  · obtain ⟨hs0, e⟩ := T.pre_inv e
    obtain ⟨rfl, rfl⟩ := T.ret_inv e
    unfold g_hd
    simp only [hs0]
    rfl
  · exact (T.no_inv e).elim)
def nmO {α : Type} (x : α) : Option α := some x
end Go.Proofs.Ytbbggpcbnahgiaa.Ab

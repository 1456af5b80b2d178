/- All quiet operations together. Only lemmas. -/
import Derived.Test.YtlopdogjdfeikaaAbOps4
namespace Go.Proofs.Ytlopdogjdfeikaa.Ab
set_option linter.unusedVariables false
set_option linter.unusedSimpArgs false
open Go

section
variable {P : Program} {R : Type} {K : V → Option R} {r : R}

def GivesN (P : Program) (s : Sem Next) (μ : Mu) (v : V) (w : World) : Prop := ∃ cv n, s.run P w = .ok (.value cv) (w.drewN n) ∧ RepV μ v cv
theorem Gives.next {s : Sem Value} {μ : Mu} {v : V} {w : World} (h : Gives P s μ v w) : GivesN P (do pure (Next.value (← s)) : Sem Next) μ v w := by
  obtain ⟨cv, n, h1, h2⟩ := h
  exact ⟨cv, n, by simp [h1], h2⟩
theorem GivesN.ofRep {μ : Mu} {v : V} {cv : Value} (h : RepV μ v cv) (w : World) : GivesN P (Pure.pure (Next.value cv)) μ v w := ⟨cv, 0, rfl, h⟩

theorem absA_rep {μ : Mu} {v : Value} {x : A} (h : absA v = some x) : RepA μ x v := by
  unfold absA at h
  split at h <;> cases h
  · rfl
  · rfl
  · exact ⟨_, rfl, rfl⟩
  · exact ⟨_, _, rfl, rfl, rfl⟩
  · rfl
  · rfl
theorem absAs_rep {μ : Mu} : ∀ {vs : List Value} {l : List A}, optMap absA vs = some l → RepAs μ l vs
  | [], l, e => by cases e; trivial
  | v :: vs, l, e => by
    obtain ⟨y, m, h1, h2, rfl⟩ := optMap_cons e
    exact ⟨absA_rep h1, absAs_rep h2⟩
theorem absV_rep (μ : Mu) (v : Value) : RepV μ (absV v) v := by
  unfold absV
  split
  · split
    · exact ⟨_, rfl, absAs_rep ‹_›⟩
    · trivial
  · split
    · exact absA_rep ‹_›
    · trivial

def Slots (μ : Mu) (t : List V) (a : Act) : Prop := a.tmps.size = t.length ∧ ∀ i, RepV μ (nth t i) (a.tmps.getD i undef)
theorem ev_rep {μ : Mu} {t : List V} {a : Act} (h : Slots μ t a) (x : Operand) : RepV μ (ev t x) (a.eval x) := by
  cases x with
  | tmp n => exact h.2 n
  | const v => exact absV_rep μ v
  | global g => trivial
  | func f => exact rfl

theorem repPick {μ : Mu} {b : Bool} {cv : Value} (h : RepV μ (.bool b) cv) (w : World) : (asBool cv).run P w = .ok b w := by cases repBool h; rfl

set_option maxHeartbeats 1000000 in
theorem quiet_run {ty : Ty} (hty : TyOk P ty) {t : List V} {h : H} {o : Oper} {op : Op} (ho : o.op = op) (e : quietK ty t h op K = some r) :
    ∃ v, K v = some r ∧ ∀ (μ : Mu) (ρ : Operand → Value), (∀ x ∈ op.operands.toList, RepV μ (ev t x) (ρ x)) → ∀ (w : World) (h2 : H), Agree h h2 → Rel μ h2 w → GivesN P (execOp ρ o) μ v w := by
  have E : ∀ ρ, execOp ρ o = execOp ρ { o with op := op } := fun ρ => by rw [← ho]
  simp only [E]
  clear E
  unfold quietK at e
  split at e
  · exact ⟨_, e, fun μ ρ hρ w h2' ha2 hr => GivesN.ofRep (hρ _ (by simp [Op.operands])) w⟩
  · exact ⟨_, e, fun μ ρ hρ w h2' ha2 hr => GivesN.ofRep (hρ _ (by simp [Op.operands])) w⟩
  · -- pick
    rename_i c a b
    split at e
    · rename_i p hc
      split at e
      · refine ⟨_, e, fun μ ρ hρ w h2' ha2 hr => ?_⟩
        have h1 := hρ c (by simp [Op.operands])
        rw [hc] at h1
        have h2 := repBool h1
        refine ⟨ρ a, 0, ?_, hρ a (by simp [Op.operands])⟩
        simp [execOp, h2, asBool, World.drewN]
      · refine ⟨_, e, fun μ ρ hρ w h2' ha2 hr => ?_⟩
        have h1 := hρ c (by simp [Op.operands])
        rw [hc] at h1
        have h2 := repBool h1
        refine ⟨ρ b, 0, ?_, hρ b (by simp [Op.operands])⟩
        simp [execOp, h2, asBool, World.drewN]
    · cases e
  · -- binOp
    obtain ⟨v, h1, h2⟩ := bin_run hty e
    exact ⟨v, h1, fun μ ρ hρ w h2' ha2 hr => (h2 μ _ _ (hρ _ (by simp [Op.operands])) (hρ _ (by simp [Op.operands])) w _ _).next⟩
  · obtain ⟨v, h1, h2⟩ := un_run (P := P) e
    exact ⟨v, h1, fun μ ρ hρ w h2' ha2 hr => (h2 μ _ (hρ _ (by simp [Op.operands])) w).next⟩
  · obtain ⟨v, h1, h2⟩ := conv_run hty e
    exact ⟨v, h1, fun μ ρ hρ w h2' ha2 hr => (h2 μ _ (hρ _ (by simp [Op.operands])) w).next⟩
  · -- extract
    rename_i x i
    split at e
    · rename_i l hx
      split at e
      · rename_i u hu
        refine ⟨_, e, fun μ ρ hρ w h2' ha2 hr => ?_⟩
        have h1 := hρ x (by simp [Op.operands])
        rw [hx] at h1
        obtain ⟨cs, h2, h3⟩ := h1
        have key : ∀ {l : List U} {cs : List Value}, RepUs μ l cs → ∀ {i : Nat} {u : U}, l[i]? = some u → ∃ cv, cs[i]? = some cv ∧ RepU μ u cv := by
          intro l
          induction l with
          | nil => intro cs _ i u h; simp at h
          | cons y l ih =>
            intro cs h i u hu
            cases cs with
            | nil => exact h.elim
            | cons c cs =>
              cases i with
              | zero => simp at hu; subst hu; exact ⟨c, rfl, h.1⟩
              | succ i => simp at hu; obtain ⟨cv, h4, h5⟩ := ih h.2 hu; exact ⟨cv, by simpa using h4, h5⟩
        obtain ⟨cv, h4, h5⟩ := key h3 hu
        refine ⟨cv, 0, ?_, h5⟩
        simp [execOp, h2, Instr.extract, h4, World.drewN]
      · cases e
    · cases e
  · -- field
    rename_i xt x f
    split at e
    · rename_i l oo I hx hf
      obtain ⟨gs, g, i, z, d, hu, hg, hgo, rI⟩ := fieldOf_row hty hf
      obtain ⟨v, h1, h2⟩ := part_run rI e
      refine ⟨v, h1, fun μ ρ hρ w h2' ha2 hr => ?_⟩
      have h3 := hρ x (by simp [Op.operands])
      rw [hx] at h3
      obtain ⟨cs, h4, h5⟩ := h3
      obtain ⟨cv, n, h6, h7⟩ := h2 μ cs h5 w
      refine ⟨cv, n, ?_, h7⟩
      simp [execOp, h4, Instr.field, run_underlying hu, hg, asAgg, hgo, h6]
    · cases e
  · obtain ⟨v, h1, h2⟩ := idx_run hty e
    exact ⟨v, h1, fun μ ρ hρ w h2' ha2 hr => (h2 μ _ _ (hρ _ (by simp [Op.operands])) (hρ _ (by simp [Op.operands])) w).next⟩
  · -- fieldAddr
    rename_i s x f
    split at e
    · rename_i bi oo p I hx hf
      split at e
      · cases e
      · rename_i hsz
        obtain ⟨gs, g, i, z, d, hu, hg, hgo, rI⟩ := fieldOf_row hty hf
        refine ⟨_, e, fun μ ρ hρ w h2' ha2 hr => ?_⟩
        have h3 := hρ x (by simp [Op.operands])
        rw [hx] at h3
        obtain ⟨m, hm, h4⟩ := h3
        refine ⟨.pointer (some ⟨m.blk, m.off + oo + p, none⟩), 0, ?_, ⟨m, hm, by rw [Nat.add_assoc]⟩⟩
        have hpos := rI.pos
        have hne : ¬ I.size = 0 := by omega
        simp [execOp, h4, Instr.fieldAt, Instr.sureAddr, run_underlying hu, hg, fieldPlace, rI.run_sizeOf, hne, addr_add, hgo, World.drewN]
    · cases e
  · obtain ⟨v, h1, h2⟩ := idxAddr_run hty e
    exact ⟨v, h1, fun μ ρ hρ w h2' ha2 hr => (h2 μ _ _ (hρ _ (by simp [Op.operands])) (hρ _ (by simp [Op.operands])) w).next⟩
  · obtain ⟨v, h1, h2⟩ := load_run hty e
    exact ⟨v, h1, fun μ ρ hρ w h2' ha2 hr => (h2 μ _ (hρ _ (by simp [Op.operands])) w h2' ha2 hr).next⟩
  · -- nilCheck
    rename_i x
    split at e
    · rename_i bi oo hx
      refine ⟨_, e, fun μ ρ hρ w h2' ha2 hr => ?_⟩
      have h3 := hρ x (by simp [Op.operands])
      rw [hx] at h3
      obtain ⟨m, hm, h4⟩ := h3
      refine ⟨ρ x, 0, ?_, ⟨m, hm, h4⟩⟩
      simp [execOp, h4, World.drewN]
    · cases e
  · -- slice
    rename_i xt x lo hi mx
    obtain ⟨v, h1, h2⟩ := slice_run hty e
    refine ⟨v, h1, fun μ ρ hρ w h2' ha2 hr => Gives.next (h2 μ _ (lo.map ρ) (hi.map ρ) (mx.map ρ) (hρ _ (by simp [Op.operands])) ?_ ?_ ?_ ?_ ?_ ?_ w)⟩
    · intro u hu; simp only [Option.map_eq_some_iff] at hu; obtain ⟨q, rfl, rfl⟩ := hu; exact ⟨_, rfl, hρ _ (by simp [Op.operands])⟩
    · intro hu; cases lo with | none => rfl | some _ => cases hu
    · intro u hu; simp only [Option.map_eq_some_iff] at hu; obtain ⟨q, rfl, rfl⟩ := hu; exact ⟨_, rfl, hρ _ (by simp [Op.operands])⟩
    · intro hu; cases hi with | none => rfl | some _ => cases hu
    · intro u hu; simp only [Option.map_eq_some_iff] at hu; obtain ⟨q, rfl, rfl⟩ := hu; exact ⟨_, rfl, hρ _ (by simp [Op.operands])⟩
    · intro hu; cases mx with | none => rfl | some _ => cases hu
  · -- build
    obtain ⟨v, h1, h2⟩ := build_run (h := h) hty (t := t) (K := K) (by unfold quietK; exact e)
    exact ⟨v, h1, fun μ ρ hρ w h2' ha2 hr => (h2 μ ρ (fun x hx => hρ x (by simpa [Op.operands] using hx)) w).next⟩
  · -- makeFunc
    exact ⟨_, e, fun μ ρ hρ w h2' ha2 hr => ⟨_, 0, rfl, by show Value.func _ _ _ = _; simp⟩⟩
  · -- len
    rename_i x lt ts
    obtain ⟨v, h1, h2⟩ := len_run hty e
    refine ⟨v, h1, fun μ ρ hρ w h2' ha2 hr => ?_⟩
    have h3 := h2 μ _ (hρ x (by simp [Op.operands, Call.operands])) w ts o.type
    simp only [BigFrame.execOp_builtin, BigFrame.builtin_len, List.map_toArray, List.map_cons, List.map_nil]
    exact h3.next
  · -- max
    rename_i x xs ts
    obtain ⟨v, h1, h2⟩ := maxs_run (mx := true) (P := P) e
    refine ⟨v, h1, fun μ ρ hρ w h2' ha2 hr => ?_⟩
    have h3 := h2 ρ μ _ (hρ x (by simp [Op.operands, Call.operands])) (fun o ho => hρ o (by simp [Op.operands, Call.operands, ho])) w
    simp only [BigFrame.execOp_builtin, BigFrame.builtin_max]
    refine Gives.next ?_
    simpa [Builtin.max_] using h3
  · -- min
    rename_i x xs ts
    obtain ⟨v, h1, h2⟩ := maxs_run (mx := false) (P := P) e
    refine ⟨v, h1, fun μ ρ hρ w h2' ha2 hr => ?_⟩
    have h3 := h2 ρ μ _ (hρ x (by simp [Op.operands, Call.operands])) (fun o ho => hρ o (by simp [Op.operands, Call.operands, ho])) w
    simp only [BigFrame.execOp_builtin, BigFrame.builtin_min]
    refine Gives.next ?_
    simpa [Builtin.min_] using h3
  · -- complex
    rename_i x y ts
    split at e
    · rename_i k a k' b hx hy
      split at e
      · rename_i hk; subst hk
        refine ⟨_, e, fun μ ρ hρ w h2' ha2 hr => ?_⟩
        have h1 := hρ x (by simp [Op.operands, Call.operands])
        have h2 := hρ y (by simp [Op.operands, Call.operands])
        rw [hx] at h1
        rw [hy] at h2
        obtain ⟨x', h3, rfl⟩ := repFl h1
        obtain ⟨y', h4, rfl⟩ := repFl h2
        simp only [BigFrame.execOp_builtin, BigFrame.builtin_complex, List.map_toArray, List.map_cons, List.map_nil]
        rw [h3, h4]
        exact Gives.next (v := .cx k (canon k x') (canon k y')) ⟨_, 0, run_complex w ts o.type k x' y', ⟨x', y', rfl, rfl, rfl⟩⟩
      · cases e
    · cases e
  · -- real
    rename_i x ts
    split at e
    · rename_i k a b hx
      refine ⟨_, e, fun μ ρ hρ w h2' ha2 hr => ?_⟩
      have h1 := hρ x (by simp [Op.operands, Call.operands])
      rw [hx] at h1
      obtain ⟨x', y', h3, rfl, rfl⟩ := repCx h1
      simp only [BigFrame.execOp_builtin, BigFrame.builtin_real, List.map_toArray, List.map_cons, List.map_nil]
      rw [h3]
      exact Gives.next (v := .fl k (canon k x')) ⟨_, 0, run_real w ts o.type k x' y', ⟨x', rfl, rfl⟩⟩
    · cases e
  · -- imag
    rename_i x ts
    split at e
    · rename_i k a b hx
      refine ⟨_, e, fun μ ρ hρ w h2' ha2 hr => ?_⟩
      have h1 := hρ x (by simp [Op.operands, Call.operands])
      rw [hx] at h1
      obtain ⟨x', y', h3, rfl, rfl⟩ := repCx h1
      simp only [BigFrame.execOp_builtin, BigFrame.builtin_imag, List.map_toArray, List.map_cons, List.map_nil]
      rw [h3]
      exact Gives.next (v := .fl k (canon k y')) ⟨_, 0, run_imag w ts o.type k x' y', ⟨y', rfl, rfl⟩⟩
    · cases e
  · cases e

end
end Go.Proofs.Ytlopdogjdfeikaa.Ab

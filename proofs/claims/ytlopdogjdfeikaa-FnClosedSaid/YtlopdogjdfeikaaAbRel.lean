/- What the small machine's values and heap say of the model's; how that is kept when the world goes on. Only lemmas. -/
import Derived.Test.YtlopdogjdfeikaaAbDefs
import Derived.WalkKit
import Derived.WalkLawsBesides
namespace Go.Proofs.Ytlopdogjdfeikaa.Ab
set_option linter.unusedVariables false
set_option linter.unusedSimpArgs false
open Go

/-- Where a block lies: the model's block, the place in it; 'own': the block is the call's own, has 'size' cells, of the type 'el', 'esz' to an element. -/
structure M where
  blk : Nat
  off : Nat
  own : Bool
  size : Nat
  esz : Nat
  el : TypeId

/-- Blocks of the model that nothing writes any more, with their cells; the blocks of the heap. -/
structure Mu where
  z : Nat → Option (Array Value)
  l : List M
abbrev Mu.app (μ : Mu) (ν : List M) : Mu := ⟨μ.z, μ.l ++ ν⟩
def noZ : Nat → Option (Array Value) := fun _ => none
def Zle (z z' : Nat → Option (Array Value)) : Prop := ∀ k c, z k = some c → z' k = some c
theorem Zle.refl (z : Nat → Option (Array Value)) : Zle z z := fun _ _ h => h
theorem Zle.trans {a b c : Nat → Option (Array Value)} (h : Zle a b) (k : Zle b c) : Zle a c := fun i x e => k i x (h i x e)

/-- Digits of 32 bits, the least first: their value. -/
def nv : List Int → Nat
  | [] => 0
  | d :: l => d.toNat + 4294967296 * nv l
def okD (D : List Int) : Prop := ∀ d ∈ D, 0 ≤ d ∧ d < 4294967296
theorem last_tail {d : Int} {D : List Int} (h : (d :: D).getLast? ≠ some 0) : D.getLast? ≠ some 0 := by
  cases D with
  | nil => simp
  | cons x D => rwa [List.getLast?_cons_cons] at h
theorem len_nv : ∀ {D : List Int}, okD D → D.getLast? ≠ some 0 → D.length ≤ nv D
  | [], _, _ => Nat.zero_le _
  | [d], h, hl => by
    have h1 := h d (List.mem_cons_self ..)
    have h2 : d ≠ 0 := fun e => hl (by rw [e]; rfl)
    simp only [nv, List.length_cons, List.length_nil]
    omega
  | d :: x :: D, h, hl => by
    have h1 := len_nv (D := x :: D) (fun y hy => h y (List.mem_cons_of_mem _ hy)) (last_tail hl)
    simp only [nv, List.length_cons] at h1 ⊢
    omega
theorem ndigF_len : ∀ {D : List Int} (k : Nat), okD D → D.getLast? ≠ some 0 → D.length ≤ k → ndigF k (nv D) = D.length
  | [], 0, _, _, _ => rfl
  | [], k + 1, _, _, _ => rfl
  | d :: D, 0, _, _, hk => by simp at hk
  | d :: D, k + 1, h, hl, hk => by
    have h1 := ndigF_len k (fun y hy => h y (List.mem_cons_of_mem _ hy)) (last_tail hl) (by simpa using hk)
    have h2 := len_nv h hl
    have h3 := h d (List.mem_cons_self ..)
    simp only [List.length_cons] at h2 ⊢
    unfold ndigF
    rw [if_neg (by omega)]
    simp only [nv]
    rw [show (d.toNat + 4294967296 * nv D) / 4294967296 = nv D by omega, h1]
theorem ndig_len {D : List Int} (h : okD D) (hl : D.getLast? ≠ some 0) : ndig (nv D) = D.length := ndigF_len _ h hl (len_nv h hl)
/-- A slice of whole numbers that nothing writes any more, or nil. -/
def SlZ (z : Nat → Option (Array Value)) (D : List Int) (cv : Value) : Prop :=
  (D = [] ∧ cv = .slice none 0 0) ∨ ∃ b off c, cv = .slice (some ⟨b, off, none⟩) D.length c ∧ D.length ≤ c ∧ c ≤ maxLen ∧
    (D = [] ∨ ∃ cur, z b = some cur ∧ ∀ j d, D[j]? = some d → cur[off + j]? = some (.int .u32 d))
theorem SlZ.mono {z z' : Nat → Option (Array Value)} (h : Zle z z') {D : List Int} {cv : Value} (r : SlZ z D cv) : SlZ z' D cv := by
  rcases r with r | ⟨b, off, c, h1, h2, h3, h4⟩
  · exact .inl r
  · exact .inr ⟨b, off, c, h1, h2, h3, h4.imp id fun ⟨cur, h5, h6⟩ => ⟨cur, h b cur h5, h6⟩⟩

def RepA (μ : Mu) : A → Value → Prop
  | .bool b, cv => cv = .bool b
  | .int k n, cv => cv = .int k n
  | .fl k b, cv => ∃ b', cv = .float k b' ∧ canon k b' = b
  | .cx k x y, cv => ∃ x' y', cv = .complex k x' y' ∧ canon k x' = x ∧ canon k y' = y
  | .ptr i o, cv => ∃ m, μ.l[i]? = some m ∧ cv = .pointer (some ⟨m.blk, m.off + o, none⟩)
  | .sl i o n, cv => ∃ m ad c, μ.l[i]? = some m ∧ cv = .slice (some ad) n c ∧ n ≤ c ∧ c ≤ maxLen ∧
      (0 < n ∨ o = 0 → ad = ⟨m.blk, m.off + o, none⟩) ∧ (o = 0 → m.own = true → c * m.esz = m.size)
  | .ro i n, cv => ∃ m, μ.l[i]? = some m ∧ ((∃ c, cv = .slice (some ⟨m.blk, m.off, none⟩) n c ∧ n ≤ c ∧ c ≤ maxLen) ∨ (n = 0 ∧ cv = .slice none 0 0))
  | .nil, cv => cv = .slice none 0 0
  | .sl0, cv => ∃ ad, cv = .slice (some ad) 0 0
  | .fn f, cv => cv = .func (.func f) #[] #[]
  | .dig v, cv => ∃ D, okD D ∧ nv D = v ∧ SlZ μ.z D cv
  | .big v, cv => ∃ D, okD D ∧ nv D = v ∧ D.getLast? ≠ some 0 ∧ SlZ μ.z D cv
  | .mp i, cv => ∃ m, μ.l[i]? = some m ∧ cv = .map (some m.blk)

def RepAs (μ : Mu) : List A → List Value → Prop
  | [], [] => True
  | x :: l, v :: m => RepA μ x v ∧ RepAs μ l m
  | _, _ => False
def RepU (μ : Mu) : U → Value → Prop
  | .a x, cv => RepA μ x cv
  | .g l, cv => ∃ cs, cv = .agg ⟨cs⟩ ∧ RepAs μ l cs
def RepUs (μ : Mu) : List U → List Value → Prop
  | [], [] => True
  | x :: l, v :: m => RepU μ x v ∧ RepUs μ l m
  | _, _ => False
def RepV (μ : Mu) : V → Value → Prop
  | .any, _ => True
  | .u x, cv => RepU μ x cv
  | .tup l, cv => ∃ cs, cv = .tuple ⟨cs⟩ ∧ RepUs μ l cs
def RepVs (μ : Mu) : List V → List Value → Prop
  | [], [] => True
  | x :: l, v :: m => RepV μ x v ∧ RepVs μ l m
  | _, _ => False

theorem RepV.no (μ : Mu) : RepV μ V.no undef := ⟨[], rfl, trivial⟩

/-! ### More blocks -/
def Pre (μ μ' : Mu) : Prop := Zle μ.z μ'.z ∧ ∃ ν, μ'.l = μ.l ++ ν
theorem Pre.refl (μ : Mu) : Pre μ μ := ⟨.refl _, [], by simp⟩
theorem Pre.app (μ : Mu) (ν : List M) : Pre μ (μ.app ν) := ⟨.refl _, ν, rfl⟩
theorem Pre.trans {a b c : Mu} (h : Pre a b) (k : Pre b c) : Pre a c := by
  obtain ⟨z1, x, hx⟩ := h; obtain ⟨z2, y, hy⟩ := k; exact ⟨z1.trans z2, x ++ y, by rw [hy, hx, List.append_assoc]⟩
theorem Pre.get {a b : Mu} (h : Pre a b) {i : Nat} {m : M} (e : a.l[i]? = some m) : b.l[i]? = some m := by
  obtain ⟨_, x, hx⟩ := h
  rw [hx, List.getElem?_append_left (by have := List.getElem?_eq_some_iff.1 e; exact this.1)]; exact e

/-- A map of block numbers that keeps what they stand for. -/
def Tells (f : Nat → Nat) (μ μ' : Mu) : Prop := Zle μ.z μ'.z ∧ ∀ i m, μ.l[i]? = some m → μ'.l[f i]? = some m
theorem Tells.of_pre {μ μ' : Mu} (h : Pre μ μ') : Tells id μ μ' := ⟨h.1, fun _ _ e => h.get e⟩

theorem RepA.up {f : Nat → Nat} {μ μ' : Mu} (h : Tells f μ μ') {x : A} {cv : Value} (r : RepA μ x cv) : RepA μ' (x.up f) cv := by
  cases x with
  | ptr i o => obtain ⟨m, e, rfl⟩ := r; exact ⟨m, h.2 _ _ e, rfl⟩
  | sl i o n => obtain ⟨m, ad, c, e, rest⟩ := r; exact ⟨m, ad, c, h.2 _ _ e, rest⟩
  | ro i n => obtain ⟨m, e, rest⟩ := r; exact ⟨m, h.2 _ _ e, rest⟩
  | dig v => obtain ⟨D, h1, h2, h3⟩ := r; exact ⟨D, h1, h2, h3.mono h.1⟩
  | big v => obtain ⟨D, h1, h2, h4, h3⟩ := r; exact ⟨D, h1, h2, h4, h3.mono h.1⟩
  | mp i => obtain ⟨m, e, rfl⟩ := r; exact ⟨m, h.2 _ _ e, rfl⟩
  | _ => exact r
theorem RepAs.up {f : Nat → Nat} {μ μ' : Mu} (h : Tells f μ μ') : ∀ {l : List A} {cs : List Value}, RepAs μ l cs → RepAs μ' (l.map (A.up f)) cs
  | [], [], _ => trivial
  | _ :: _, _ :: _, ⟨a, b⟩ => ⟨a.up h, RepAs.up h b⟩
theorem RepU.up {f : Nat → Nat} {μ μ' : Mu} (h : Tells f μ μ') {x : U} {cv : Value} (r : RepU μ x cv) : RepU μ' (x.up f) cv := by
  cases x with
  | a x => exact RepA.up h r
  | g l => obtain ⟨cs, rfl, r⟩ := r; exact ⟨cs, rfl, r.up h⟩
theorem RepUs.up {f : Nat → Nat} {μ μ' : Mu} (h : Tells f μ μ') : ∀ {l : List U} {cs : List Value}, RepUs μ l cs → RepUs μ' (l.map (U.up f)) cs
  | [], [], _ => trivial
  | _ :: _, _ :: _, ⟨a, b⟩ => ⟨a.up h, RepUs.up h b⟩
theorem RepV.up {f : Nat → Nat} {μ μ' : Mu} (h : Tells f μ μ') {x : V} {cv : Value} (r : RepV μ x cv) : RepV μ' (x.up f) cv := by
  cases x with
  | any => trivial
  | u x => exact RepU.up h r
  | tup l => obtain ⟨cs, rfl, r⟩ := r; exact ⟨cs, rfl, r.up h⟩

theorem A.up_id (x : A) : x.up id = x := by cases x <;> rfl
theorem mapA_id (l : List A) : l.map (A.up id) = l := by induction l with | nil => rfl | cons x l ih => simp [A.up_id, ih]
theorem U.up_id (x : U) : x.up id = x := by cases x <;> simp [U.up, A.up_id, mapA_id]
theorem mapU_id (l : List U) : l.map (U.up id) = l := by induction l with | nil => rfl | cons x l ih => simp [U.up_id, ih]
theorem V.up_id (x : V) : x.up id = x := by cases x <;> simp [V.up, U.up_id, mapU_id]

theorem RepA.pre {μ μ' : Mu} (h : Pre μ μ') {x : A} {cv : Value} (r : RepA μ x cv) : RepA μ' x cv := by have := r.up (.of_pre h); rwa [A.up_id] at this
theorem RepV.pre {μ μ' : Mu} (h : Pre μ μ') {x : V} {cv : Value} (r : RepV μ x cv) : RepV μ' x cv := by have := r.up (.of_pre h); rwa [V.up_id] at this

/-! ### Some of the blocks, numbered anew -/
def pickM (μ : Mu) (ids : List Nat) : List M := ids.filterMap (μ.l[·]?)

/-- The block numbered 'j' there is the one numbered 'ids[j]' here. -/
def Sub (ids : List Nat) (μ μ' : Mu) : Prop := Zle μ.z μ'.z ∧ ∀ (j i : Nat) (m : M), ids[j]? = some i → μ.l[i]? = some m → μ'.l[j]? = some m

theorem RepA.ren {ids : List Nat} {μ μ' : Mu} (h : Sub ids μ μ') {x y : A} {cv : Value} (e : x.ren ids = some y) (r : RepA μ x cv) : RepA μ' y cv := by
  have key : ∀ i j, ids.idxOf? i = some j → ids[j]? = some i := by
    intro i j hj
    have h1 := List.idxOf?_eq_some_iff.1 hj
    obtain ⟨h2, h3, _⟩ := h1
    rw [List.getElem?_eq_some_iff]; exact ⟨h2, by simpa using h3⟩
  cases x with
  | ptr i o =>
    simp only [A.ren, Option.map_eq_some_iff] at e
    obtain ⟨j, hj, rfl⟩ := e
    obtain ⟨m, hm, rfl⟩ := r
    exact ⟨m, h.2 j i m (key _ _ hj) hm, rfl⟩
  | sl i o n =>
    simp only [A.ren, Option.map_eq_some_iff] at e
    obtain ⟨j, hj, rfl⟩ := e
    obtain ⟨m, ad, c, hm, rest⟩ := r
    exact ⟨m, ad, c, h.2 j i m (key _ _ hj) hm, rest⟩
  | ro i n =>
    simp only [A.ren, Option.map_eq_some_iff] at e
    obtain ⟨j, hj, rfl⟩ := e
    obtain ⟨m, hm, rest⟩ := r
    exact ⟨m, h.2 j i m (key _ _ hj) hm, rest⟩
  | dig v => cases e; obtain ⟨D, h1, h2, h3⟩ := r; exact ⟨D, h1, h2, h3.mono h.1⟩
  | big v => cases e; obtain ⟨D, h1, h2, h4, h3⟩ := r; exact ⟨D, h1, h2, h4, h3.mono h.1⟩
  | mp i =>
    simp only [A.ren, Option.map_eq_some_iff] at e
    obtain ⟨j, hj, rfl⟩ := e
    obtain ⟨m, hm, rfl⟩ := r
    exact ⟨m, h.2 j i m (key _ _ hj) hm, rfl⟩
  | _ => simp only [A.ren, Option.some.injEq] at e; subst e; exact r
theorem optMap_cons {α β : Type} {f : α → Option β} {x : α} {l : List α} {r : List β} (h : optMap f (x :: l) = some r) : ∃ y m, f x = some y ∧ optMap f l = some m ∧ r = y :: m := by
  simp only [optMap] at h
  split at h
  · split at h
    · cases h; exact ⟨_, _, ‹_›, ‹_›, rfl⟩
    · cases h
  · cases h
theorem RepAs.ren {ids : List Nat} {μ μ' : Mu} (h : Sub ids μ μ') : ∀ {l m : List A} {cs : List Value}, optMap (A.ren ids) l = some m → RepAs μ l cs → RepAs μ' m cs
  | [], m, [], e, _ => by cases e; trivial
  | x :: l, m, c :: cs, e, ⟨a, b⟩ => by
    obtain ⟨y, m', e1, e2, rfl⟩ := optMap_cons e
    exact ⟨a.ren h e1, RepAs.ren h e2 b⟩
theorem RepU.ren {ids : List Nat} {μ μ' : Mu} (h : Sub ids μ μ') {x y : U} {cv : Value} (e : x.ren ids = some y) (r : RepU μ x cv) : RepU μ' y cv := by
  cases x with
  | a x => simp only [U.ren, Option.map_eq_some_iff] at e; obtain ⟨z, hz, rfl⟩ := e; exact RepA.ren h hz r
  | g l => simp only [U.ren, Option.map_eq_some_iff] at e; obtain ⟨z, hz, rfl⟩ := e; obtain ⟨cs, rfl, r⟩ := r; exact ⟨cs, rfl, r.ren h hz⟩
theorem RepUs.ren {ids : List Nat} {μ μ' : Mu} (h : Sub ids μ μ') : ∀ {l m : List U} {cs : List Value}, optMap (U.ren ids) l = some m → RepUs μ l cs → RepUs μ' m cs
  | [], m, [], e, _ => by cases e; trivial
  | x :: l, m, c :: cs, e, ⟨a, b⟩ => by
    obtain ⟨y, m', e1, e2, rfl⟩ := optMap_cons e
    exact ⟨a.ren h e1, RepUs.ren h e2 b⟩
theorem RepV.ren {ids : List Nat} {μ μ' : Mu} (h : Sub ids μ μ') {x y : V} {cv : Value} (e : x.ren ids = some y) (r : RepV μ x cv) : RepV μ' y cv := by
  cases x with
  | any => cases e; trivial
  | u x => simp only [V.ren, Option.map_eq_some_iff] at e; obtain ⟨z, hz, rfl⟩ := e; exact RepU.ren h hz r
  | tup l => simp only [V.ren, Option.map_eq_some_iff] at e; obtain ⟨z, hz, rfl⟩ := e; obtain ⟨cs, rfl, r⟩ := r; exact ⟨cs, rfl, r.ren h hz⟩
theorem RepVs.ren {ids : List Nat} {μ μ' : Mu} (h : Sub ids μ μ') : ∀ {l m : List V} {cs : List Value}, optMap (V.ren ids) l = some m → RepVs μ l cs → RepVs μ' m cs
  | [], m, [], e, _ => by cases e; trivial
  | x :: l, m, c :: cs, e, ⟨a, b⟩ => by
    obtain ⟨y, m', e1, e2, rfl⟩ := optMap_cons e
    exact ⟨a.ren h e1, RepVs.ren h e2 b⟩

/-! ### The heap -/
def C.get? (c : C) (j : Nat) : Option A := c.getK j some

/-- Something is known of the block. -/
def C.live (rw : Bool) (c : C) : Prop := rw = true ∨ ∃ p x, c.get? p = some x

structure Rel (μ : Mu) (h : H) (w : World) : Prop where
  len : μ.l.length = h.length
  cell : ∀ (i : Nat) (m : M) (rw : Bool) (c : C), μ.l[i]? = some m → h[i]? = some (.at rw c) → ∀ (j : Nat) (x : A), c.get? j = some x → ∃ cv, w.cell? ⟨m.blk, m.off + j, none⟩ = some cv ∧ RepA μ x cv
  own : ∀ (i : Nat) (m : M) (c : C), μ.l[i]? = some m → h[i]? = some (.at true c) → m.own = true ∧ m.off = 0 ∧ m.esz = c.esz ∧ ∃ cur, w.heap[m.blk]? = some (.cells cur m.el (0, 0)) ∧ cur.size = m.size
  lt : ∀ (i : Nat) (m : M) (rw : Bool) (c : C), μ.l[i]? = some m → h[i]? = some (.at rw c) → c.live rw → m.blk < w.heap.size
  sep : ∀ (i j : Nat) (m n : M) (c : C) (rw : Bool) (d : C), i ≠ j → μ.l[i]? = some m → μ.l[j]? = some n → h[i]? = some (.at true c) → h[j]? = some (.at rw d) → d.live rw → m.blk ≠ n.blk
  fz : ∀ (k : Nat) (cur : Array Value), μ.z k = some cur → (∃ el, w.heap[k]? = some (.cells cur el (0, 0))) ∧ ∀ (i : Nat) (m : M) (c : C), μ.l[i]? = some m → h[i]? = some (.at true c) → m.blk ≠ k

/-- The model's blocks that may be written. -/
def Wr (μ : Mu) (h : H) (k : Nat) : Prop := ∃ (i : Nat) (m : M) (c : C), μ.l[i]? = some m ∧ h[i]? = some (.at true c) ∧ m.blk = k

/-- The world has gone on: all that lay there and is not of 'S' lies as it lay. -/
structure Fr (S : Nat → Prop) (w w' : World) : Prop where
  os : w'.os = w.os
  tape : w'.tape = w.tape
  output : w'.output = w.output
  size : w.heap.size ≤ w'.heap.size
  block : ∀ k, k < w.heap.size → ¬ S k → w'.heap[k]? = w.heap[k]?
theorem Fr.refl (S : Nat → Prop) (w : World) : Fr S w w := ⟨rfl, rfl, rfl, Nat.le_refl _, fun _ _ _ => rfl⟩
theorem Fr.trans {S T : Nat → Prop} {a b c : World} (h : Fr S a b) (k : Fr T b c) (hT : ∀ i, T i → S i ∨ a.heap.size ≤ i) : Fr S a c :=
  ⟨k.os.trans h.os, k.tape.trans h.tape, k.output.trans h.output, Nat.le_trans h.size k.size, fun i hi hn =>
    (k.block i (Nat.lt_of_lt_of_le hi h.size) (fun ht => (hT i ht).elim hn (fun h => absurd hi (Nat.not_lt.2 h)))).trans (h.block i hi hn)⟩
theorem Fr.mono {S T : Nat → Prop} {a b : World} (h : Fr S a b) (hS : ∀ i, S i → T i) : Fr T a b :=
  ⟨h.os, h.tape, h.output, h.size, fun i hi hn => h.block i hi (fun hs => hn (hS i hs))⟩
theorem Fr.drewN (S : Nat → Prop) (w : World) (n : Nat) : Fr S w (w.drewN n) := ⟨rfl, rfl, rfl, Nat.le_refl _, fun _ _ _ => rfl⟩
theorem Fr.alloc (S : Nat → Prop) (w : World) (o : Obj) : Fr S w (w.alloc o) :=
  ⟨rfl, rfl, rfl, by show w.heap.size ≤ (w.heap.push o).size; simp, fun k hk _ => by show (w.heap.push o)[k]? = _; rw [Array.getElem?_push]; simp [Nat.ne_of_lt hk]⟩

theorem cell_of_block {w w' : World} {a : Addr} (h : w'.heap[a.block]? = w.heap[a.block]?) : w'.cell? a = w.cell? a := World.cell?_of_block h

theorem Rel.drewN {μ : Mu} {h : H} {w : World} (r : Rel μ h w) (n : Nat) : Rel μ h (w.drewN n) := ⟨r.len, r.cell, r.own, r.lt, r.sep, r.fz⟩

theorem getElem?_lt {α : Type} {l : List α} {i : Nat} {x : α} (h : l[i]? = some x) : i < l.length := (List.getElem?_eq_some_iff.1 h).1

theorem heap_lt {w : World} {k : Nat} {o : Obj} (h : w.heap[k]? = some o) : k < w.heap.size := by
  by_cases hk : k < w.heap.size
  · exact hk
  · rw [Array.getElem?_eq_none (by omega)] at h
    cases h

/-- The world goes on, and no block of the heap is touched. -/
theorem Rel.fr {μ : Mu} {h : H} {w w' : World} (r : Rel μ h w) {S : Nat → Prop} (f : Fr S w w')
    (hS : ∀ (i : Nat) (m : M) (rw : Bool) (c : C), μ.l[i]? = some m → h[i]? = some (.at rw c) → ¬ S m.blk) (hZ : ∀ (k : Nat) (cur : Array Value), μ.z k = some cur → ¬ S k) : Rel μ h w' where
  len := r.len
  cell i m rw c hm hb j x hx := by
    obtain ⟨cv, h1, h2⟩ := r.cell i m rw c hm hb j x hx
    exact ⟨cv, (cell_of_block (f.block m.blk (r.lt i m rw c hm hb (.inr ⟨j, x, hx⟩)) (hS i m rw c hm hb))).trans h1, h2⟩
  own i m c hm hb := by
    obtain ⟨h1, h2, h5, cur, h3, h4⟩ := r.own i m c hm hb
    exact ⟨h1, h2, h5, cur, (f.block m.blk (r.lt i m _ c hm hb (.inl rfl)) (hS i m _ c hm hb)).trans h3, h4⟩
  lt i m rw c hm hb hl := Nat.lt_of_lt_of_le (r.lt i m rw c hm hb hl) f.size
  sep := r.sep
  fz k cur hk := by
    obtain ⟨⟨el, h1⟩, h2⟩ := r.fz k cur hk
    exact ⟨⟨el, (f.block k (heap_lt h1) (hZ k cur hk)).trans h1⟩, h2⟩

/-- One block more. -/
theorem Rel.new {μ : Mu} {h : H} {w : World} (r : Rel μ h w) (c : C) (m : M) (cur : Array Value)
    (hm : m = ⟨w.heap.size, 0, true, cur.size, c.esz, m.el⟩)
    (hc : ∀ j x, c.get? j = some x → ∃ cv, cur[j]? = some cv ∧ RepA (μ.app [m]) x cv) :
    Rel (μ.app [m]) (h ++ [.at true c]) (w.alloc (.cells cur m.el)) := by
  have hlen := r.len
  have hsz : (w.alloc (.cells cur m.el)).heap.size = w.heap.size + 1 := by show (w.heap.push _).size = _; simp
  have hnew : (w.alloc (.cells cur m.el)).heap[w.heap.size]? = some (.cells cur m.el (0, 0)) := by show (w.heap.push _)[w.heap.size]? = _; simp
  have split : ∀ (i : Nat) (m' : M) (b : B), (μ.l ++ [m])[i]? = some m' → (h ++ [.at true c])[i]? = some b →
      (μ.l[i]? = some m' ∧ h[i]? = some b) ∨ (i = μ.l.length ∧ m' = m ∧ b = .at true c) := by
    intro i m' b h1 h2
    by_cases hi : i < μ.l.length
    · rw [List.getElem?_append_left hi] at h1
      rw [List.getElem?_append_left (by omega)] at h2
      exact .inl ⟨h1, h2⟩
    · have hlt := getElem?_lt h1
      simp at hlt
      have hi' : i = μ.l.length := by omega
      subst hi'
      simp at h1
      rw [hlen] at h2
      simp at h2
      exact .inr ⟨rfl, h1.symm, h2.symm⟩
  have eb : m.blk = w.heap.size := by rw [hm]
  have eo : m.off = 0 := by rw [hm]
  have es : m.size = cur.size := by rw [hm]
  have ew : m.own = true := by rw [hm]
  have ee : m.esz = c.esz := by rw [hm]
  clear hm
  refine ⟨by simp [hlen], ?_, ?_, ?_, ?_, ?_⟩
  · intro i m' rw c' h1 h2 j x hx
    rcases split i m' _ h1 h2 with ⟨h1, h2⟩ | ⟨_, e, h2⟩
    · obtain ⟨cv, h3, h4⟩ := r.cell i m' rw c' h1 h2 j x hx
      exact ⟨cv, (cell_of_block ((Fr.alloc (fun _ => False) w _).block m'.blk (r.lt i m' rw c' h1 h2 (.inr ⟨j, x, hx⟩)) id)).trans h3, h4.pre (.app μ _)⟩
    · cases h2
      obtain ⟨cv, h3, h4⟩ := hc j x hx
      refine ⟨cv, ?_, h4⟩
      rw [e, eb, eo]
      simp only [World.cell?, Nat.zero_add]
      rw [hnew]
      simpa using h3
  · intro i m' c' h1 h2
    rcases split i m' _ h1 h2 with ⟨h1, h2⟩ | ⟨_, e, h2⟩
    · obtain ⟨h3, h4, h7, cur', h5, h6⟩ := r.own i m' c' h1 h2
      exact ⟨h3, h4, h7, cur', ((Fr.alloc (fun _ => False) w _).block m'.blk (r.lt i m' _ c' h1 h2 (.inl rfl)) id).trans h5, h6⟩
    · rw [e]
      cases h2
      exact ⟨ew, eo, ee, cur, by rw [eb]; exact hnew, es.symm⟩
  · intro i m' rw c' h1 h2 hl
    rcases split i m' _ h1 h2 with ⟨h1, h2⟩ | ⟨_, e, h2⟩
    · have := r.lt i m' rw c' h1 h2 hl; omega
    · rw [e]; omega
  · intro i j m' n c' rw d hij h1 h2 h3 h4 hl
    rcases split i m' _ h1 h3 with ⟨h1, h3⟩ | ⟨e1, e1', h3⟩
    · rcases split j n _ h2 h4 with ⟨h2, h4⟩ | ⟨e2, e2', h4⟩
      · exact r.sep i j m' n c' rw d hij h1 h2 h3 h4 hl
      · have := r.lt i m' _ c' h1 h3 (.inl rfl)
        rw [e2']; omega
    · rcases split j n _ h2 h4 with ⟨h2, h4⟩ | ⟨e2, e2', h4⟩
      · have := r.lt j n _ d h2 h4 hl
        rw [e1']; omega
      · omega
  · intro k cur' hk
    obtain ⟨⟨el, h1⟩, h2⟩ := r.fz k cur' hk
    have hlt := heap_lt h1
    refine ⟨⟨el, ((Fr.alloc (fun _ => False) w _).block k hlt id).trans h1⟩, fun i m' c' h3 h4 => ?_⟩
    rcases split i m' _ h3 h4 with ⟨h3, h4⟩ | ⟨_, e, _⟩
    · exact h2 i m' c' h3 h4
    · rw [e, eb]; omega

end Go.Proofs.Ytlopdogjdfeikaa.Ab

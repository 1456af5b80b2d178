/- What the proof names: lemmas and words, merged by a program from its parts. No condition. -/
import Derived.Test.YtpeplbbphpamhaaZ1
import Derived.WalkKit
import Derived.WalkLawsBesides
namespace Go.Proofs.Ytpeplbbphpamhaa.Ab
set_option linter.unusedVariables false
set_option linter.unusedSimpArgs false
open Go
structure M where
  blk : Nat
  off : Nat
  own : Bool
  size : Nat
  esz : Nat
  el : TypeId
structure Mu where
  z : Nat → Option (Array Value)
  l : List M
abbrev Mu.app (μ : Mu) (ν : List M) : Mu := ⟨μ.z, μ.l ++ ν⟩
def noZ : Nat → Option (Array Value) := fun _ => none
def Zle (z z' : Nat → Option (Array Value)) : Prop := ∀ k c, z k = some c → z' k = some c
theorem Zle.refl (z : Nat → Option (Array Value)) : Zle z z := fun _ _ h => h
theorem Zle.trans {a b c : Nat → Option (Array Value)} (h : Zle a b) (k : Zle b c) : Zle a c := fun i x e => k i x (h i x e)
def nv : List Int → Nat
  | [] => 0
  | d :: l => d.toNat + 4294967296 * nv l
def okD (D : List Int) : Prop := ∀ d ∈ D, 0 ≤ d ∧ d < 4294967296
theorem last_tail {d : Int} {D : List Int} (h : (d :: D).getLast? ≠ some 0) : D.getLast? ≠ some 0 := by
  cases D with
  | nil => simp
  | cons x D => rwa [List.getLast?_cons_cons] at h
theorem len_nv : ∀ {D : List Int}, okD D → D.getLast? ≠ some 0 → D.length ≤ nv D
  | [], _, _ => Nat.zero_le _
  | [d], h, hl => by
    have h1 := h d (List.mem_cons_self ..)
    have h2 : d ≠ 0 := fun e => hl (by rw [e]; rfl)
    simp only [nv, List.length_cons, List.length_nil]
    omega
  | d :: x :: D, h, hl => by
    have h1 := len_nv (D := x :: D) (fun y hy => h y (List.mem_cons_of_mem _ hy)) (last_tail hl)
    simp only [nv, List.length_cons] at h1 ⊢
    omega
theorem ndigF_len : ∀ {D : List Int} (k : Nat), okD D → D.getLast? ≠ some 0 → D.length ≤ k → ndigF k (nv D) = D.length
  | [], 0, _, _, _ => rfl
  | [], k + 1, _, _, _ => rfl
  | d :: D, 0, _, _, hk => by simp at hk
  | d :: D, k + 1, h, hl, hk => by
    have h1 := ndigF_len k (fun y hy => h y (List.mem_cons_of_mem _ hy)) (last_tail hl) (by simpa using hk)
    have h2 := len_nv h hl
    have h3 := h d (List.mem_cons_self ..)
    simp only [List.length_cons] at h2 ⊢
    unfold ndigF
    rw [if_neg (by omega)]
    simp only [nv]
    rw [show (d.toNat + 4294967296 * nv D) / 4294967296 = nv D by omega, h1]
theorem ndig_len {D : List Int} (h : okD D) (hl : D.getLast? ≠ some 0) : ndig (nv D) = D.length := ndigF_len _ h hl (len_nv h hl)
def SlZ (z : Nat → Option (Array Value)) (D : List Int) (cv : Value) : Prop :=
  (D = [] ∧ cv = .slice none 0 0) ∨ ∃ b off c, cv = .slice (some ⟨b, off, none⟩) D.length c ∧ D.length ≤ c ∧ c ≤ maxLen ∧
    (D = [] ∨ ∃ cur, z b = some cur ∧ ∀ j d, D[j]? = some d → cur[off + j]? = some (.int .u32 d))
theorem SlZ.mono {z z' : Nat → Option (Array Value)} (h : Zle z z') {D : List Int} {cv : Value} (r : SlZ z D cv) : SlZ z' D cv := by
  rcases r with r | ⟨b, off, c, h1, h2, h3, h4⟩
  · exact .inl r
  · exact .inr ⟨b, off, c, h1, h2, h3, h4.imp id fun ⟨cur, h5, h6⟩ => ⟨cur, h b cur h5, h6⟩⟩
def RepA (μ : Mu) : A → Value → Prop
  | .bool b, cv => cv = .bool b
  | .int k n, cv => cv = .int k n
  | .fl k b, cv => ∃ b', cv = .float k b' ∧ canon k b' = b
  | .cx k x y, cv => ∃ x' y', cv = .complex k x' y' ∧ canon k x' = x ∧ canon k y' = y
  | .ptr i o, cv => ∃ m, μ.l[i]? = some m ∧ cv = .pointer (some ⟨m.blk, m.off + o, none⟩)
  | .sl i o n, cv => ∃ m ad c, μ.l[i]? = some m ∧ cv = .slice (some ad) n c ∧ n ≤ c ∧ c ≤ maxLen ∧
      (0 < n ∨ o = 0 → ad = ⟨m.blk, m.off + o, none⟩) ∧ (o = 0 → m.own = true → c * m.esz = m.size)
  | .ro i n, cv => ∃ m, μ.l[i]? = some m ∧ ((∃ c, cv = .slice (some ⟨m.blk, m.off, none⟩) n c ∧ n ≤ c ∧ c ≤ maxLen) ∨ (n = 0 ∧ cv = .slice none 0 0))
  | .nil, cv => cv = .slice none 0 0
  | .sl0, cv => ∃ ad, cv = .slice (some ad) 0 0
  | .fn f, cv => cv = .func (.func f) #[] #[]
  | .dig v, cv => ∃ D, okD D ∧ nv D = v ∧ SlZ μ.z D cv
  | .big v, cv => ∃ D, okD D ∧ nv D = v ∧ D.getLast? ≠ some 0 ∧ SlZ μ.z D cv
  | .mp i, cv => ∃ m, μ.l[i]? = some m ∧ cv = .map (some m.blk)
def RepAs (μ : Mu) : List A → List Value → Prop
  | [], [] => True
  | x :: l, v :: m => RepA μ x v ∧ RepAs μ l m
  | _, _ => False
def RepU (μ : Mu) : U → Value → Prop
  | .a x, cv => RepA μ x cv
  | .g l, cv => ∃ cs, cv = .agg ⟨cs⟩ ∧ RepAs μ l cs
def RepUs (μ : Mu) : List U → List Value → Prop
  | [], [] => True
  | x :: l, v :: m => RepU μ x v ∧ RepUs μ l m
  | _, _ => False
def RepV (μ : Mu) : V → Value → Prop
  | .any, _ => True
  | .u x, cv => RepU μ x cv
  | .tup l, cv => ∃ cs, cv = .tuple ⟨cs⟩ ∧ RepUs μ l cs
def RepVs (μ : Mu) : List V → List Value → Prop
  | [], [] => True
  | x :: l, v :: m => RepV μ x v ∧ RepVs μ l m
  | _, _ => False
theorem RepV.no (μ : Mu) : RepV μ V.no undef := ⟨[], rfl, trivial⟩
def Pre (μ μ' : Mu) : Prop := Zle μ.z μ'.z ∧ ∃ ν, μ'.l = μ.l ++ ν
theorem Pre.refl (μ : Mu) : Pre μ μ := ⟨.refl _, [], by simp⟩
theorem Pre.app (μ : Mu) (ν : List M) : Pre μ (μ.app ν) := ⟨.refl _, ν, rfl⟩
theorem Pre.trans {a b c : Mu} (h : Pre a b) (k : Pre b c) : Pre a c := by
  obtain ⟨z1, x, hx⟩ := h; obtain ⟨z2, y, hy⟩ := k; exact ⟨z1.trans z2, x ++ y, by rw [hy, hx, List.append_assoc]⟩
theorem Pre.get {a b : Mu} (h : Pre a b) {i : Nat} {m : M} (e : a.l[i]? = some m) : b.l[i]? = some m := by
  obtain ⟨_, x, hx⟩ := h
  rw [hx, List.getElem?_append_left (by have := List.getElem?_eq_some_iff.1 e; exact this.1)]; exact e
def Tells (f : Nat → Nat) (μ μ' : Mu) : Prop := Zle μ.z μ'.z ∧ ∀ i m, μ.l[i]? = some m → μ'.l[f i]? = some m
theorem Tells.of_pre {μ μ' : Mu} (h : Pre μ μ') : Tells id μ μ' := ⟨h.1, fun _ _ e => h.get e⟩
theorem RepA.up {f : Nat → Nat} {μ μ' : Mu} (h : Tells f μ μ') {x : A} {cv : Value} (r : RepA μ x cv) : RepA μ' (x.up f) cv := by
  cases x with
  | ptr i o => obtain ⟨m, e, rfl⟩ := r; exact ⟨m, h.2 _ _ e, rfl⟩
  | sl i o n => obtain ⟨m, ad, c, e, rest⟩ := r; exact ⟨m, ad, c, h.2 _ _ e, rest⟩
  | ro i n => obtain ⟨m, e, rest⟩ := r; exact ⟨m, h.2 _ _ e, rest⟩
  | dig v => obtain ⟨D, h1, h2, h3⟩ := r; exact ⟨D, h1, h2, h3.mono h.1⟩
  | big v => obtain ⟨D, h1, h2, h4, h3⟩ := r; exact ⟨D, h1, h2, h4, h3.mono h.1⟩
  | mp i => obtain ⟨m, e, rfl⟩ := r; exact ⟨m, h.2 _ _ e, rfl⟩
  | _ => exact r
theorem RepAs.up {f : Nat → Nat} {μ μ' : Mu} (h : Tells f μ μ') : ∀ {l : List A} {cs : List Value}, RepAs μ l cs → RepAs μ' (l.map (A.up f)) cs
  | [], [], _ => trivial
  | _ :: _, _ :: _, ⟨a, b⟩ => ⟨a.up h, RepAs.up h b⟩
theorem RepU.up {f : Nat → Nat} {μ μ' : Mu} (h : Tells f μ μ') {x : U} {cv : Value} (r : RepU μ x cv) : RepU μ' (x.up f) cv := by
  cases x with
  | a x => exact RepA.up h r
  | g l => obtain ⟨cs, rfl, r⟩ := r; exact ⟨cs, rfl, r.up h⟩
theorem RepUs.up {f : Nat → Nat} {μ μ' : Mu} (h : Tells f μ μ') : ∀ {l : List U} {cs : List Value}, RepUs μ l cs → RepUs μ' (l.map (U.up f)) cs
  | [], [], _ => trivial
  | _ :: _, _ :: _, ⟨a, b⟩ => ⟨a.up h, RepUs.up h b⟩
theorem RepV.up {f : Nat → Nat} {μ μ' : Mu} (h : Tells f μ μ') {x : V} {cv : Value} (r : RepV μ x cv) : RepV μ' (x.up f) cv := by
  cases x with
  | any => trivial
  | u x => exact RepU.up h r
  | tup l => obtain ⟨cs, rfl, r⟩ := r; exact ⟨cs, rfl, r.up h⟩
theorem A.up_id (x : A) : x.up id = x := by cases x <;> rfl
theorem mapA_id (l : List A) : l.map (A.up id) = l := by induction l with | nil => rfl | cons x l ih => simp [A.up_id, ih]
theorem U.up_id (x : U) : x.up id = x := by cases x <;> simp [U.up, A.up_id, mapA_id]
theorem mapU_id (l : List U) : l.map (U.up id) = l := by induction l with | nil => rfl | cons x l ih => simp [U.up_id, ih]
theorem V.up_id (x : V) : x.up id = x := by cases x <;> simp [V.up, U.up_id, mapU_id]
theorem RepA.pre {μ μ' : Mu} (h : Pre μ μ') {x : A} {cv : Value} (r : RepA μ x cv) : RepA μ' x cv := by have := r.up (.of_pre h); rwa [A.up_id] at this
theorem RepV.pre {μ μ' : Mu} (h : Pre μ μ') {x : V} {cv : Value} (r : RepV μ x cv) : RepV μ' x cv := by have := r.up (.of_pre h); rwa [V.up_id] at this
def Sub (ids : List Nat) (μ μ' : Mu) : Prop := Zle μ.z μ'.z ∧ ∀ (j i : Nat) (m : M), ids[j]? = some i → μ.l[i]? = some m → μ'.l[j]? = some m
theorem RepA.ren {ids : List Nat} {μ μ' : Mu} (h : Sub ids μ μ') {x y : A} {cv : Value} (e : x.ren ids = some y) (r : RepA μ x cv) : RepA μ' y cv := by
  have key : ∀ i j, ids.idxOf? i = some j → ids[j]? = some i := by
    intro i j hj
    have h1 := List.idxOf?_eq_some_iff.1 hj
    obtain ⟨h2, h3, _⟩ := h1
    rw [List.getElem?_eq_some_iff]; exact ⟨h2, by simpa using h3⟩
  cases x with
  | ptr i o =>
    simp only [A.ren, Option.map_eq_some_iff] at e
    obtain ⟨j, hj, rfl⟩ := e
    obtain ⟨m, hm, rfl⟩ := r
    exact ⟨m, h.2 j i m (key _ _ hj) hm, rfl⟩
  | sl i o n =>
    simp only [A.ren, Option.map_eq_some_iff] at e
    obtain ⟨j, hj, rfl⟩ := e
    obtain ⟨m, ad, c, hm, rest⟩ := r
    exact ⟨m, ad, c, h.2 j i m (key _ _ hj) hm, rest⟩
  | ro i n =>
    simp only [A.ren, Option.map_eq_some_iff] at e
    obtain ⟨j, hj, rfl⟩ := e
    obtain ⟨m, hm, rest⟩ := r
    exact ⟨m, h.2 j i m (key _ _ hj) hm, rest⟩
  | dig v => cases e; obtain ⟨D, h1, h2, h3⟩ := r; exact ⟨D, h1, h2, h3.mono h.1⟩
  | big v => cases e; obtain ⟨D, h1, h2, h4, h3⟩ := r; exact ⟨D, h1, h2, h4, h3.mono h.1⟩
  | mp i =>
    simp only [A.ren, Option.map_eq_some_iff] at e
    obtain ⟨j, hj, rfl⟩ := e
    obtain ⟨m, hm, rfl⟩ := r
    exact ⟨m, h.2 j i m (key _ _ hj) hm, rfl⟩
  | _ => simp only [A.ren, Option.some.injEq] at e; subst e; exact r
theorem optMap_cons {α β : Type} {f : α → Option β} {x : α} {l : List α} {r : List β} (h : optMap f (x :: l) = some r) : ∃ y m, f x = some y ∧ optMap f l = some m ∧ r = y :: m := by
  simp only [optMap] at h
  split at h
  · split at h
    · cases h; exact ⟨_, _, ‹_›, ‹_›, rfl⟩
    · cases h
  · cases h
theorem RepAs.ren {ids : List Nat} {μ μ' : Mu} (h : Sub ids μ μ') : ∀ {l m : List A} {cs : List Value}, optMap (A.ren ids) l = some m → RepAs μ l cs → RepAs μ' m cs
  | [], m, [], e, _ => by cases e; trivial
  | x :: l, m, c :: cs, e, ⟨a, b⟩ => by
    obtain ⟨y, m', e1, e2, rfl⟩ := optMap_cons e
    exact ⟨a.ren h e1, RepAs.ren h e2 b⟩
theorem RepU.ren {ids : List Nat} {μ μ' : Mu} (h : Sub ids μ μ') {x y : U} {cv : Value} (e : x.ren ids = some y) (r : RepU μ x cv) : RepU μ' y cv := by
  cases x with
  | a x => simp only [U.ren, Option.map_eq_some_iff] at e; obtain ⟨z, hz, rfl⟩ := e; exact RepA.ren h hz r
  | g l => simp only [U.ren, Option.map_eq_some_iff] at e; obtain ⟨z, hz, rfl⟩ := e; obtain ⟨cs, rfl, r⟩ := r; exact ⟨cs, rfl, r.ren h hz⟩
theorem RepUs.ren {ids : List Nat} {μ μ' : Mu} (h : Sub ids μ μ') : ∀ {l m : List U} {cs : List Value}, optMap (U.ren ids) l = some m → RepUs μ l cs → RepUs μ' m cs
  | [], m, [], e, _ => by cases e; trivial
  | x :: l, m, c :: cs, e, ⟨a, b⟩ => by
    obtain ⟨y, m', e1, e2, rfl⟩ := optMap_cons e
    exact ⟨a.ren h e1, RepUs.ren h e2 b⟩
theorem RepV.ren {ids : List Nat} {μ μ' : Mu} (h : Sub ids μ μ') {x y : V} {cv : Value} (e : x.ren ids = some y) (r : RepV μ x cv) : RepV μ' y cv := by
  cases x with
  | any => cases e; trivial
  | u x => simp only [V.ren, Option.map_eq_some_iff] at e; obtain ⟨z, hz, rfl⟩ := e; exact RepU.ren h hz r
  | tup l => simp only [V.ren, Option.map_eq_some_iff] at e; obtain ⟨z, hz, rfl⟩ := e; obtain ⟨cs, rfl, r⟩ := r; exact ⟨cs, rfl, r.ren h hz⟩
theorem RepVs.ren {ids : List Nat} {μ μ' : Mu} (h : Sub ids μ μ') : ∀ {l m : List V} {cs : List Value}, optMap (V.ren ids) l = some m → RepVs μ l cs → RepVs μ' m cs
  | [], m, [], e, _ => by cases e; trivial
  | x :: l, m, c :: cs, e, ⟨a, b⟩ => by
    obtain ⟨y, m', e1, e2, rfl⟩ := optMap_cons e
    exact ⟨a.ren h e1, RepVs.ren h e2 b⟩
def C.get? (c : C) (j : Nat) : Option A := c.getK j some
def C.live (rw : Bool) (c : C) : Prop := rw = true ∨ ∃ p x, c.get? p = some x
structure Rel (μ : Mu) (h : H) (w : World) : Prop where
  len : μ.l.length = h.length
  cell : ∀ (i : Nat) (m : M) (rw : Bool) (c : C), μ.l[i]? = some m → h[i]? = some (.at rw c) → ∀ (j : Nat) (x : A), c.get? j = some x → ∃ cv, w.cell? ⟨m.blk, m.off + j, none⟩ = some cv ∧ RepA μ x cv
  own : ∀ (i : Nat) (m : M) (c : C), μ.l[i]? = some m → h[i]? = some (.at true c) → m.own = true ∧ m.off = 0 ∧ m.esz = c.esz ∧ ∃ cur, w.heap[m.blk]? = some (.cells cur m.el (0, 0)) ∧ cur.size = m.size
  lt : ∀ (i : Nat) (m : M) (rw : Bool) (c : C), μ.l[i]? = some m → h[i]? = some (.at rw c) → c.live rw → m.blk < w.heap.size
  sep : ∀ (i j : Nat) (m n : M) (c : C) (rw : Bool) (d : C), i ≠ j → μ.l[i]? = some m → μ.l[j]? = some n → h[i]? = some (.at true c) → h[j]? = some (.at rw d) → d.live rw → m.blk ≠ n.blk
  fz : ∀ (k : Nat) (cur : Array Value), μ.z k = some cur → (∃ el, w.heap[k]? = some (.cells cur el (0, 0))) ∧ ∀ (i : Nat) (m : M) (c : C), μ.l[i]? = some m → h[i]? = some (.at true c) → m.blk ≠ k
def Wr (μ : Mu) (h : H) (k : Nat) : Prop := ∃ (i : Nat) (m : M) (c : C), μ.l[i]? = some m ∧ h[i]? = some (.at true c) ∧ m.blk = k
structure Fr (S : Nat → Prop) (w w' : World) : Prop where
  os : w'.os = w.os
  tape : w'.tape = w.tape
  output : w'.output = w.output
  size : w.heap.size ≤ w'.heap.size
  block : ∀ k, k < w.heap.size → ¬ S k → w'.heap[k]? = w.heap[k]?
theorem Fr.refl (S : Nat → Prop) (w : World) : Fr S w w := ⟨rfl, rfl, rfl, Nat.le_refl _, fun _ _ _ => rfl⟩
theorem Fr.trans {S T : Nat → Prop} {a b c : World} (h : Fr S a b) (k : Fr T b c) (hT : ∀ i, T i → S i ∨ a.heap.size ≤ i) : Fr S a c :=
  ⟨k.os.trans h.os, k.tape.trans h.tape, k.output.trans h.output, Nat.le_trans h.size k.size, fun i hi hn =>
    (k.block i (Nat.lt_of_lt_of_le hi h.size) (fun ht => (hT i ht).elim hn (fun h => absurd hi (Nat.not_lt.2 h)))).trans (h.block i hi hn)⟩
theorem Fr.mono {S T : Nat → Prop} {a b : World} (h : Fr S a b) (hS : ∀ i, S i → T i) : Fr T a b :=
  ⟨h.os, h.tape, h.output, h.size, fun i hi hn => h.block i hi (fun hs => hn (hS i hs))⟩
theorem Fr.drewN (S : Nat → Prop) (w : World) (n : Nat) : Fr S w (w.drewN n) := ⟨rfl, rfl, rfl, Nat.le_refl _, fun _ _ _ => rfl⟩
theorem Fr.alloc (S : Nat → Prop) (w : World) (o : Obj) : Fr S w (w.alloc o) :=
  ⟨rfl, rfl, rfl, by show w.heap.size ≤ (w.heap.push o).size; simp, fun k hk _ => by show (w.heap.push o)[k]? = _; rw [Array.getElem?_push]; simp [Nat.ne_of_lt hk]⟩
theorem cell_of_block {w w' : World} {a : Addr} (h : w'.heap[a.block]? = w.heap[a.block]?) : w'.cell? a = w.cell? a := World.cell?_of_block h
theorem Rel.drewN {μ : Mu} {h : H} {w : World} (r : Rel μ h w) (n : Nat) : Rel μ h (w.drewN n) := ⟨r.len, r.cell, r.own, r.lt, r.sep, r.fz⟩
theorem getElem?_lt {α : Type} {l : List α} {i : Nat} {x : α} (h : l[i]? = some x) : i < l.length := (List.getElem?_eq_some_iff.1 h).1
theorem heap_lt {w : World} {k : Nat} {o : Obj} (h : w.heap[k]? = some o) : k < w.heap.size := by
  by_cases hk : k < w.heap.size
  · exact hk
  · rw [Array.getElem?_eq_none (by omega)] at h
    cases h
theorem Rel.fr {μ : Mu} {h : H} {w w' : World} (r : Rel μ h w) {S : Nat → Prop} (f : Fr S w w')
    (hS : ∀ (i : Nat) (m : M) (rw : Bool) (c : C), μ.l[i]? = some m → h[i]? = some (.at rw c) → ¬ S m.blk) (hZ : ∀ (k : Nat) (cur : Array Value), μ.z k = some cur → ¬ S k) : Rel μ h w' where
  len := r.len
  cell i m rw c hm hb j x hx := by
    obtain ⟨cv, h1, h2⟩ := r.cell i m rw c hm hb j x hx
    exact ⟨cv, (cell_of_block (f.block m.blk (r.lt i m rw c hm hb (.inr ⟨j, x, hx⟩)) (hS i m rw c hm hb))).trans h1, h2⟩
  own i m c hm hb := by
    obtain ⟨h1, h2, h5, cur, h3, h4⟩ := r.own i m c hm hb
    exact ⟨h1, h2, h5, cur, (f.block m.blk (r.lt i m _ c hm hb (.inl rfl)) (hS i m _ c hm hb)).trans h3, h4⟩
  lt i m rw c hm hb hl := Nat.lt_of_lt_of_le (r.lt i m rw c hm hb hl) f.size
  sep := r.sep
  fz k cur hk := by
    obtain ⟨⟨el, h1⟩, h2⟩ := r.fz k cur hk
    exact ⟨⟨el, (f.block k (heap_lt h1) (hZ k cur hk)).trans h1⟩, h2⟩
theorem Rel.new {μ : Mu} {h : H} {w : World} (r : Rel μ h w) (c : C) (m : M) (cur : Array Value)
    (hm : m = ⟨w.heap.size, 0, true, cur.size, c.esz, m.el⟩)
    (hc : ∀ j x, c.get? j = some x → ∃ cv, cur[j]? = some cv ∧ RepA (μ.app [m]) x cv) :
    Rel (μ.app [m]) (h ++ [.at true c]) (w.alloc (.cells cur m.el)) := by
  have hlen := r.len
  have hsz : (w.alloc (.cells cur m.el)).heap.size = w.heap.size + 1 := by show (w.heap.push _).size = _; simp
  have hnew : (w.alloc (.cells cur m.el)).heap[w.heap.size]? = some (.cells cur m.el (0, 0)) := by show (w.heap.push _)[w.heap.size]? = _; simp
  have split : ∀ (i : Nat) (m' : M) (b : B), (μ.l ++ [m])[i]? = some m' → (h ++ [.at true c])[i]? = some b →
      (μ.l[i]? = some m' ∧ h[i]? = some b) ∨ (i = μ.l.length ∧ m' = m ∧ b = .at true c) := by
    intro i m' b h1 h2
    by_cases hi : i < μ.l.length
    · rw [List.getElem?_append_left hi] at h1
      rw [List.getElem?_append_left (by omega)] at h2
      exact .inl ⟨h1, h2⟩
    · have hlt := getElem?_lt h1
      simp at hlt
      have hi' : i = μ.l.length := by omega
      subst hi'
      simp at h1
      rw [hlen] at h2
      simp at h2
      exact .inr ⟨rfl, h1.symm, h2.symm⟩
  have eb : m.blk = w.heap.size := by rw [hm]
  have eo : m.off = 0 := by rw [hm]
  have es : m.size = cur.size := by rw [hm]
  have ew : m.own = true := by rw [hm]
  have ee : m.esz = c.esz := by rw [hm]
  clear hm
  refine ⟨by simp [hlen], ?_, ?_, ?_, ?_, ?_⟩
  · intro i m' rw c' h1 h2 j x hx
    rcases split i m' _ h1 h2 with ⟨h1, h2⟩ | ⟨_, e, h2⟩
    · obtain ⟨cv, h3, h4⟩ := r.cell i m' rw c' h1 h2 j x hx
      exact ⟨cv, (cell_of_block ((Fr.alloc (fun _ => False) w _).block m'.blk (r.lt i m' rw c' h1 h2 (.inr ⟨j, x, hx⟩)) id)).trans h3, h4.pre (.app μ _)⟩
    · cases h2
      obtain ⟨cv, h3, h4⟩ := hc j x hx
      refine ⟨cv, ?_, h4⟩
      rw [e, eb, eo]
      simp only [World.cell?, Nat.zero_add]
      rw [hnew]
      simpa using h3
  · intro i m' c' h1 h2
    rcases split i m' _ h1 h2 with ⟨h1, h2⟩ | ⟨_, e, h2⟩
    · obtain ⟨h3, h4, h7, cur', h5, h6⟩ := r.own i m' c' h1 h2
      exact ⟨h3, h4, h7, cur', ((Fr.alloc (fun _ => False) w _).block m'.blk (r.lt i m' _ c' h1 h2 (.inl rfl)) id).trans h5, h6⟩
    · rw [e]
      cases h2
      exact ⟨ew, eo, ee, cur, by rw [eb]; exact hnew, es.symm⟩
  · intro i m' rw c' h1 h2 hl
    rcases split i m' _ h1 h2 with ⟨h1, h2⟩ | ⟨_, e, h2⟩
    · have := r.lt i m' rw c' h1 h2 hl; omega
    · rw [e]; omega
  · intro i j m' n c' rw d hij h1 h2 h3 h4 hl
    rcases split i m' _ h1 h3 with ⟨h1, h3⟩ | ⟨e1, e1', h3⟩
    · rcases split j n _ h2 h4 with ⟨h2, h4⟩ | ⟨e2, e2', h4⟩
      · exact r.sep i j m' n c' rw d hij h1 h2 h3 h4 hl
      · have := r.lt i m' _ c' h1 h3 (.inl rfl)
        rw [e2']; omega
    · rcases split j n _ h2 h4 with ⟨h2, h4⟩ | ⟨e2, e2', h4⟩
      · have := r.lt j n _ d h2 h4 hl
        rw [e1']; omega
      · omega
  · intro k cur' hk
    obtain ⟨⟨el, h1⟩, h2⟩ := r.fz k cur' hk
    have hlt := heap_lt h1
    refine ⟨⟨el, ((Fr.alloc (fun _ => False) w _).block k hlt id).trans h1⟩, fun i m' c' h3 h4 => ?_⟩
    rcases split i m' _ h3 h4 with ⟨h3, h4⟩ | ⟨_, e, _⟩
    · exact h2 i m' c' h3 h4
    · rw [e, eb]; omega
end Go.Proofs.Ytpeplbbphpamhaa.Ab

namespace Go.Proofs.Ytpeplbbphpamhaa.Ab
set_option linter.unusedVariables false
set_option linter.unusedSimpArgs false
open Go
theorem addNew_nodup {l : List Nat} (h : l.Nodup) (i : Nat) : (addNew l i).Nodup := by
  unfold addNew
  split
  · exact h
  · rename_i hc
    rw [List.nodup_append]
    refine ⟨h, by simp, ?_⟩
    intro a ha b hb
    simp at hb
    subst hb
    intro e
    subst e
    exact hc (by simpa using ha)
theorem foldAdd_nodup : ∀ (m : List Nat) {l : List Nat}, l.Nodup → (m.foldl addNew l).Nodup
  | [], _, h => h
  | i :: m, _, h => foldAdd_nodup m (addNew_nodup h i)
theorem foldAdd_pre : ∀ (m : List Nat) (l : List Nat), ∃ n, m.foldl addNew l = l ++ n
  | [], l => ⟨[], by simp⟩
  | i :: m, l => by
    obtain ⟨n, hn⟩ := foldAdd_pre m (addNew l i)
    simp only [List.foldl_cons, hn]
    unfold addNew
    split
    · exact ⟨n, rfl⟩
    · exact ⟨i :: n, by simp⟩
theorem close_nodup (h : H) : ∀ (n : Nat) {l : List Nat}, l.Nodup → (close h n l).Nodup
  | 0, _, k => k
  | n + 1, _, k => close_nodup h n (foldAdd_nodup _ k)
theorem close_pre (h : H) : ∀ (n : Nat) (l : List Nat), ∃ m, close h n l = l ++ m
  | 0, l => ⟨[], by simp [close]⟩
  | n + 1, l => by
    obtain ⟨m, hm⟩ := close_pre h n ((l.flatMap (idsAt h)).foldl addNew l)
    obtain ⟨p, hp⟩ := foldAdd_pre (l.flatMap (idsAt h)) l
    exact ⟨p ++ m, by unfold close; rw [hm, hp, List.append_assoc]⟩
theorem optMap_len {α β : Type} {f : α → Option β} : ∀ {l : List α} {m : List β}, optMap f l = some m → m.length = l.length
  | [], m, e => by cases e; rfl
  | x :: l, m, e => by
    obtain ⟨y, m', _, e2, rfl⟩ := optMap_cons e
    simp [optMap_len e2]
theorem optMap_get {α β : Type} {f : α → Option β} : ∀ {l : List α} {m : List β}, optMap f l = some m → ∀ (j : Nat) (x : α), l[j]? = some x → ∃ y, f x = some y ∧ m[j]? = some y
  | [], _, _, _, _, h => by simp at h
  | x :: l, m, e, j, z, h => by
    obtain ⟨y, m', e1, e2, rfl⟩ := optMap_cons e
    cases j with
    | zero => simp at h; subst h; exact ⟨y, e1, rfl⟩
    | succ j => simp at h; obtain ⟨u, h1, h2⟩ := optMap_get e2 j z h; exact ⟨u, h1, by simpa using h2⟩
theorem optMap_inv {α β : Type} {f : α → Option β} : ∀ {l : List α} {m : List β}, optMap f l = some m → ∀ (j : Nat) (y : β), m[j]? = some y → ∃ x, l[j]? = some x ∧ f x = some y
  | [], m, e, _, _, h => by cases e; simp at h
  | x :: l, m, e, j, z, h => by
    obtain ⟨y, m', e1, e2, rfl⟩ := optMap_cons e
    cases j with
    | zero => simp at h; subst h; exact ⟨x, rfl, e1⟩
    | succ j => simp at h; obtain ⟨u, h1, h2⟩ := optMap_inv e2 j z h; exact ⟨u, by simpa using h1, h2⟩
theorem C.get?_as (e : Nat) (l : List A) (j : Nat) : (C.as e l).get? j = l[j]? := by
  unfold C.get? C.getK
  cases h : l[j]? <;> simp [h]
theorem C.get?_plain {c : C} (hc : ∀ e l, c ≠ .as e l) {j : Nat} {x : A} (h : c.get? j = some x) : x.ids = [] := by
  unfold C.get? C.getK at h
  cases c <;> simp only at h
  case as e l => exact absurd rfl (hc e l)
  case mp l => cases h
  all_goals (split at h <;> cases h; rfl)
theorem A.ren_plain {x : A} (h : x.ids = []) (ids : List Nat) : x.ren ids = some x := by
  cases x <;> first | rfl | simp [A.ids] at h
theorem B.ren_at {ids : List Nat} {b : B} {rw : Bool} {c' : C} (e : b.ren ids = some (.at rw c')) :
    ∃ c, b = .at rw c ∧ c'.esz = c.esz ∧ ∀ p x, c'.get? p = some x → ∃ y, c.get? p = some y ∧ y.ren ids = some x := by
  cases b with
  | gone => cases e
  | «at» rw' c =>
    cases c with
    | as ee l =>
      simp only [B.ren, Option.map_eq_some_iff] at e
      obtain ⟨m, h1, h2⟩ := e
      cases h2
      refine ⟨_, rfl, rfl, fun p x hx => ?_⟩
      rw [C.get?_as] at hx
      obtain ⟨y, h3, h4⟩ := optMap_inv h1 p x hx
      exact ⟨y, by rw [C.get?_as]; exact h3, h4⟩
    | _ =>
      simp only [B.ren] at e
      cases e
      exact ⟨_, rfl, rfl, fun p x hx => ⟨x, hx, A.ren_plain (C.get?_plain (by simp) hx) ids⟩⟩
theorem renAt_at {h : H} {ids : List Nat} {i : Nat} {rw : Bool} {c' : C} (e : renAt h ids i = some (.at rw c')) :
    ∃ c, h[i]? = some (.at rw c) ∧ c'.esz = c.esz ∧ ∀ p x, c'.get? p = some x → ∃ y, c.get? p = some y ∧ y.ren ids = some x := by
  unfold renAt at e
  cases hh : h[i]? with
  | none => simp [hh] at e
  | some b =>
    simp only [hh] at e
    obtain ⟨c, rfl, hc⟩ := B.ren_at e
    exact ⟨c, rfl, hc⟩
theorem renAt_lt {h : H} {ids : List Nat} {i : Nat} {b : B} (e : renAt h ids i = some b) : i < h.length := by
  unfold renAt at e
  cases hh : h[i]? with
  | none => simp [hh] at e
  | some b => exact getElem?_lt hh
def pick (μ : Mu) (ids : List Nat) : Mu := ⟨μ.z, ids.map fun i => (μ.l[i]?).getD ⟨0, 0, false, 0, 0, 0⟩⟩
theorem pick_sub (μ : Mu) (ids : List Nat) : Sub ids μ (pick μ ids) := by
  refine ⟨.refl _, fun j i m h1 h2 => ?_⟩
  simp [pick, h1, h2]
theorem Rel.sub {μ : Mu} {h g : H} {w : World} {ids : List Nat} (r : Rel μ h w) (hn : ids.Nodup) (e : subH h ids = some g) : Rel (pick μ ids) g w := by
  have hsub := pick_sub μ ids
  have key : ∀ (j : Nat) (m : M) (rw : Bool) (c' : C), (pick μ ids).l[j]? = some m → g[j]? = some (.at rw c') →
      ∃ i c, ids[j]? = some i ∧ μ.l[i]? = some m ∧ h[i]? = some (.at rw c) ∧ c'.esz = c.esz ∧ ∀ p x, c'.get? p = some x → ∃ y, c.get? p = some y ∧ y.ren ids = some x := by
    intro j m rw c' h1 h2
    obtain ⟨i, hi, hb⟩ := optMap_inv e j _ h2
    obtain ⟨c, hh, hc⟩ := renAt_at hb
    have hlt : i < μ.l.length := by rw [r.len]; exact getElem?_lt hh
    have hm : (pick μ ids).l[j]? = some μ.l[i] := hsub.2 j i _ hi (List.getElem?_eq_getElem hlt)
    rw [hm] at h1
    cases h1
    exact ⟨i, c, hi, List.getElem?_eq_getElem hlt, hh, hc⟩
  refine ⟨by simp [pick, optMap_len e], ?_, ?_, ?_, ?_, ?_⟩
  · intro j m rw c' h1 h2 p x hx
    obtain ⟨i, c, hi, hm, hb, _, hc⟩ := key j m rw c' h1 h2
    obtain ⟨y, hy, hr⟩ := hc p x hx
    obtain ⟨cv, h3, h4⟩ := r.cell i m rw c hm hb p y hy
    exact ⟨cv, h3, h4.ren hsub hr⟩
  · intro j m c' h1 h2
    obtain ⟨i, c, hi, hm, hb, he, _⟩ := key j m true c' h1 h2
    rw [he]
    exact r.own i m c hm hb
  · intro j m rw c' h1 h2 hl
    obtain ⟨i, c, hi, hm, hb, _, hc⟩ := key j m rw c' h1 h2
    exact r.lt i m rw c hm hb (hl.imp id fun ⟨p, x, hx⟩ => (hc p x hx).elim fun y hy => ⟨p, y, hy.1⟩)
  · intro j j' m n c' rw d' hj h1 h2 h3 h4 hl
    obtain ⟨i, c, hi, hm, hb, _⟩ := key j m true c' h1 h3
    obtain ⟨i', d, hi', hm', hb', _, hc⟩ := key j' n rw d' h2 h4
    refine r.sep i i' m n c rw d ?_ hm hm' hb hb' (hl.imp id fun ⟨p, x, hx⟩ => (hc p x hx).elim fun y hy => ⟨p, y, hy.1⟩)
    intro e'
    subst e'
    have h5 := List.getElem?_eq_some_iff.1 hi
    have h6 := List.getElem?_eq_some_iff.1 hi'
    exact hj ((List.getElem_inj hn).1 (h5.2.trans h6.2.symm))
  · intro k cur hk
    obtain ⟨h1, h2⟩ := r.fz k cur hk
    refine ⟨h1, fun j m c' h3 h4 => ?_⟩
    obtain ⟨i, c, hi, hm, hb, _⟩ := key j m true c' h3 h4
    exact h2 i m c hm hb
theorem Wr.sub {μ : Mu} {h g : H} {w : World} {ids : List Nat} (r : Rel μ h w) (e : subH h ids = some g) {k : Nat} (hk : Wr (pick μ ids) g k) :
    ∃ (j i : Nat) (m : M) (c : C), ids[j]? = some i ∧ μ.l[i]? = some m ∧ h[i]? = some (.at true c) ∧ m.blk = k := by
  obtain ⟨j, m, c', h1, h2, rfl⟩ := hk
  obtain ⟨i, hi, hb⟩ := optMap_inv e j _ h2
  obtain ⟨c, hh, _⟩ := renAt_at hb
  have hlt : i < μ.l.length := by rw [r.len]; exact getElem?_lt hh
  have hm : (pick μ ids).l[j]? = some μ.l[i] := (pick_sub μ ids).2 j i _ hi (List.getElem?_eq_getElem hlt)
  rw [hm] at h1
  cases h1
  exact ⟨j, i, _, c, hi, List.getElem?_eq_getElem hlt, hh, rfl⟩
theorem layBack_len (f : Nat → Nat) : ∀ (ids : List Nat) (h g : H), ids.length ≤ g.length → (layBack f h ids g).length = h.length + (g.length - ids.length)
  | [], h, g, _ => by simp [layBack]
  | i :: ids, h, b :: g, e => by
    simp only [layBack]
    rw [layBack_len f ids _ g (by simpa using e)]
    simp
  | _ :: _, h, [], e => by simp at e
theorem layBack_get (f : Nat → Nat) : ∀ (ids : List Nat) (h g : H), ids.Nodup → ids.length ≤ g.length → (∀ i ∈ ids, i < h.length) →
    (∀ i, i < h.length → i ∉ ids → (layBack f h ids g)[i]? = h[i]?) ∧
    (∀ (j i : Nat), ids[j]? = some i → (layBack f h ids g)[i]? = (g[j]?).map (B.up f)) ∧
    (∀ j, (layBack f h ids g)[h.length + j]? = (g[ids.length + j]?).map (B.up f))
  | [], h, g, _, _, _ => by
    refine ⟨fun i hi _ => by simp [layBack, List.getElem?_append_left hi], fun j i hj => by simp at hj, fun j => ?_⟩
    simp [layBack, List.getElem?_append_right]
  | i :: ids, h, b :: g, hn, hl, hin => by
    have hn' := List.nodup_cons.1 hn
    have ih := layBack_get f ids (h.set i (b.up f)) g hn'.2 (by simpa using hl) (fun k hk => by simpa using hin k (List.mem_cons_of_mem _ hk))
    have hi : i < h.length := hin i (List.mem_cons_self ..)
    refine ⟨fun k hk hnot => ?_, fun j k hj => ?_, fun j => ?_⟩
    · have h1 := ih.1 k (by simpa using hk) (fun hm => hnot (List.mem_cons_of_mem _ hm))
      simp only [layBack, h1]
      rw [List.getElem?_set_ne (fun e => hnot (by rw [e]; exact List.mem_cons_self ..))]
    · cases j with
      | zero =>
        simp at hj
        subst hj
        have h1 := ih.1 i (by simpa using hi) hn'.1
        simp only [layBack, h1]
        simp [hi]
      | succ j =>
        simp at hj
        have h1 := ih.2.1 j k hj
        simp only [layBack, h1]
        simp
    · have h1 := ih.2.2 j
      simp only [List.length_set] at h1
      simp only [layBack, h1, List.length_cons]
      have : ids.length + 1 + j = (ids.length + j) + 1 := by omega
      rw [this]
      simp
  | _ :: _, h, [], _, e, _ => by simp at e
theorem B.up_at {f : Nat → Nat} {b : B} {rw : Bool} {c' : C} (e : b.up f = .at rw c') : ∃ c, b = .at rw c ∧ c'.esz = c.esz ∧ ∀ j x, c'.get? j = some x → ∃ y, c.get? j = some y ∧ x = y.up f := by
  cases b with
  | gone => cases e
  | «at» rw' c =>
    cases c with
    | as ee l =>
      simp only [B.up] at e
      cases e
      refine ⟨_, rfl, rfl, fun j x hx => ?_⟩
      rw [C.get?_as] at hx
      simp only [List.getElem?_map, Option.map_eq_some_iff] at hx
      obtain ⟨y, hy, rfl⟩ := hx
      exact ⟨y, by rw [C.get?_as]; exact hy, rfl⟩
    | _ =>
      simp only [B.up] at e
      cases e
      refine ⟨_, rfl, rfl, fun j x hx => ⟨x, hx, ?_⟩⟩
      have := C.get?_plain (by simp) hx
      cases x <;> first | rfl | simp [A.ids] at this
theorem Rel.laid {μ : Mu} {z' : Nat → Option (Array Value)} {ν : List M} {h g g' : H} {w w' : World} {ids : List Nat} (r : Rel μ h w) (hn : ids.Nodup) (e : subH h ids = some g)
    (hν : ((pick μ ids).l ++ ν).length = g'.length) (r' : Rel ⟨z', (pick μ ids).l ++ ν⟩ g' w') (f : Fr (Wr (pick μ ids) g) w w')
    (hnew : ∀ (i : Nat) (m : M) (rw : Bool) (c : C), ids.length ≤ i → ((pick μ ids).l ++ ν)[i]? = some m → g'[i]? = some (.at rw c) → rw = true ∧ (Wr (pick μ ids) g m.blk ∨ w.heap.size ≤ m.blk))
    (hold : ∀ (j : Nat) (rw : Bool) (c : C), j < ids.length → g'[j]? = some (.at rw c) → ∃ d, g[j]? = some (.at rw d) ∧ (c.live rw → d.live rw)) (hzl : Zle μ.z z')
    (hz : ∀ (k : Nat) (cur : Array Value), z' k = some cur → μ.z k = some cur ∨ Wr (pick μ ids) g k ∨ w.heap.size ≤ k) :
    Rel ⟨z', μ.l ++ ν⟩ (layBack (back ids h.length) h ids g') w' ∧ Tells (back ids h.length) ⟨z', (pick μ ids).l ++ ν⟩ ⟨z', μ.l ++ ν⟩ := by
  have hpl : (pick μ ids).l.length = ids.length := by simp [pick]
  have hgl : g.length = ids.length := optMap_len e
  have hidlt : ∀ i ∈ ids, i < h.length := by
    intro i hi
    obtain ⟨j, hj⟩ := List.getElem?_of_mem hi
    obtain ⟨y, hy, _⟩ := optMap_get e j i hj
    exact renAt_lt hy
  have hlen' : ids.length ≤ g'.length := by rw [← hν]; simp [hpl]
  obtain ⟨L1, L2, L3⟩ := layBack_get (back ids h.length) ids h g' hn hlen' hidlt
  have hμ : μ.l.length = h.length := r.len
  have tells : Tells (back ids h.length) ⟨z', (pick μ ids).l ++ ν⟩ ⟨z', μ.l ++ ν⟩ := by
    refine ⟨.refl _, fun j m hj => ?_⟩
    unfold back
    by_cases hlt : j < ids.length
    · rw [List.getElem?_append_left (by omega)] at hj
      have hi : ids[j]? = some ids[j] := List.getElem?_eq_getElem hlt
      rw [hi]
      simp only
      have hm : ids[j] < μ.l.length := by rw [hμ]; exact hidlt _ (List.getElem_mem hlt)
      have := (pick_sub μ ids).2 j _ _ hi (List.getElem?_eq_getElem hm)
      rw [this] at hj
      cases hj
      rw [List.getElem?_append_left hm]
      exact List.getElem?_eq_getElem hm
    · rw [List.getElem?_append_right (by omega), hpl] at hj
      have : ids[j]? = none := List.getElem?_eq_none (by omega)
      rw [this]
      simp only
      rw [List.getElem?_append_right (by omega), hμ, Nat.add_sub_cancel_left]
      exact hj
  refine ⟨?_, tells⟩
  have cases3 : ∀ (i : Nat) (m : M) (rw : Bool) (c : C), (μ.l ++ ν)[i]? = some m → (layBack (back ids h.length) h ids g')[i]? = some (.at rw c) →
      (i < h.length ∧ i ∉ ids ∧ μ.l[i]? = some m ∧ h[i]? = some (.at rw c)) ∨
      (∃ j d, ((pick μ ids).l ++ ν)[j]? = some m ∧ g'[j]? = some (.at rw d) ∧ (c.esz = d.esz ∧ ∀ p x, c.get? p = some x → ∃ y, d.get? p = some y ∧ x = y.up (back ids h.length)) ∧
        ((j < ids.length ∧ ids[j]? = some i) ∨ (ids.length ≤ j ∧ i = h.length + (j - ids.length)))) := by
    intro i m rw c h1 h2
    by_cases hi : i < h.length
    · rw [List.getElem?_append_left (by omega)] at h1
      by_cases hm : i ∈ ids
      · right
        obtain ⟨j, hj⟩ := List.getElem?_of_mem hm
        rw [L2 j i hj] at h2
        simp only [Option.map_eq_some_iff] at h2
        obtain ⟨b, hb, hb'⟩ := h2
        obtain ⟨d, rfl, hd⟩ := B.up_at hb'
        refine ⟨j, d, ?_, hb, hd, .inl ⟨getElem?_lt hj, hj⟩⟩
        rw [List.getElem?_append_left (by rw [hpl]; exact getElem?_lt hj)]
        exact (pick_sub μ ids).2 j i m hj h1
      · rw [L1 i hi hm] at h2
        exact .inl ⟨hi, hm, h1, h2⟩
    · right
      obtain ⟨j, rfl⟩ : ∃ j, i = h.length + j := ⟨i - h.length, by omega⟩
      rw [L3 j] at h2
      simp only [Option.map_eq_some_iff] at h2
      obtain ⟨b, hb, hb'⟩ := h2
      obtain ⟨d, rfl, hd⟩ := B.up_at hb'
      refine ⟨ids.length + j, d, ?_, hb, hd, .inr ⟨by omega, by omega⟩⟩
      rw [List.getElem?_append_right (by omega), hμ, Nat.add_sub_cancel_left] at h1
      rw [List.getElem?_append_right (by omega), hpl, Nat.add_sub_cancel_left]
      exact h1
  have apart : ∀ (i : Nat) (m : M) (rw : Bool) (c : C), i ∉ ids → μ.l[i]? = some m → h[i]? = some (.at rw c) → c.live rw → ¬ Wr (pick μ ids) g m.blk := by
    intro i m rw c hi hm hb hl hw
    obtain ⟨j, i', m', c', hj, hm', hb', hk⟩ := Wr.sub r e hw
    exact r.sep i' i m' m c' rw c (fun e' => hi (e' ▸ List.mem_of_getElem? hj)) hm' hm hb' hb hl hk
  refine ⟨by rw [layBack_len _ _ _ _ hlen']; rw [← hν]; simp [hpl, hμ], ?_, ?_, ?_, ?_, ?_⟩
  · intro i m rw c h1 h2 p x hx
    rcases cases3 i m rw c h1 h2 with ⟨_, hm, h3, h4⟩ | ⟨j, d, h3, h4, h5, _⟩
    · obtain ⟨cv, h6, h7⟩ := r.cell i m rw c h3 h4 p x hx
      exact ⟨cv, (cell_of_block (f.block m.blk (r.lt i m rw c h3 h4 (.inr ⟨p, x, hx⟩)) (apart i m rw c hm h3 h4 (.inr ⟨p, x, hx⟩)))).trans h6, h7.pre (μ' := ⟨z', μ.l ++ ν⟩) ⟨hzl, ν, rfl⟩⟩
    · obtain ⟨y, h6, rfl⟩ := h5.2 p x hx
      obtain ⟨cv, h7, h8⟩ := r'.cell j m rw d h3 h4 p y h6
      exact ⟨cv, h7, h8.up tells⟩
  · intro i m c h1 h2
    rcases cases3 i m true c h1 h2 with ⟨_, hm, h3, h4⟩ | ⟨j, d, h3, h4, hes, _⟩
    · obtain ⟨h5, h6, h9, cur, h7, h8⟩ := r.own i m c h3 h4
      exact ⟨h5, h6, h9, cur, (f.block m.blk (r.lt i m _ c h3 h4 (.inl rfl)) (apart i m _ c hm h3 h4 (.inl rfl))).trans h7, h8⟩
    · rw [hes.1]; exact r'.own j m d h3 h4
  · intro i m rw c h1 h2 hl
    rcases cases3 i m rw c h1 h2 with ⟨_, hm, h3, h4⟩ | ⟨j, d, h3, h4, h5, _⟩
    · exact Nat.lt_of_lt_of_le (r.lt i m rw c h3 h4 hl) f.size
    · exact r'.lt j m rw d h3 h4 (hl.imp id fun ⟨p, x, hx⟩ => (h5.2 p x hx).elim fun y hy => ⟨p, y, hy.1⟩)
  · intro i i' m n c rw d hne h1 h2 h3 h4 hl
    have where_ : ∀ (j : Nat) (m : M) (c : C), ((pick μ ids).l ++ ν)[j]? = some m → g'[j]? = some (.at true c) → Wr (pick μ ids) g m.blk ∨ w.heap.size ≤ m.blk := by
      intro j m c hj hb
      by_cases hlt : j < ids.length
      · obtain ⟨d, hd, _⟩ := hold j true c hlt hb
        rw [List.getElem?_append_left (by omega)] at hj
        exact .inl ⟨j, m, d, hj, hd, rfl⟩
      · exact (hnew j m true c (by omega) hj hb).2
    rcases cases3 i m true c h1 h3 with ⟨_, hm, a1, a2⟩ | ⟨j, c', a1, a2, _, aj⟩
    · rcases cases3 i' n rw d h2 h4 with ⟨_, hm', b1, b2⟩ | ⟨j', d', b1, b2, b5, bj⟩
      · exact r.sep i i' m n c rw d hne a1 b1 a2 b2 hl
      · -- m an old block, n one of the called function's
        rcases bj with ⟨hlt, hj'⟩ | ⟨hge, _⟩
        · rw [List.getElem?_append_left (by omega)] at b1
          have hi' := getElem?_lt hj'
          have hμi : i' < μ.l.length := by rw [hμ]; exact hidlt i' (List.mem_of_getElem? hj')
          have hp := (pick_sub μ ids).2 j' i' _ hj' (List.getElem?_eq_getElem hμi)
          rw [hp] at b1
          cases b1
          obtain ⟨y, hy, hy'⟩ := optMap_get e j' i' hj'
          obtain ⟨d2, hd2, hl2⟩ := hold j' rw d' hlt b2
          rw [hd2] at hy'
          cases hy'
          obtain ⟨c2, hh, _, hc2⟩ := renAt_at hy
          have hl3 := hl2 (hl.imp id fun ⟨p, x, hx⟩ => (b5.2 p x hx).elim fun y hy => ⟨p, y, hy.1⟩)
          exact r.sep i i' m _ c rw c2 hne a1 (List.getElem?_eq_getElem hμi) a2 hh (hl3.imp id fun ⟨p, x, hx⟩ => (hc2 p x hx).elim fun y hy => ⟨p, y, hy.1⟩)
        · have h5 := (hnew j' n rw d' hge b1 b2).2
          rcases h5 with h5 | h5
          · intro e'
            rw [← e'] at h5
            exact apart i m true c hm a1 a2 (.inl rfl) h5
          · have := r.lt i m true c a1 a2 (.inl rfl)
            omega
    · rcases cases3 i' n rw d h2 h4 with ⟨_, hm', b1, b2⟩ | ⟨j', d', b1, b2, b5, bj⟩
      · rcases where_ j m c' a1 a2 with h5 | h5
        · intro e'
          rw [e'] at h5
          exact apart i' n rw d hm' b1 b2 hl h5
        · have := r.lt i' n rw d b1 b2 hl
          omega
      · refine r'.sep j j' m n c' rw d' ?_ a1 b1 a2 b2 (hl.imp id fun ⟨p, x, hx⟩ => (b5.2 p x hx).elim fun y hy => ⟨p, y, hy.1⟩)
        intro e'
        subst e'
        rcases aj with ⟨x1, x2⟩ | ⟨x1, x2⟩ <;> rcases bj with ⟨y1, y2⟩ | ⟨y1, y2⟩
        · rw [x2] at y2; cases y2; exact hne rfl
        · omega
        · omega
        · omega
  · intro k cur hk
    obtain ⟨h1, h2⟩ := r'.fz k cur hk
    refine ⟨h1, fun i m c h3 h4 => ?_⟩
    rcases cases3 i m true c h3 h4 with ⟨_, hm, a1, a2⟩ | ⟨j, d, a1, a2, _, _⟩
    · rcases hz k cur hk with h5 | h5 | h5
      · exact (r.fz k cur h5).2 i m c a1 a2
      · intro e'
        rw [← e'] at h5
        exact apart i m true c hm a1 a2 (.inl rfl) h5
      · have := r.lt i m true c a1 a2 (.inl rfl)
        omega
    · exact h2 j m d a1 a2
end Go.Proofs.Ytpeplbbphpamhaa.Ab

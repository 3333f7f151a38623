/- A reflective evaluator over the code of a program, and the proof that what it finds is what the machine of the model does. It asks of the program what ProgOK says; nothing of a law is said here. -/
import Derived.Test.YtmcipmgcmbbbcaaGreatDoorW00
import Derived.RangeFuncLeaves
import Derived.OrdersIn
import Derived.RecoverIn
import Derived.Laws.World
import Derived.Laws.Sem
import Derived.Laws.Entries
import Derived.Laws.Cells
import Derived.Laws.Strings
import Derived.ChangeKeysEq
import Derived.Laws.BytesString
/-! What is found to be the same is the same. -/
namespace Go.Sw
open Go

theorem and_true' {a b : Bool} (h : (a && b) = true) : a = true ∧ b = true := by simpa using h

mutual
theorem eqA_eq : ∀ (x y : AV), eqA x y = true → x = y
  | .bool a, y, h => by cases y <;> simp_all [eqA]
  | .int k a, y, h => by cases y <;> simp_all [eqA]
  | .str a, y, h => by cases y <;> simp_all [eqA]
  | .list l, y, h => by
    cases y <;> first | (simp [eqA] at h; done) | skip
    rename_i m
    simp only [eqA] at h
    rw [eqAs_eq l m h]
  | .ref r o, y, h => by
    cases y <;> first | (simp [eqA] at h; done) | skip
    simp only [eqA] at h
    obtain ⟨h1, h2⟩ := and_true' h
    rw [Nat.eq_of_beq_eq_true h1, Nat.eq_of_beq_eq_true h2]
  | .nilp, y, h => by cases y <;> simp_all [eqA]
  | .map r, y, h => by
    cases y <;> first | (simp [eqA] at h; done) | skip
    simp only [eqA] at h
    rw [Nat.eq_of_beq_eq_true h]
  | .nilmap, y, h => by cases y <;> simp_all [eqA]
  | .func f l, y, h => by
    cases y <;> first | (simp [eqA] at h; done) | skip
    rename_i m
    simp only [eqA] at h
    obtain ⟨h1, h2⟩ := and_true' h
    rw [Nat.eq_of_beq_eq_true h1, eqAs_eq l m h2]
  | .meth f l, y, h => by
    cases y <;> first | (simp [eqA] at h; done) | skip
    rename_i m
    simp only [eqA] at h
    obtain ⟨h1, h2⟩ := and_true' h
    rw [Nat.eq_of_beq_eq_true h1, eqAs_eq l m h2]
  | .yield r, y, h => by
    cases y <;> first | (simp [eqA] at h; done) | skip
    simp only [eqA] at h
    rw [Nat.eq_of_beq_eq_true h]
  | .nilf, y, h => by cases y <;> simp_all [eqA]
  | .iface t x, y, h => by
    cases y <;> first | (simp [eqA] at h; done) | skip
    rename_i y'
    simp only [eqA] at h
    obtain ⟨h1, h2⟩ := and_true' h
    rw [Nat.eq_of_beq_eq_true h1, eqA_eq x y' h2]
  | .nili, y, h => by cases y <;> simp_all [eqA]
  | .agg l, y, h => by
    cases y <;> first | (simp [eqA] at h; done) | skip
    rename_i m
    simp only [eqA] at h
    rw [eqAs_eq l m h]
  | .nils, y, h => by cases y <;> simp_all [eqA]
  | .hsl a b c d e, y, h => by
    cases y <;> first | (simp [eqA] at h; done) | skip
    simp only [eqA] at h
    obtain ⟨h, h5⟩ := and_true' h
    obtain ⟨h, h4⟩ := and_true' h
    obtain ⟨h, h3⟩ := and_true' h
    obtain ⟨h1, h2⟩ := and_true' h
    rw [Nat.eq_of_beq_eq_true h1, Nat.eq_of_beq_eq_true h2, Nat.eq_of_beq_eq_true h3, Nat.eq_of_beq_eq_true h4, Nat.eq_of_beq_eq_true h5]
theorem eqAs_eq : ∀ (l m : List AV), eqAs l m = true → l = m
  | [], [], _ => rfl
  | [], _ :: _, h => by simp [eqAs] at h
  | _ :: _, [], h => by simp [eqAs] at h
  | x :: l, y :: m, h => by
    simp only [eqAs] at h
    obtain ⟨h1, h2⟩ := and_true' h
    rw [eqA_eq x y h1, eqAs_eq l m h2]
end

mutual
theorem eqS_eq : ∀ (x y : Slot), eqS x y = true → x = y
  | .undef, y, h => by cases y <;> simp_all [eqS]
  | .skip, y, h => by cases y <;> simp_all [eqS]
  | .v a, y, h => by
    cases y <;> first | (simp [eqS] at h; done) | skip
    simp only [eqS] at h
    rw [eqA_eq _ _ h]
  | .nil0, y, h => by cases y <;> simp_all [eqS]
  | .own s l, y, h => by
    cases y <;> first | (simp [eqS] at h; done) | skip
    simp only [eqS] at h
    obtain ⟨h1, h2⟩ := and_true' h
    rw [Nat.eq_of_beq_eq_true h1, eqAs_eq _ _ h2]
  | .loc s o, y, h => by
    cases y <;> first | (simp [eqS] at h; done) | skip
    simp only [eqS] at h
    obtain ⟨h1, h2⟩ := and_true' h
    rw [Nat.eq_of_beq_eq_true h1, Nat.eq_of_beq_eq_true h2]
  | .imm l, y, h => by
    cases y <;> first | (simp [eqS] at h; done) | skip
    simp only [eqS] at h
    rw [eqAs_eq _ _ h]
  | .er a b c d, y, h => by
    cases y <;> first | (simp [eqS] at h; done) | skip
    simp only [eqS] at h
    obtain ⟨h, h4⟩ := and_true' h
    obtain ⟨h, h3⟩ := and_true' h
    obtain ⟨h1, h2⟩ := and_true' h
    rw [Nat.eq_of_beq_eq_true h1, Nat.eq_of_beq_eq_true h2, Nat.eq_of_beq_eq_true h3, Nat.eq_of_beq_eq_true h4]
  | .it s p, y, h => by
    cases y <;> first | (simp [eqS] at h; done) | skip
    simp only [eqS] at h
    obtain ⟨h1, h2⟩ := and_true' h
    rw [eq_of_beq h1, Nat.eq_of_beq_eq_true h2]
  | .coin, y, h => by cases y <;> simp_all [eqS]
  | .agg l, y, h => by
    cases y <;> first | (simp [eqS] at h; done) | skip
    simp only [eqS] at h
    rw [eqSs_eq l _ h]
  | .tup l, y, h => by
    cases y <;> first | (simp [eqS] at h; done) | skip
    simp only [eqS] at h
    rw [eqSs_eq l _ h]
theorem eqSs_eq : ∀ (l m : List Slot), eqSs l m = true → l = m
  | [], [], _ => rfl
  | [], _ :: _, h => by simp [eqSs] at h
  | _ :: _, [], h => by simp [eqSs] at h
  | x :: l, y :: m, h => by
    simp only [eqSs] at h
    obtain ⟨h1, h2⟩ := and_true' h
    rw [eqS_eq x y h1, eqSs_eq l m h2]
end

theorem eqM_eq : ∀ (l m : List (AV × Slot)), eqM l m = true → l = m
  | [], [], _ => rfl
  | [], _ :: _, h => by simp [eqM] at h
  | _ :: _, [], h => by simp [eqM] at h
  | (x, s) :: l, (y, t) :: m, h => by
    simp only [eqM] at h
    obtain ⟨h, h3⟩ := and_true' h
    obtain ⟨h1, h2⟩ := and_true' h
    rw [eqA_eq x y h1, eqS_eq s t h2, eqM_eq l m h3]

theorem eqH_eq (x y : HO) (h : eqH x y = true) : x = y := by
  cases x <;> cases y <;> first | (simp [eqH] at h; done) | rfl | skip
  · simp only [eqH] at h; rw [eqSs_eq _ _ h]
  · simp only [eqH] at h; rw [eqM_eq _ _ h]
  · simp only [eqH] at h
    obtain ⟨h, h3⟩ := and_true' h
    obtain ⟨h1, h2⟩ := and_true' h
    rw [Nat.eq_of_beq_eq_true h1, Nat.eq_of_beq_eq_true h2, eqAs_eq _ _ h3]

theorem eqHs_eq : ∀ (l m : List HO), eqHs l m = true → l = m
  | [], [], _ => rfl
  | [], _ :: _, h => by simp [eqHs] at h
  | _ :: _, [], h => by simp [eqHs] at h
  | x :: l, y :: m, h => by
    simp only [eqHs] at h
    obtain ⟨h1, h2⟩ := and_true' h
    rw [eqH_eq x y h1, eqHs_eq l m h2]

theorem eqL_eq : ∀ (l m : List (Nat × List Slot)), eqL l m = true → l = m
  | [], [], _ => rfl
  | [], _ :: _, h => by simp [eqL] at h
  | _ :: _, [], h => by simp [eqL] at h
  | (a, s) :: l, (b, t) :: m, h => by
    simp only [eqL] at h
    obtain ⟨h, h3⟩ := and_true' h
    obtain ⟨h1, h2⟩ := and_true' h
    rw [Nat.eq_of_beq_eq_true h1, eqSs_eq s t h2, eqL_eq l m h3]

theorem eqD_eq : ∀ (l m : List Dfr), eqD l m = true → l = m
  | [], [], _ => rfl
  | [], _ :: _, h => by simp [eqD] at h
  | x :: _, [], h => by cases x <;> simp [eqD] at h
  | .mark :: l, .mark :: m, h => by
    simp only [eqD] at h
    rw [eqD_eq l m h]
  | .clo _ _ :: _, .mark :: _, h => by simp [eqD] at h
  | .mark :: _, .clo _ _ :: _, h => by simp [eqD] at h
  | .clo f l :: r, .clo g m :: q, h => by
    simp only [eqD] at h
    obtain ⟨h, h3⟩ := and_true' h
    obtain ⟨h1, h2⟩ := and_true' h
    rw [Nat.eq_of_beq_eq_true h1, eqAs_eq l m h2, eqD_eq r q h3]
end Go.Sw
/-! What the evaluator's values are in the model's memory. -/
namespace Go.Sw
open Go

/-- The ghost of memory: what cells that do not change may be seen as; where heap objects lie; where rows lie, the cells of an element, the room. -/
structure Gh where
  im : Nat → Nat → AV → Prop
  rf : Nat → Option Nat
  rw : Nat → Nat → Option (Nat × Nat × Nat)

mutual
def VR (g : Gh) : AV → Value → Prop
  | .bool b, v => v = .bool b
  | .int k n, v => v = .int k n
  | .str s, v => ∃ b : ByteArray, v = .string b ∧ b.data.toList = s
  | .list l, v => ∃ p c, v = .slice p l.length c ∧ l.length ≤ c ∧ (l = [] ∨ ∃ B off sz, p = some ⟨B, off, none⟩ ∧
      ∀ i x, l[i]? = some x → (cellsOfAV x).length = sz ∧ ∀ j y, (cellsOfAV x)[j]? = some y → g.im B (off + (i * sz + j)) y)
  | .ref r off, v => ∃ B, g.rf r = some B ∧ v = .pointer (some ⟨B, off, none⟩)
  | .nilp, v => v = .pointer none
  | .map r, v => ∃ B, g.rf r = some B ∧ v = .map (some B)
  | .nilmap, v => v = .map none
  | .func f cap, v => ∃ vs, v = .func (.func f) #[] vs ∧ VRs g cap vs.toList
  | .meth f fs, v => ∃ vs, v = .func (.func f) vs #[] ∧ VRs g fs vs.toList
  | .yield l, v => ∃ B, g.rf l = some B ∧ v = .func (.yield B) #[] #[]
  | .nilf, v => v = .nilFunc
  | .iface t x, v => ∃ y, v = .iface t y ∧ VR g x y
  | .nili, v => v = .nilIface
  | .agg cs, v => ∃ vs, v = .agg vs ∧ VRs g cs vs.toList
  | .nils, v => v = .slice none 0 0
  | .hsl r ver sz off len, v => ∃ B C c, g.rw r ver = some (B, sz, C) ∧ v = .slice (some ⟨B, off * sz, none⟩) len c ∧ off + c ≤ C ∧ len ≤ c
def VRs (g : Gh) : List AV → List Value → Prop
  | [], vs => vs = []
  | x :: l, vs => ∃ v vs', vs = v :: vs' ∧ VR g x v ∧ VRs g l vs'
end

structure Gh.le (g g' : Gh) : Prop where
  im : ∀ B o y, g.im B o y → g'.im B o y
  rf : ∀ r B, g.rf r = some B → g'.rf r = some B
  rw : ∀ r ver x, g.rw r ver = some x → g'.rw r ver = some x

theorem Gh.le.refl (g : Gh) : g.le g := ⟨fun _ _ _ h => h, fun _ _ h => h, fun _ _ _ h => h⟩
theorem Gh.le.trans {a b c : Gh} (h : a.le b) (k : b.le c) : a.le c :=
  ⟨fun _ _ _ x => k.im _ _ _ (h.im _ _ _ x), fun _ _ x => k.rf _ _ (h.rf _ _ x), fun _ _ _ x => k.rw _ _ _ (h.rw _ _ _ x)⟩

mutual
theorem VR.mono {g g' : Gh} (h : g.le g') : ∀ (x : AV) (v : Value), VR g x v → VR g' x v
  | .bool _, _, e => e
  | .int _ _, _, e => e
  | .str _, _, e => e
  | .list l, v, e => by
    obtain ⟨p, c, e1, e2, e3⟩ := e
    refine ⟨p, c, e1, e2, e3.imp id ?_⟩
    rintro ⟨B, off, sz, e4, e5⟩
    exact ⟨B, off, sz, e4, fun i x hx => ⟨(e5 i x hx).1, fun j y hy => h.im _ _ _ ((e5 i x hx).2 j y hy)⟩⟩
  | .ref _ _, _, ⟨B, a, b⟩ => ⟨B, h.rf _ _ a, b⟩
  | .nilp, _, e => e
  | .map _, _, ⟨B, a, b⟩ => ⟨B, h.rf _ _ a, b⟩
  | .nilmap, _, e => e
  | .func _ cap, _, ⟨vs, a, b⟩ => ⟨vs, a, VRs.mono h cap _ b⟩
  | .meth _ fs, _, ⟨vs, a, b⟩ => ⟨vs, a, VRs.mono h fs _ b⟩
  | .yield _, _, ⟨B, a, b⟩ => ⟨B, h.rf _ _ a, b⟩
  | .nilf, _, e => e
  | .iface _ x, _, ⟨y, a, b⟩ => ⟨y, a, VR.mono h x _ b⟩
  | .nili, _, e => e
  | .agg cs, _, ⟨vs, a, b⟩ => ⟨vs, a, VRs.mono h cs _ b⟩
  | .nils, _, e => e
  | .hsl _ _ _ _ _, _, ⟨B, C, c, a, b⟩ => ⟨B, C, c, h.rw _ _ _ a, b⟩
theorem VRs.mono {g g' : Gh} (h : g.le g') : ∀ (l : List AV) (vs : List Value), VRs g l vs → VRs g' l vs
  | [], _, e => e
  | x :: l, _, ⟨v, vs', a, b, c⟩ => ⟨v, vs', a, VR.mono h x v b, VRs.mono h l vs' c⟩
end

/-- Who holds a block. -/
inductive Root where
  | tmp (t : Nat)
  | site (s : Nat)
  | cell (s o : Nat)
  | hobj (r : Nat)
  | hcell (r o : Nat)
  | ret
  | dfr
  | ctx
  deriving DecidableEq

structure Hold where
  root : Root
  path : List Nat
  deriving DecidableEq

abbrev Ow := Nat → Option Hold

/-- A row of cells that nothing else shares. -/
def Blk (w : World) (B : Nat) (arr : Array Value) : Prop := ∃ elem, w.heap[B]? = some (.cells arr elem (0, 0))

/-- a cell holds one value. -/
def Cell1 (v : Value) : Prop := v.oneCell' = true

/-- A slice that a place alone may append to. -/
def OwnB (w : World) (g : Gh) (B sz : Nat) (l : List AV) (cap : Nat) : Prop :=
  l.length ≤ cap ∧ (∃ arr, Blk w B arr ∧ cap * sz ≤ arr.size) ∧
  (∀ i x, l[i]? = some x → (cellsOfAV x).length = sz ∧ ∀ j y, (cellsOfAV x)[j]? = some y → g.im B (i * sz + j) y) ∧
  (∀ o y, l.length * sz ≤ o → ¬ g.im B o y)

mutual
def SR (w : World) (g : Gh) (sv : Nat → Option Nat) (ow : Ow) (h : Hold) : Slot → Value → Prop
  | .undef, _ => True
  | .skip, v => v = Go.undef
  | .v x, v => VR g x v
  | .nil0, v => v = .slice none 0 0
  | .coin, v => ∃ b, v = .bool b
  | .own sz l, v => (l = [] ∧ ∃ p, v = .slice p 0 0) ∨ ∃ B cap, v = .slice (some ⟨B, 0, none⟩) l.length cap ∧ ow B = some h ∧ OwnB w g B sz l cap
  | .loc s off, v => ∃ B, sv s = some B ∧ v = .pointer (some ⟨B, off, none⟩)
  | .imm cs, v => ∃ B off, v = .pointer (some ⟨B, off, none⟩) ∧ ∀ j y, cs[j]? = some y → g.im B (off + j) y
  | .er r ver i j, v => ∃ B sz C, g.rw r ver = some (B, sz, C) ∧ v = .pointer (some ⟨B, i * sz + j, none⟩)
  | .it s pos, v => ∃ B b, v = .pointer (some ⟨B, 0, none⟩) ∧ ow B = some h ∧ w.heap[B]? = some (.stringIter b pos) ∧ b.data.toList = s
  | .agg cs, v => ∃ vs, v = .agg vs ∧ SRs w g sv ow h 0 cs vs.toList
  | .tup cs, v => ∃ vs, v = .tuple vs ∧ SRs w g sv ow h 0 cs vs.toList
def SRs (w : World) (g : Gh) (sv : Nat → Option Nat) (ow : Ow) (h : Hold) (i : Nat) : List Slot → List Value → Prop
  | [], vs => vs = []
  | s :: l, vs => ∃ v vs', vs = v :: vs' ∧ SR w g sv ow ⟨h.root, i :: h.path⟩ s v ∧ SRs w g sv ow h (i + 1) l vs'
end

/-- What lies under a root is as it was. -/
structure Keep (root root' : Root) (w : World) (g : Gh) (sv : Nat → Option Nat) (ow : Ow) (w' : World) (g' : Gh) (sv' : Nat → Option Nat) (ow' : Ow) : Prop where
  le : g.le g'
  sv : ∀ s B, sv s = some B → sv' s = some B
  ow : ∀ B p, ow B = some ⟨root, p⟩ → ow' B = some ⟨root', p⟩ ∧ w'.heap[B]? = w.heap[B]? ∧ ∀ o y, g'.im B o y → g.im B o y

theorem OwnB.keep {w w' : World} {g g' : Gh} {B sz : Nat} {l : List AV} {cap : Nat} (hle : g.le g') (hw : w'.heap[B]? = w.heap[B]?)
    (hi : ∀ o y, g'.im B o y → g.im B o y) (h : OwnB w g B sz l cap) : OwnB w' g' B sz l cap := by
  obtain ⟨h1, ⟨arr, ⟨elem, h2⟩, h3⟩, h4, h5⟩ := h
  exact ⟨h1, ⟨arr, ⟨elem, hw.trans h2⟩, h3⟩, fun i x hx => ⟨(h4 i x hx).1, fun j y hy => hle.im _ _ _ ((h4 i x hx).2 j y hy)⟩, fun o y ho hy => h5 o y ho (hi _ _ hy)⟩

section
variable {root root' : Root} {w w' : World} {g g' : Gh} {sv sv' : Nat → Option Nat} {ow ow' : Ow}

mutual
theorem SR.keep (k : Keep root root' w g sv ow w' g' sv' ow') : ∀ (s : Slot) (p : List Nat) (v : Value), SR w g sv ow ⟨root, p⟩ s v → SR w' g' sv' ow' ⟨root', p⟩ s v
  | .undef, _, _, _ => trivial
  | .skip, _, _, e => e
  | .v x, _, v, e => VR.mono k.le x v e
  | .nil0, _, _, e => e
  | .coin, _, _, e => e
  | .own sz l, p, v, e => by
    rcases e with e | ⟨B, cap, e1, e2, e3⟩
    · exact .inl e
    · obtain ⟨a, b, c⟩ := k.ow B p e2
      exact .inr ⟨B, cap, e1, a, e3.keep k.le b c⟩
  | .loc s off, _, v, ⟨B, a, b⟩ => ⟨B, k.sv _ _ a, b⟩
  | .imm cs, _, v, ⟨B, off, a, b⟩ => ⟨B, off, a, fun j y hy => k.le.im _ _ _ (b j y hy)⟩
  | .er r ver i j, _, v, ⟨B, sz, C, a, b⟩ => ⟨B, sz, C, k.le.rw _ _ _ a, b⟩
  | .it s pos, p, v, ⟨B, b, e1, e2, e3, e4⟩ => ⟨B, b, e1, (k.ow B p e2).1, (k.ow B p e2).2.1.trans e3, e4⟩
  | .agg cs, p, v, ⟨vs, a, b⟩ => ⟨vs, a, SRs.keep k cs 0 p vs.toList b⟩
  | .tup cs, p, v, ⟨vs, a, b⟩ => ⟨vs, a, SRs.keep k cs 0 p vs.toList b⟩
theorem SRs.keep (k : Keep root root' w g sv ow w' g' sv' ow') : ∀ (l : List Slot) (i : Nat) (p : List Nat) (vs : List Value), SRs w g sv ow ⟨root, p⟩ i l vs → SRs w' g' sv' ow' ⟨root', p⟩ i l vs
  | [], _, _, _, e => e
  | s :: l, i, p, _, ⟨v, vs', a, b, c⟩ => ⟨v, vs', a, SR.keep k s (i :: p) v b, SRs.keep k l (i + 1) p vs' c⟩
end

/-- What a holder holds comes to another one. -/
structure KeepH (h h' : Hold) (w : World) (g : Gh) (sv : Nat → Option Nat) (ow : Ow) (w' : World) (g' : Gh) (sv' : Nat → Option Nat) (ow' : Ow) : Prop where
  le : g.le g'
  sv : ∀ s B, sv s = some B → sv' s = some B
  ow : ∀ B q, ow B = some ⟨h.root, q ++ h.path⟩ → ow' B = some ⟨h'.root, q ++ h'.path⟩ ∧ w'.heap[B]? = w.heap[B]? ∧ ∀ o y, g'.im B o y → g.im B o y

theorem KeepH.sub {h h' : Hold} (k : KeepH h h' w g sv ow w' g' sv' ow') (i : Nat) : KeepH ⟨h.root, i :: h.path⟩ ⟨h'.root, i :: h'.path⟩ w g sv ow w' g' sv' ow' :=
  ⟨k.le, k.sv, fun B q hB => by simpa using k.ow B (q ++ [i]) (by simpa using hB)⟩

mutual
theorem SR.keepH : ∀ (s : Slot) (h h' : Hold) (v : Value), KeepH h h' w g sv ow w' g' sv' ow' → SR w g sv ow h s v → SR w' g' sv' ow' h' s v
  | .undef, _, _, _, _, _ => trivial
  | .skip, _, _, _, _, e => e
  | .v x, _, _, v, k, e => VR.mono k.le x v e
  | .nil0, _, _, _, _, e => e
  | .coin, _, _, _, _, e => e
  | .own sz l, _, _, v, k, e => by
    rcases e with e | ⟨B, cap, e1, e2, e3⟩
    · exact .inl e
    · obtain ⟨a, b, c⟩ := k.ow B [] e2
      exact .inr ⟨B, cap, e1, a, e3.keep k.le b c⟩
  | .loc s off, _, _, v, k, ⟨B, a, b⟩ => ⟨B, k.sv _ _ a, b⟩
  | .imm cs, _, _, v, k, ⟨B, off, a, b⟩ => ⟨B, off, a, fun j y hy => k.le.im _ _ _ (b j y hy)⟩
  | .er r ver i j, _, _, v, k, ⟨B, sz, C, a, b⟩ => ⟨B, sz, C, k.le.rw _ _ _ a, b⟩
  | .it s pos, _, _, v, k, ⟨B, b, e1, e2, e3, e4⟩ => ⟨B, b, e1, (k.ow B [] e2).1, (k.ow B [] e2).2.1.trans e3, e4⟩
  | .agg cs, _, _, v, k, ⟨vs, a, b⟩ => ⟨vs, a, SRs.keepH cs 0 _ _ vs.toList k b⟩
  | .tup cs, _, _, v, k, ⟨vs, a, b⟩ => ⟨vs, a, SRs.keepH cs 0 _ _ vs.toList k b⟩
theorem SRs.keepH : ∀ (l : List Slot) (i : Nat) (h h' : Hold) (vs : List Value), KeepH h h' w g sv ow w' g' sv' ow' → SRs w g sv ow h i l vs → SRs w' g' sv' ow' h' i l vs
  | [], _, _, _, _, _, e => e
  | s :: l, i, _, _, _, k, ⟨v, vs', a, b, c⟩ => ⟨v, vs', a, SR.keepH s _ _ v (k.sub i) b, SRs.keepH l (i + 1) _ _ vs' k c⟩
end

theorem VR.own {B sz cap : Nat} {l : List AV} (h : OwnB w g B sz l cap) : VR g (.list l) (.slice (some ⟨B, 0, none⟩) l.length cap) :=
  ⟨_, _, rfl, h.1, .inr ⟨B, 0, sz, rfl, fun i x hx => ⟨(h.2.2.1 i x hx).1, fun j y hy => by simpa using (h.2.2.1 i x hx).2 j y hy⟩⟩⟩

theorem VR.nil {p : Option Addr} : VR g (.list []) (.slice p 0 0) := ⟨p, 0, rfl, Nat.le_refl _, .inl rfl⟩

mutual
/-- what is a copy for others wants nothing. -/
theorem SR.view {h h' : Hold} (hle : g.le g') (hsv : ∀ s B, sv s = some B → sv' s = some B) : ∀ (s : Slot) (v : Value), SR w g sv ow h s v → SR w' g' sv' ow' h' (view s) v
  | .undef, _, _ => trivial
  | .skip, _, e => e
  | .v x, v, e => VR.mono hle x v e
  | .nil0, _, e => e
  | .coin, _, e => e
  | .own sz l, v, e => by
    rcases e with ⟨rfl, p, rfl⟩ | ⟨B, cap, rfl, _, e3⟩
    · exact VR.nil
    · exact VR.mono hle (.list l) _ (VR.own e3)
  | .loc s off, v, ⟨B, a, b⟩ => ⟨B, hsv _ _ a, b⟩
  | .imm cs, v, ⟨B, off, a, b⟩ => ⟨B, off, a, fun j y hy => hle.im _ _ _ (b j y hy)⟩
  | .er r ver i j, v, ⟨B, sz, C, a, b⟩ => ⟨B, sz, C, hle.rw _ _ _ a, b⟩
  | .it s pos, v, _ => trivial
  | .agg cs, v, ⟨vs, a, b⟩ => ⟨vs, a, SRs.view hle hsv cs 0 0 vs.toList b⟩
  | .tup cs, v, ⟨vs, a, b⟩ => ⟨vs, a, SRs.view hle hsv cs 0 0 vs.toList b⟩
theorem SRs.view {h h' : Hold} (hle : g.le g') (hsv : ∀ s B, sv s = some B → sv' s = some B) : ∀ (l : List Slot) (i j : Nat) (vs : List Value), SRs w g sv ow h i l vs → SRs w' g' sv' ow' h' j (views l) vs
  | [], _, _, _, e => e
  | s :: l, i, j, _, ⟨v, vs', a, b, c⟩ => ⟨v, vs', a, SR.view hle hsv s v b, SRs.view hle hsv l (i + 1) (j + 1) vs' c⟩
end

mutual
theorem SR.toAV {h : Hold} : ∀ (s : Slot) (v : Value) (x : AV), SR w g sv ow h s v → toAV s = some x → VR g x v
  | .undef, _, _, _, e => by cases e
  | .skip, _, _, _, e => by cases e
  | .v x, _, _, a, e => by cases e; exact a
  | .nil0, _, _, a, e => by cases e; subst a; exact VR.nil
  | .coin, _, _, _, e => by cases e
  | .own sz l, _, _, a, e => by
    cases e
    rcases a with ⟨rfl, p, rfl⟩ | ⟨B, cap, rfl, _, e3⟩
    · exact VR.nil
    · exact VR.own e3
  | .loc _ _, _, _, _, e => by cases e
  | .imm _, _, _, _, e => by cases e
  | .er _ _ _ _, _, _, _, e => by cases e
  | .it _ _, _, _, _, e => by cases e
  | .agg cs, v, x, ⟨vs, a, b⟩, e => by
    simp only [Sw.toAV] at e
    split at e
    · rename_i xs hxs; cases e; exact ⟨vs, a, SRs.toAV cs 0 vs.toList xs b hxs⟩
    · cases e
  | .tup _, _, _, _, e => by cases e
theorem SRs.toAV {h : Hold} : ∀ (l : List Slot) (i : Nat) (vs : List Value) (xs : List AV), SRs w g sv ow h i l vs → toAVs l = some xs → VRs g xs vs
  | [], _, _, _, a, e => by cases e; exact a
  | s :: l, i, vs, xs, ⟨v, vs', a, b, c⟩, e => by
    simp only [toAVs] at e
    split at e
    · rename_i x hx
      split at e
      · rename_i ys hys; cases e; exact ⟨v, vs', a, SR.toAV s v x b hx, SRs.toAV l (i + 1) vs' ys c hys⟩
      · cases e
    · cases e
end

end
end Go.Sw
/-! A frame's state, and the model's. -/
namespace Go.Sw
open Go

mutual
def noLoc : Slot → Bool
  | .loc _ _ => false
  | .agg cs => noLocs cs
  | .tup cs => noLocs cs
  | _ => true
def noLocs : List Slot → Bool
  | [] => true
  | s :: l => noLoc s && noLocs l
end

def GCons (w : World) (g : Gh) : Prop := ∀ B o y, g.im B o y → ∃ v, w.cell? ⟨B, o, none⟩ = some v ∧ VR g y v ∧ Cell1 v

/-- A row of cells that hold slots. -/
def CellsR (w : World) (g : Gh) (sv : Nat → Option Nat) (ow : Ow) (root : Nat → Root) (cs : List Slot) (arr : Array Value) : Prop :=
  arr.size = cs.length ∧ ∀ o c, cs[o]? = some c → plainCell c = true ∧ ∃ v, arr[o]? = some v ∧ Cell1 v ∧ SR w g sv ow ⟨root o, []⟩ c v

/-- A box of the frame. -/
def LR (w : World) (g : Gh) (sv : Nat → Option Nat) (ow : Ow) (s : Nat) (cs : List Slot) : Prop :=
  ∃ B arr, sv s = some B ∧ ow B = some ⟨.site s, []⟩ ∧ Blk w B arr ∧ (∀ o y, ¬ g.im B o y) ∧ CellsR w g sv ow (.cell s) cs arr

def getA (ts : List (Nat × AV)) (t : Nat) : Option AV :=
  match ts with
  | [] => none
  | (k, x) :: l => match Nat.beq k t with | true => some x | false => getA l t

def LoopR (g : Gh) (L : LoopO) (lo : Loop) : Prop :=
  (lo.fn < nFuncs ∧ codeOkB lo.tmps.size L.assign = true ∧ codeOkB lo.tmps.size L.body = true ∧ ∀ p ∈ L.params, p < lo.tmps.size) ∧ lo.params.toList = L.params ∧ lo.assign = L.assign ∧ lo.body = L.body ∧ lo.pending = L.pending ∧
  (lo.state = match L.state with | 0 => .ready | 1 => .busy | _ => .done) ∧ ∀ t x, getA L.tmps t = some x → VR g x (lo.tmps.getD t undef)

/-- The entries of a map. -/
def MapR (w : World) (g : Gh) (ow : Ow) (r : Nat) : Nat → List (AV × Slot) → List MapEntry → Prop
  | _, [], es => es = []
  | i, (k, s) :: l, es => ∃ e es', es = e :: es' ∧ VR g k e.key ∧ SR w g (fun _ => none) ow ⟨.hcell r i, []⟩ s e.val ∧ noLoc s = true ∧ MapR w g ow r (i + 1) l es'

/-- The elements of a row. -/
def RowR (g : Gh) (sz : Nat) (l : List AV) (arr : Array Value) : Prop :=
  ∀ i x, l[i]? = some x → (cellsOfAV x).length = sz ∧ ∀ j y, (cellsOfAV x)[j]? = some y → ∃ v, arr[i * sz + j]? = some v ∧ VR g y v ∧ Cell1 v

/-- An object of the heap. -/
def OR (w : World) (g : Gh) (ow : Ow) (r : Nat) : HO → Prop
  | .cells cs => ∃ B arr, g.rf r = some B ∧ ow B = some ⟨.hobj r, []⟩ ∧ Blk w B arr ∧ (∀ o y, ¬ g.im B o y) ∧ CellsR w g (fun _ => none) ow (.hcell r) cs arr
  | .map es => ∃ B ents clock, g.rf r = some B ∧ ow B = some ⟨.hobj r, []⟩ ∧ w.heap[B]? = some (.map ents clock) ∧ MapR w g ow r 0 es ents.toList
  | .row ver sz l => ∃ B C arr, g.rw r ver = some (B, sz, C) ∧ ow B = some ⟨.hobj r, []⟩ ∧ Blk w B arr ∧ (∀ o y, ¬ g.im B o y) ∧ C * sz ≤ arr.size ∧ l.length ≤ C ∧ RowR g sz l arr ∧
      ∀ v, ver < v → g.rw r v = none
  | .loop L => ∃ B lo, g.rf r = some B ∧ ow B = some ⟨.hobj r, []⟩ ∧ w.heap[B]? = some (.loop lo) ∧ LoopR g L lo
  | .dead => True
  | .busy => True
  | .free => g.rf r = none ∧ ∀ v, g.rw r v = none

structure HR (w : World) (g : Gh) (ow : Ow) (H : Heap) : Prop where
  ob : ∀ r o, H[r]? = some o → OR w g ow r o
  nf : ∀ r, H.length ≤ r → g.rf r = none ∧ ∀ v, g.rw r v = none

/-- Deferred calls. -/
def DR (w : World) (g : Gh) (ow : Ow) : List Dfr → List Deferred → Prop
  | [], ds => ds = []
  | .mark :: l, ds => ∃ r d ds', ds = d :: ds' ∧ d.target = .collected r ∧ w.heap[r]? = some (.deferred (some [])) ∧ ow r = some ⟨.dfr, [r]⟩ ∧ (∀ d' ∈ ds', d'.target ≠ .collected r) ∧ DR w g ow l ds'
  | .clo f cap :: l, ds => ∃ vs ds', ds = { target := .fn (.func f) vs, args := #[] } :: ds' ∧ VRs g cap vs.toList ∧ DR w g ow l ds'

theorem DR.lt {w : World} {g : Gh} {ow : Ow} (bd : ∀ B h, ow B = some h → B < w.heap.size) : ∀ (l : List Dfr) (ds : List Deferred), DR w g ow l ds → ∀ d ∈ ds, ∀ r, d.target = .collected r → r < w.heap.size
  | [], _, h, d, hd, _, _ => by subst h; cases hd
  | .mark :: l, _, ⟨r, d, ds', rfl, b, _, e, _, f⟩, d', hd, r', hr => by
    rcases List.mem_cons.mp hd with rfl | hd
    · rw [b] at hr; cases hr; exact bd _ _ e
    · exact DR.lt bd l ds' f d' hd r' hr
  | .clo _ _ :: l, _, ⟨vs, ds', rfl, _, c⟩, d', hd, r', hr => by
    rcases List.mem_cons.mp hd with rfl | hd
    · cases hr
    · exact DR.lt bd l ds' c d' hd r' hr

/-- pointers to boxes: at the top alone, and to boxes that are there. -/
def lcTop (p : Nat → Prop) : Slot → Prop
  | .loc s _ => p s
  | .agg cs => noLocs cs = true
  | .tup cs => noLocs cs = true
  | _ => True

/-- package variables that do not change. -/
def GV (g : Gh) : Prop := ∀ b cs, globs b = some cs → ∀ (j : Nat) y, cs[j]? = some y → g.im b j y
theorem GV.mono {g g' : Gh} (hle : g.le g') (h : GV g) : GV g' := fun b cs hb j y hy => hle.im _ _ _ (h b cs hb j y hy)

/-- The frame. -/
structure FR (n : Nat) (st : St) (a : Act) (w : World) (g : Gh) (sv : Nat → Option Nat) (ow : Ow) : Prop where
  sz : a.tmps.size = n
  gc : GCons w g
  tm : ∀ t, SR w g sv ow ⟨.tmp t, []⟩ (getT st.tmps t) (a.tmps.getD t undef)
  lk : ∀ t, lcTop (fun s => (assoc s st.locs).isSome = true) (getT st.tmps t)
  lc : ∀ s cs, assoc s st.locs = some cs → LR w g sv ow s cs
  hr : HR w g ow st.heap
  df : DR w g ow st.defs a.defers
  bd : ∀ B h, ow B = some h → B < w.heap.size
  gv : GV g

/-- What may have come to pass. -/
structure Fut (w : World) (g : Gh) (ow : Ow) (w' : World) (g' : Gh) (ow' : Ow) : Prop where
  le : g.le g'
  sz : w.heap.size ≤ w'.heap.size
  cx : ∀ B p, ow B = some ⟨.ctx, p⟩ → ow' B = some ⟨.ctx, p⟩ ∧ w'.heap[B]? = w.heap[B]? ∧ ∀ o y, g'.im B o y → g.im B o y
  tp : w'.tape = w.tape
  os : w'.os = w.os
  ot : w'.output = w.output

theorem Fut.refl (w : World) (g : Gh) (ow : Ow) : Fut w g ow w g ow :=
  ⟨Gh.le.refl g, Nat.le_refl _, fun _ _ h => ⟨h, rfl, fun _ _ h => h⟩, rfl, rfl, rfl⟩
theorem Fut.trans {w w' w'' : World} {g g' g'' : Gh} {ow ow' ow'' : Ow} (h : Fut w g ow w' g' ow') (k : Fut w' g' ow' w'' g'' ow'') : Fut w g ow w'' g'' ow'' :=
  ⟨h.le.trans k.le, Nat.le_trans h.sz k.sz, fun B p hB => by
    obtain ⟨a, b, c⟩ := h.cx B p hB
    obtain ⟨a', b', c'⟩ := k.cx B p a
    exact ⟨a', b'.trans b, fun o y hy => c _ _ (c' _ _ hy)⟩, k.tp.trans h.tp, k.os.trans h.os, k.ot.trans h.ot⟩

/-- everything under some roots is as it was. -/
structure Keeps (p : Root → Prop) (w : World) (g : Gh) (ow : Ow) (w' : World) (g' : Gh) (ow' : Ow) : Prop where
  le : g.le g'
  ow : ∀ B r q, p r → ow B = some ⟨r, q⟩ → ow' B = some ⟨r, q⟩ ∧ w'.heap[B]? = w.heap[B]? ∧ ∀ o y, g'.im B o y → g.im B o y

section
variable {w w' : World} {g g' : Gh} {sv sv' : Nat → Option Nat} {ow ow' : Ow} {p : Root → Prop}

theorem Keeps.keep (k : Keeps p w g ow w' g' ow') {r : Root} (hr : p r) (hsv : ∀ s B, sv s = some B → sv' s = some B) : Keep r r w g sv ow w' g' sv' ow' :=
  ⟨k.le, hsv, fun B q h => k.ow B r q hr h⟩

theorem SR.keeps (k : Keeps p w g ow w' g' ow') {r : Root} (hr : p r) (hsv : ∀ s B, sv s = some B → sv' s = some B) {s : Slot} {q : List Nat} {v : Value}
    (h : SR w g sv ow ⟨r, q⟩ s v) : SR w' g' sv' ow' ⟨r, q⟩ s v := SR.keep (k.keep hr hsv) s q v h

/-- a slot that is no pointer to a box, at the top, knows nothing of boxes. -/
theorem SR.plain_sv {h : Hold} : ∀ {s : Slot} {v : Value}, plainCell s = true → SR w g sv ow h s v → SR w g sv' ow h s v
  | .v _, _, _, e => e
  | .nil0, _, _, e => e
  | .own _ _, _, _, e => e
  | .undef, _, h, _ => by cases h
  | .skip, _, h, _ => by cases h
  | .loc _ _, _, h, _ => by cases h
  | .imm _, _, h, _ => by cases h
  | .er _ _ _ _, _, h, _ => by cases h
  | .it _ _, _, h, _ => by cases h
  | .agg _, _, h, _ => by cases h
  | .tup _, _, h, _ => by cases h

theorem Blk.keeps (k : Keeps p w g ow w' g' ow') {r : Root} (hr : p r) {B : Nat} {q : List Nat} (h : ow B = some ⟨r, q⟩) {arr : Array Value} (hb : Blk w B arr) : Blk w' B arr := by
  obtain ⟨elem, hb⟩ := hb
  exact ⟨elem, (k.ow B r q hr h).2.1.trans hb⟩

theorem CellsR.keeps {root : Nat → Root} {cs : List Slot} {arr : Array Value} (k : Keeps p w g ow w' g' ow') (hr : ∀ o, p (root o))
    (h : CellsR w g sv ow root cs arr) : CellsR w' g' sv' ow' root cs arr :=
  ⟨h.1, fun o c hc => by
    obtain ⟨h1, v, h2, h3, h4⟩ := h.2 o c hc
    exact ⟨h1, v, h2, h3, SR.plain_sv (sv := sv) h1 (SR.keeps k (hr o) (fun _ _ h => h) h4)⟩⟩

theorem LR.keeps {s : Nat} {cs : List Slot} (k : Keeps p w g ow w' g' ow') (h1 : p (.site s)) (h2 : ∀ o, p (.cell s o)) (hsv : ∀ B, sv s = some B → sv' s = some B)
    (h : LR w g sv ow s cs) : LR w' g' sv' ow' s cs := by
  obtain ⟨B, arr, a, b, c, d, e⟩ := h
  exact ⟨B, arr, hsv _ a, (k.ow B _ _ h1 b).1, c.keeps k h1 b, fun o y hy => d o y ((k.ow B _ _ h1 b).2.2 o y hy), e.keeps k h2⟩

theorem MapR.keeps {r : Nat} (k : Keeps p w g ow w' g' ow') (hr : ∀ o, p (.hcell r o)) : ∀ (i : Nat) (l : List (AV × Slot)) (es : List MapEntry), MapR w g ow r i l es → MapR w' g' ow' r i l es
  | _, [], _, h => h
  | i, (_, _) :: l, _, ⟨e, es', a, b, c, nl, d⟩ => ⟨e, es', a, VR.mono k.le _ _ b, SR.keeps k (hr i) (fun _ _ h => h) c, nl, MapR.keeps k hr (i + 1) l es' d⟩

theorem LoopR.mono {L : LoopO} {lo : Loop} (h : g.le g') (a : LoopR g L lo) : LoopR g' L lo :=
  ⟨a.1, a.2.1, a.2.2.1, a.2.2.2.1, a.2.2.2.2.1, a.2.2.2.2.2.1, fun t x hx => VR.mono h _ _ (a.2.2.2.2.2.2 t x hx)⟩

theorem RowR.mono {sz : Nat} {l : List AV} {arr : Array Value} (h : g.le g') (a : RowR g sz l arr) : RowR g' sz l arr :=
  fun i x hx => ⟨(a i x hx).1, fun j y hy => let ⟨v, e1, e2, e3⟩ := (a i x hx).2 j y hy; ⟨v, e1, VR.mono h _ _ e2, e3⟩⟩

theorem OR.keeps {r : Nat} {o : HO} (k : Keeps p w g ow w' g' ow') (h1 : p (.hobj r)) (h2 : ∀ j, p (.hcell r j)) (hrf : ∀ x, g'.rf r = some x → g.rf r = some x) (hrw : ∀ v x, g'.rw r v = some x → g.rw r v = some x)
    (h : OR w g ow r o) : OR w' g' ow' r o := by
  cases o with
  | cells cs =>
    obtain ⟨B, arr, a, b, c, d, e⟩ := h
    exact ⟨B, arr, k.le.rf _ _ a, (k.ow B _ _ h1 b).1, c.keeps k h1 b, fun o y hy => d o y ((k.ow B _ _ h1 b).2.2 o y hy), e.keeps k h2⟩
  | map es =>
    obtain ⟨B, ents, clock, a, b, c, d⟩ := h
    exact ⟨B, ents, clock, k.le.rf _ _ a, (k.ow B _ _ h1 b).1, (k.ow B _ _ h1 b).2.1.trans c, MapR.keeps k h2 _ _ _ d⟩
  | row ver sz l =>
    obtain ⟨B, C, arr, a, b, c, d, e, f, i, j⟩ := h
    refine ⟨B, C, arr, k.le.rw _ _ _ a, (k.ow B _ _ h1 b).1, c.keeps k h1 b, fun o y hy => d o y ((k.ow B _ _ h1 b).2.2 o y hy), e, f, i.mono k.le, fun v hv => ?_⟩
    cases hx : g'.rw r v with
    | none => rfl
    | some x => have := j v hv; rw [hrw v x hx] at this; cases this
  | loop L =>
    obtain ⟨B, lo, a, b, c, d⟩ := h
    exact ⟨B, lo, k.le.rf _ _ a, (k.ow B _ _ h1 b).1, (k.ow B _ _ h1 b).2.1.trans c, d.mono k.le⟩
  | dead => trivial
  | busy => trivial
  | free =>
    refine ⟨?_, fun v => ?_⟩
    · cases hx : g'.rf r with
      | none => rfl
      | some x => have := hrf x hx; rw [h.1] at this; cases this
    · cases hx : g'.rw r v with
      | none => rfl
      | some x => have := hrw v x hx; rw [h.2 v] at this; cases this

theorem DR.keeps (k : Keeps p w g ow w' g' ow') (hr : p .dfr) : ∀ (l : List Dfr) (ds : List Deferred), DR w g ow l ds → DR w' g' ow' l ds
  | [], _, h => h
  | .mark :: l, _, ⟨r, d, ds', a, b, c, e, dd, f⟩ => ⟨r, d, ds', a, b, (k.ow r _ _ hr e).2.1.trans c, (k.ow r _ _ hr e).1, dd, DR.keeps k hr l ds' f⟩
  | .clo _ _ :: l, _, ⟨vs, ds', a, b, c⟩ => ⟨vs, ds', a, VRs.mono k.le _ _ b, DR.keeps k hr l ds' c⟩

end

/-- the holder of what a temporary held is another one; nobody, if none. -/
def reown (f : Root → Option Root) (ow : Ow) : Ow := fun B =>
  match ow B with
  | some h => match f h.root with | some r => some ⟨r, h.path⟩ | none => none
  | none => none

/-- what tmp d holds is given up. -/
def dropTmp (d : Nat) : Root → Option Root
  | .tmp t => if t = d then none else some (.tmp t)
  | r => some r
/-- what tmp x holds comes to tmp d. -/
def moveTmp (x d : Nat) : Root → Option Root
  | .tmp t => if t = x then some (.tmp d) else if t = d then none else some (.tmp t)
  | r => some r

theorem reown_keeps {f : Root → Option Root} {w : World} {g : Gh} {ow : Ow} : Keeps (fun r => f r = some r) w g ow w g (reown f ow) :=
  ⟨Gh.le.refl g, fun B r q hr h => ⟨by simp [reown, h, hr], rfl, fun _ _ h => h⟩⟩

theorem reown_keep {f : Root → Option Root} {r r' : Root} (h : f r = some r') {w : World} {g : Gh} {sv : Nat → Option Nat} {ow : Ow} : Keep r r' w g sv ow w g sv (reown f ow) :=
  ⟨Gh.le.refl g, fun _ _ h => h, fun B q hB => ⟨by simp [reown, hB, h], rfl, fun _ _ h => h⟩⟩

theorem reown_fut {f : Root → Option Root} (h : f .ctx = some .ctx) {w : World} {g : Gh} {ow : Ow} : Fut w g ow w g (reown f ow) :=
  ⟨Gh.le.refl g, Nat.le_refl _, fun B q hB => ⟨by simp [reown, hB, h], rfl, fun _ _ h => h⟩, rfl, rfl, rfl⟩

theorem reown_bd {f : Root → Option Root} {w : World} {ow : Ow} (h : ∀ B h, ow B = some h → B < w.heap.size) : ∀ B k, reown f ow B = some k → B < w.heap.size := by
  intro B k hk
  simp only [reown] at hk
  split at hk
  · rename_i h' e; exact h B h' e
  · cases hk

theorem getT_cons (t k : Nat) (s : Slot) (l : List (Nat × Slot)) : getT ((k, s) :: l) t = if k = t then s else getT l t := by
  have e : getT ((k, s) :: l) t = match Nat.beq k t with | true => s | false => getT l t := by
    show Bool.rec (motive := fun _ => Slot) (getT l t) s (Nat.beq k t) = _
    cases Nat.beq k t <;> rfl
  rw [e]
  by_cases h : k = t
  · subst h; simp
  · have : Nat.beq k t = false := by
      cases hh : Nat.beq k t with
      | false => rfl
      | true => exact absurd (Nat.eq_of_beq_eq_true hh) h
    simp [this, h]

end Go.Sw
/-! A step of a frame; operations that only compute. -/
namespace Go.Sw
open Go

section consts
variable {w : World} {g : Gh} {sv : Nat → Option Nat} {ow : Ow}

theorem allV_SRs {h : Hold} : ∀ (l : List Slot) (i : Nat) (xs : List AV) (vs : List Value), allV l = some xs → SRs w g sv ow h i l vs → VRs g xs vs
  | [], _, _, _, e, a => by cases e; exact a
  | .v x :: l, i, xs, _, e, ⟨v, vs', a, b, c⟩ => by
    simp only [allV] at e
    split at e
    · rename_i ys hys; cases e; exact ⟨v, vs', a, b, allV_SRs l (i + 1) ys vs' hys c⟩
    · cases e
  | .undef :: _, _, _, _, e, _ => by cases e
  | .skip :: _, _, _, _, e, _ => by cases e
  | .nil0 :: _, _, _, _, e, _ => by cases e
  | .own _ _ :: _, _, _, _, e, _ => by cases e
  | .loc _ _ :: _, _, _, _, e, _ => by cases e
  | .imm _ :: _, _, _, _, e, _ => by cases e
  | .er _ _ _ _ :: _, _, _, _, e, _ => by cases e
  | .it _ _ :: _, _, _, _, e, _ => by cases e
  | .agg _ :: _, _, _, _, e, _ => by cases e
  | .tup _ :: _, _, _, _, e, _ => by cases e

mutual
theorem ofConst_SR : ∀ (v : Value) (h : Hold), SR w g sv ow h (ofConst v) v
  | .bool _, _ => by simp [ofConst, SR, VR]
  | .int _ _, _ => by simp [ofConst, SR, VR]
  | .float _ _, _ => by simp [ofConst, SR]
  | .complex _ _ _, _ => by simp [ofConst, SR]
  | .string s, _ => by simp [ofConst, SR, VR]
  | .pointer none, _ => by simp [ofConst, SR, VR]
  | .pointer (some _), _ => by simp [ofConst, SR]
  | .slice none 0 0, _ => by simp [ofConst, SR]
  | .slice none 0 (_ + 1), _ => by simp [ofConst, SR]
  | .slice none (_ + 1) _, _ => by simp [ofConst, SR]
  | .slice (some _) _ _, _ => by simp [ofConst, SR]
  | .map none, _ => by simp [ofConst, SR, VR]
  | .map (some _), _ => by simp [ofConst, SR]
  | .chan _, _ => by simp [ofConst, SR]
  | .func _ _ _, _ => by simp [ofConst, SR]
  | .nilFunc, _ => by simp [ofConst, SR, VR]
  | .iface _ _, _ => by simp [ofConst, SR]
  | .nilIface, _ => by simp [ofConst, SR, VR]
  | .tuple _, _ => by simp [ofConst, SR]
  | .agg ⟨cs⟩, h => by
    have hs := ofConsts_SRs cs h 0
    simp only [ofConst]
    split
    · rename_i xs hxs; exact ⟨⟨cs⟩, rfl, allV_SRs _ _ _ _ hxs hs⟩
    · exact ⟨⟨cs⟩, rfl, hs⟩
theorem ofConsts_SRs : ∀ (l : List Value) (h : Hold) (i : Nat), SRs w g sv ow h i (ofConsts l) l
  | [], _, _ => rfl
  | c :: l, h, i => ⟨c, l, rfl, ofConst_SR c _, ofConsts_SRs l h (i + 1)⟩
end
theorem allV_noLocs : ∀ (l : List Slot) (xs : List AV), allV l = some xs → noLocs l = true
  | [], _, _ => rfl
  | .v x :: l, xs, e => by
    simp only [allV] at e
    split at e
    · rename_i ys hys; simp [noLocs, noLoc, allV_noLocs l ys hys]
    · cases e
  | .undef :: _, _, e => by cases e
  | .skip :: _, _, e => by cases e
  | .nil0 :: _, _, e => by cases e
  | .own _ _ :: _, _, e => by cases e
  | .loc _ _ :: _, _, e => by cases e
  | .imm _ :: _, _, e => by cases e
  | .er _ _ _ _ :: _, _, e => by cases e
  | .it _ _ :: _, _, e => by cases e
  | .agg _ :: _, _, e => by cases e
  | .tup _ :: _, _, e => by cases e
mutual
theorem ofConst_noLoc : ∀ (v : Value), noLoc (ofConst v) = true
  | .bool _ | .int _ _ | .float _ _ | .complex _ _ _ | .string _ | .pointer none | .pointer (some _) | .slice none 0 0 | .slice none 0 (_ + 1) | .slice none (_ + 1) _
  | .slice (some _) _ _ | .map none | .map (some _) | .chan _ | .func _ _ _ | .nilFunc | .iface _ _ | .nilIface | .tuple _ => by simp [ofConst, noLoc]
  | .agg ⟨cs⟩ => by
    simp only [ofConst]
    split
    · rfl
    · simp only [noLoc]; exact ofConsts_noLocs cs
theorem ofConsts_noLocs : ∀ (l : List Value), noLocs (ofConsts l) = true
  | [] => rfl
  | c :: l => by simp [ofConsts, noLocs, ofConst_noLoc c, ofConsts_noLocs l]
end
theorem noLoc_lcTop {p : Nat → Prop} {s : Slot} (h : noLoc s = true) : lcTop p s := by
  cases s <;> first | trivial | exact h | (simp [noLoc] at h)
theorem ofConst_lcTop {p : Nat → Prop} : ∀ (v : Value), lcTop p (ofConst v) := fun v => noLoc_lcTop (ofConst_noLoc v)
end consts

/-- who holds an operand. -/
def opHold : Operand → Hold
  | .tmp t => ⟨.tmp t, []⟩
  | _ => ⟨.ret, []⟩

section
variable {n : Nat} {st : St} {a : Act} {w : World} {g : Gh} {sv : Nat → Option Nat} {ow : Ow}

theorem FR.opnd (hF : FR n st a w g sv ow) (x : Operand) : SR w g sv ow (opHold x) (opd st x) (a.eval x) := by
  cases x with
  | tmp t => exact hF.tm t
  | const c => exact ofConst_SR c _
  | global b =>
    simp only [opd]
    split
    · rename_i cs hcs; exact ⟨b, 0, rfl, fun j y hy => by simpa using hF.gv b cs hcs j y hy⟩
    · trivial
  | func f => exact ⟨#[], rfl, rfl⟩

theorem getD_put {ts : Array Value} {d t : Nat} {v u : Value} : (ts.setIfInBounds d v).getD t u = if d = t ∧ d < ts.size then v else ts.getD t u := by
  by_cases h : d = t
  · subst h
    by_cases h2 : d < ts.size
    · simp [h2, Array.getD]
    · simp [h2]
  · by_cases ht : t < ts.size
    · simp [h, Array.getD, ht, Array.getElem_setIfInBounds_ne]
    · simp [h, Array.getD, ht]

/-- behind an operation's effect. -/
theorem FR.step (hF : FR n st a w g sv ow) {d : Option Nat} (hd : ∀ t, d = some t → t < n) {e : Eff} {v' : Value} {w' : World} {g' : Gh} {sv' : Nat → Option Nat} {ow' : Ow}
    (gc' : GCons w' g')
    (hdst : ∀ t, d = some t → SR w' g' sv' ow' ⟨.tmp t, []⟩ e.dst v')
    (hsrc : ∀ t s, e.src = some (t, s) → d ≠ some t → SR w' g' sv' ow' ⟨.tmp t, []⟩ s (a.tmps.getD t undef))
    (hoth : ∀ t, d ≠ some t → (∀ s, e.src ≠ some (t, s)) → Keep (.tmp t) (.tmp t) w g sv ow w' g' sv' ow')
    (lkd : ∀ t, d = some t → lcTop (fun s => (assoc s (applyEff st d e).locs).isSome = true) e.dst)
    (lks : ∀ t s, e.src = some (t, s) → lcTop (fun s => (assoc s (applyEff st d e).locs).isSome = true) s)
    (lk' : ∀ s, (assoc s st.locs).isSome = true → (assoc s (applyEff st d e).locs).isSome = true)
    (lc' : ∀ s cs, assoc s (applyEff st d e).locs = some cs → LR w' g' sv' ow' s cs)
    (hr' : HR w' g' ow' (applyEff st d e).heap)
    (df' : DR w' g' ow' st.defs a.defers)
    (bd' : ∀ B h, ow' B = some h → B < w'.heap.size) (hle : g.le g' := by first | exact Gh.le.refl _ | assumption) : FR n (applyEff st d e) (a.put d v') w' g' sv' ow' := by
  have hget : ∀ t, getT (applyEff st d e).tmps t = if d = some t then e.dst else match e.src with | some (y, s) => if y = t then s else getT st.tmps t | none => getT st.tmps t := by
    intro t
    simp only [applyEff]
    have hs : getT (setT st.tmps e.src) t = match e.src with | some (y, s) => if y = t then s else getT st.tmps t | none => getT st.tmps t := by
      cases e.src with
      | none => rfl
      | some p => simp only [setT, getT_cons]
    cases d with
    | none => simpa [putT] using hs
    | some k =>
      simp only [putT, getT_cons, Option.some.injEq]
      by_cases hk : k = t
      · simp [hk]
      · simp only [hk, if_false]; exact hs
  have hval : ∀ t, (a.put d v').tmps.getD t undef = if d = some t then v' else a.tmps.getD t undef := by
    intro t
    cases d with
    | none => simp [Act.put]
    | some k =>
      simp only [Act.put, getD_put, Option.some.injEq, hF.sz]
      by_cases hk : k = t
      · subst hk; simp [hd k rfl]
      · simp [hk]
  refine ⟨?_, gc', fun t => ?_, fun t => ?_, lc', hr', ?_, bd', hF.gv.mono hle⟩
  · cases d <;> simp [Act.put, hF.sz]
  · rw [hget, hval]
    by_cases h : d = some t
    · simp only [h, if_true]; exact hdst t h
    · simp only [h, if_false]
      cases hs : e.src with
      | none => exact SR.keep (hoth t h (by simp [hs])) _ _ _ (hF.tm t)
      | some p =>
        obtain ⟨y, s⟩ := p
        simp only
        by_cases hy : y = t
        · subst hy; simp only [if_true]; exact hsrc y s hs h
        · simp only [hy, if_false]
          exact SR.keep (hoth t h (fun s' he => hy (by rw [hs] at he; cases he; rfl))) _ _ _ (hF.tm t)
  · rw [hget]
    by_cases h : d = some t
    · simp only [h, if_true]; subst h; exact lkd t rfl
    · simp only [h, if_false]
      have old : lcTop (fun s => (assoc s (applyEff st d e).locs).isSome = true) (getT st.tmps t) := by
        have := hF.lk t
        revert this
        cases getT st.tmps t <;> simp [lcTop] <;> first | exact fun h => lk' _ h | exact fun h => h
      cases hs : e.src with
      | none => exact old
      | some p =>
        obtain ⟨y, s⟩ := p
        simp only
        by_cases hy : y = t
        · subst hy; simp only [if_true]; exact lks y s hs
        · simp only [hy, if_false]; exact old
  · cases d <;> exact df'

/-- a slot that holds nothing. -/
def FreeR (w : World) (g : Gh) (sv : Nat → Option Nat) (s : Slot) (v : Value) : Prop := ∀ ow h, SR w g sv ow h s v

theorem VR.free {x : AV} {v : Value} (h : VR g x v) : FreeR w g sv (.v x) v := fun _ _ => h

/-- an operation that yields a value and changes nothing. -/
theorem FR.free (hF : FR n st a w g sv ow) {d : Option Nat} (hd : ∀ t, d = some t → t < n) {s : Slot} {v' : Value} (hs : FreeR w g sv s v')
    (hl : lcTop (fun s => (assoc s st.locs).isSome = true) s) :
    ∃ ow', FR n (applyEff st d { dst := s }) (a.put d v') w g sv ow' ∧ Fut w g ow w g ow' := by
  let f : Root → Option Root := match d with | some t => dropTmp t | none => some
  have hf : ∀ r, (∀ t, d = some t → r ≠ .tmp t) → f r = some r := by
    intro r hr
    cases d with
    | none => rfl
    | some t => cases r <;> simp [f, dropTmp] <;> (intro h; exact absurd h (by simpa using hr t rfl))
  have hk : ∀ {p : Root → Prop}, (∀ r, p r → ∀ t, d = some t → r ≠ .tmp t) → Keeps p w g ow w g (reown f ow) := fun hp =>
    ⟨Gh.le.refl g, fun B r q hr h => reown_keeps.ow B r q (hf r (hp r hr)) h⟩
  refine ⟨reown f ow, hF.step hd hF.gc (fun t ht => hs _ _) (fun t s h => by cases h) (fun t ht _ => ?_) (fun t ht => hl) (fun t s h => by cases h) (fun s h => h) (fun s cs h => ?_) ?_ ?_ (reown_bd hF.bd), reown_fut (hf _ (fun _ _ => by simp))⟩
  · exact (hk (p := fun r => r = .tmp t) (fun r hr t' ht' => by subst hr; intro h; cases h; exact ht ht')).keep rfl (fun _ _ h => h)
  · exact (hF.lc s cs h).keeps (hk (p := fun r => ∀ t, r ≠ .tmp t) (fun r hr t _ => hr t)) (by simp) (by simp) (fun _ h => h)
  · exact ⟨fun r o h => (hF.hr.ob r o h).keeps (hk (p := fun r => ∀ t, r ≠ .tmp t) (fun r hr t _ => hr t)) (by simp) (by simp) (fun _ h => h) (fun _ _ h => h), hF.hr.nf⟩
  · exact DR.keeps (hk (p := fun r => ∀ t, r ≠ .tmp t) (fun r hr t _ => hr t)) (by simp) _ _ hF.df

end
end Go.Sw
/-! Operations: what the evaluator says of each is what the model does. -/
namespace Go.Sw
open Go

/-- an operation is carried out, and the frame behind it is the evaluator's. -/
def OpOK (P : Program) (n : Nat) (o : Oper) (a : Act) (w : World) (g : Gh) (ow : Ow) (st' : St) : Prop :=
  ∃ r v' w' g' sv' ow', (execOp a.eval o).run P w = .ok r w' ∧ (r = .value v' ∨ (r = .skip ∧ v' = undef)) ∧ FR n st' (a.put o.dst v') w' g' sv' ow' ∧ Fut w g ow w' g' ow'

theorem Res.bind_ok {α β : Type} {r : Res α} {f : α → Res β} {y : β} (h : r.bind f = .ok y) : ∃ x, r = .ok x ∧ f x = .ok y := by
  cases r with
  | ok x => exact ⟨x, rfl, h⟩
  | panic _ _ => cases h
  | bad _ => cases h
  | oof => cases h
theorem Res.mbind_ok {α β : Type} {r : Res α} {f : α → Res β} {y : β} (h : (r >>= f) = .ok y) : ∃ x, r = .ok x ∧ f x = .ok y := Res.bind_ok h
theorem opt_ok {α : Type} {why : String} {x : Option α} {y : α} (h : opt why x = .ok y) : x = some y := by
  cases x with
  | none => cases h
  | some z => cases h; rfl
theorem guardR_ok {α : Type} {why : String} {b : Bool} {x : Res α} {y : α} (h : guardR why b x = .ok y) : b = true ∧ x = .ok y := by
  cases b with
  | false => cases h
  | true => exact ⟨rfl, h⟩

section
variable {P : Program} {n : Nat} {o : Oper} {st : St} {a : Act} {w : World} {g : Gh} {sv : Nat → Option Nat} {ow : Ow}

theorem toAVR_ok {s : Slot} {x : AV} (h : toAVR s = .ok x) : toAV s = some x := opt_ok h

theorem FR.av (hF : FR n st a w g sv ow) {x : Operand} {y : AV} (h : toAV (opd st x) = some y) : VR g y (a.eval x) := SR.toAV _ _ _ (hF.opnd x) h

theorem FR.lkOpd (hF : FR n st a w g sv ow) (x : Operand) : lcTop (fun s => (assoc s st.locs).isSome = true) (opd st x) := by
  cases x with
  | tmp t => exact hF.lk t
  | const c => exact ofConst_lcTop c
  | global g => simp only [opd]; split <;> trivial
  | func f => trivial

mutual
theorem view_noLoc : ∀ (s : Slot), noLoc s = true → noLoc (view s) = true
  | .agg cs, h => by simp only [view, noLoc] at h ⊢; exact views_noLocs cs h
  | .tup cs, h => by simp only [view, noLoc] at h ⊢; exact views_noLocs cs h
  | .undef, _ | .skip, _ | .v _, _ | .nil0, _ | .coin, _ | .own _ _, _ | .imm _, _ | .er _ _ _ _, _ | .it _ _, _ => by simp [view, noLoc]
  | .loc _ _, h => by cases h
theorem views_noLocs : ∀ (l : List Slot), noLocs l = true → noLocs (views l) = true
  | [], _ => rfl
  | s :: l, h => by
    simp only [noLocs, Bool.and_eq_true] at h
    simp [views, noLocs, view_noLoc s h.1, views_noLocs l h.2]
end
theorem view_lcTop {p : Nat → Prop} {s : Slot} (h : lcTop p s) : lcTop p (view s) := by
  cases s <;> first | exact h | exact views_noLocs _ h | trivial
theorem noLocs_get : ∀ (l : List Slot), noLocs l = true → ∀ (i : Nat) (c : Slot), l[i]? = some c → noLoc c = true
  | [], _, _, _, h => by simp at h
  | s :: l, h, 0, c, hc => by simp only [noLocs, Bool.and_eq_true] at h; simp at hc; subst hc; exact h.1
  | s :: l, h, i + 1, c, hc => by simp only [noLocs, Bool.and_eq_true] at h; exact noLocs_get l h.2 i c (by simpa using hc)
theorem noLocs_of : ∀ (l : List Slot), (∀ c ∈ l, noLoc c = true) → noLocs l = true
  | [], _ => rfl
  | s :: l, h => by simp [noLocs, h s (by simp), noLocs_of l (fun c hc => h c (by simp [hc]))]

theorem FR.viewFree (hF : FR n st a w g sv ow) (x : Operand) : FreeR w g sv (view (opd st x)) (a.eval x) := fun _ _ => SR.view (Gh.le.refl g) (fun _ _ h => h) _ _ (hF.opnd x)

/-- a value that is yielded. -/
theorem opOK_free (hF : FR n st a w g sv ow) (hd : ∀ t, o.dst = some t → t < n) {s : Slot} {v' : Value} (hrun : (execOp a.eval o).run P w = .ok (.value v') w)
    (hs : FreeR w g sv s v') (hl : lcTop (fun s => (assoc s st.locs).isSome = true) s) : OpOK P n o a w g ow (applyEff st o.dst { dst := s }) := by
  obtain ⟨ow', h1, h2⟩ := hF.free hd hs hl
  exact ⟨_, v', w, g, sv, ow', hrun, .inl rfl, h1, h2⟩

/-- a slot that is no value, handed over from a temporary to another. -/
theorem FR.hand (hF : FR n st a w g sv ow) {d x : Nat} (hd : d < n) :
    ∃ ow', FR n (applyEff st (some d) { dst := getT st.tmps x, src := some (x, view (getT st.tmps x)) }) (a.put (some d) (a.tmps.getD x undef)) w g sv ow' ∧ Fut w g ow w g ow' := by
  let f := moveTmp x d
  have hk : Keeps (fun r => ∀ t, r ≠ .tmp t) w g ow w g (reown f ow) := ⟨Gh.le.refl g, fun B r q hr h => reown_keeps.ow B r q (by cases r <;> simp_all [f, moveTmp]) h⟩
  refine ⟨reown f ow, hF.step (fun t ht => by cases ht; exact hd) hF.gc (fun t ht => ?_) (fun t s h hne => ?_) (fun t ht hns => ?_) (fun t ht => hF.lk x) (fun t s h => ?_) (fun s h => h) (fun s cs h => ?_) ?_ ?_ (reown_bd hF.bd), reown_fut (f := f) rfl⟩
  · cases ht
    exact SR.keep (reown_keep (by simp [f, moveTmp])) _ _ _ (hF.tm x)
  · cases h
    exact SR.view (Gh.le.refl g) (fun _ _ h => h) _ _ (hF.tm x)
  · have h1 : t ≠ x := fun e => hns _ (by subst e; rfl)
    have h2 : t ≠ d := fun e => ht (by rw [e])
    exact reown_keep (by simp [f, moveTmp, h1, h2])
  · cases h; exact view_lcTop (hF.lk x)
  · exact (hF.lc s cs h).keeps hk (by simp) (by simp) (fun _ h => h)
  · exact ⟨fun r o h => (hF.hr.ob r o h).keeps hk (by simp) (by simp) (fun _ h => h) (fun _ _ h => h), hF.hr.nf⟩
  · exact DR.keeps hk (by simp) _ _ hF.df

/-- handing an operand over. -/
theorem FR.handOp (hF : FR n st a w g sv ow) {d : Option Nat} (hd : ∀ t, d = some t → t < n) (x : Operand) :
    ∃ ow', FR n (applyEff st d { dst := opd st x, src := handed x (opd st x) }) (a.put d (a.eval x)) w g sv ow' ∧ Fut w g ow w g ow' := by
  cases x with
  | tmp t =>
    by_cases hn : getT st.tmps t = .nil0
    · have : handed (.tmp t) (opd st (.tmp t)) = none := by simp [opd, hn, handed]
      rw [this]
      have h1 := hF.opnd (.tmp t)
      simp only [opd, hn] at h1 ⊢
      exact hF.free hd (fun _ _ => h1) trivial
    by_cases hv : ∃ y, getT st.tmps t = .v y
    · obtain ⟨y, hy⟩ := hv
      have : handed (.tmp t) (opd st (.tmp t)) = none := by simp [opd, hy, handed]
      rw [this]
      have h1 := hF.opnd (.tmp t)
      simp only [opd, hy] at h1 ⊢
      exact hF.free hd (VR.free h1) trivial
    · have : handed (.tmp t) (opd st (.tmp t)) = some (t, view (getT st.tmps t)) := by
        simp only [opd]
        cases h : getT st.tmps t <;> first | rfl | exact absurd h hn | exact absurd ⟨_, h⟩ hv
      rw [this]
      cases d with
      | some d => exact hF.hand (hd d rfl)
      | none =>
        refine ⟨ow, hF.step (by simp) hF.gc (by simp) (fun t s h _ => ?_) (fun t _ _ => ⟨Gh.le.refl g, fun _ _ h => h, fun B p h => ⟨h, rfl, fun _ _ h => h⟩⟩) (by simp) (fun t s h => ?_) (fun s h => h) hF.lc hF.hr hF.df hF.bd, Fut.refl _ _ _⟩
        · cases h; exact SR.view (Gh.le.refl g) (fun _ _ h => h) _ _ (hF.tm _)
        · cases h; exact view_lcTop (hF.lk _)
  | const c =>
    have : handed (.const c) (opd st (.const c)) = none := by cases h : opd st (.const c) <;> rfl
    rw [this]
    exact hF.free hd (fun _ _ => ofConst_SR c _) (hF.lkOpd (.const c))
  | global b =>
    have hl := hF.lkOpd (.global b)
    have hs := hF.opnd (.global b)
    cases hg : globs b with
    | none => simp only [opd, hg]; exact hF.free hd (fun _ _ => trivial) trivial
    | some cs =>
      simp only [opd, hg] at hs ⊢
      exact hF.free hd (fun _ _ => hs) trivial
  | func f => exact hF.free hd (VR.free ⟨#[], rfl, rfl⟩) trivial

theorem op_move {x : Operand} (hF : FR n st a w g sv ow) (hd : ∀ t, o.dst = some t → t < n) {h : Hint} {e : Eff} (ho : o.op = .move x)
    (he : (match takes h o.dst with | true => Res.ok ({ dst := opd st x, src := handed x (opd st x) } : Eff) | false => .ok { dst := view (opd st x) }) = .ok e) :
    OpOK P n o a w g ow (applyEff st o.dst e) := by
  have hrun : (execOp a.eval o).run P w = .ok (.value (a.eval x)) w := by simp [execOp, ho]
  split at he
  · cases he
    obtain ⟨ow', h1, h2⟩ := hF.handOp hd x
    exact ⟨_, _, w, g, sv, ow', hrun, .inl rfl, h1, h2⟩
  · cases he
    exact opOK_free hF hd hrun (hF.viewFree x) (view_lcTop (hF.lkOpd x))

theorem op_assign {x : Operand} (hF : FR n st a w g sv ow) (hd : ∀ t, o.dst = some t → t < n) {e : Eff} (ho : o.op = .assign x)
    (he : evAssign x (opd st x) = .ok e) :
    OpOK P n o a w g ow (applyEff st o.dst e) := by
  have hrun : (execOp a.eval o).run P w = .ok (.value (a.eval x)) w := by simp [execOp, ho]
  have hand : OpOK P n o a w g ow (applyEff st o.dst { dst := opd st x, src := handed x (opd st x) }) := by
    obtain ⟨ow', h1, h2⟩ := hF.handOp hd x
    exact ⟨_, _, w, g, sv, ow', hrun, .inl rfl, h1, h2⟩
  cases he
  exact hand

theorem op_pick {c x y : Operand} (hF : FR n st a w g sv ow) (hd : ∀ t, o.dst = some t → t < n) {e : Eff} (ho : o.op = .pick c x y)
    (he : evPick (opd st c) (opd st x) (opd st y) = .ok e) : OpOK P n o a w g ow (applyEff st o.dst e) := by
  have h1 := hF.opnd c
  unfold evPick at he
  split at he
  · rename_i t hc
    rw [hc] at h1
    have hc' : a.eval c = .bool t := h1
    have hrun : (execOp a.eval o).run P w = .ok (.value (if t then a.eval x else a.eval y)) w := by simp [execOp, ho, hc', asBool]
    split at he
    · rename_i p q hx hy
      cases he
      have h2 := hF.opnd x
      have h3 := hF.opnd y
      rw [hx] at h2
      rw [hy] at h3
      have h2' : a.eval x = .bool p := h2
      have h3' : a.eval y = .bool q := h3
      refine opOK_free hF hd hrun (VR.free ?_) trivial
      cases t
      · simpa [VR] using h3'
      · simpa [VR] using h2'
    · cases t
      · obtain ⟨z, hz, he⟩ := Res.bind_ok he
        cases he
        exact opOK_free hF hd hrun (VR.free (hF.av (toAVR_ok hz))) trivial
      · obtain ⟨z, hz, he⟩ := Res.bind_ok he
        cases he
        exact opOK_free hF hd hrun (VR.free (hF.av (toAVR_ok hz))) trivial
  · cases he

theorem op_nilCheck {x : Operand} (hF : FR n st a w g sv ow) (hd : ∀ t, o.dst = some t → t < n) {e : Eff} (ho : o.op = .nilCheck x)
    (he : evNilCheck (opd st x) = .ok e) : OpOK P n o a w g ow (applyEff st o.dst e) := by
  have h1 := hF.opnd x
  have hl := hF.lkOpd x
  have hrun : ∀ p, a.eval x = .pointer (some p) → (execOp a.eval o).run P w = .ok (.value (a.eval x)) w := fun p hp => by simp [execOp, ho, hp]
  unfold evNilCheck at he
  split at he <;> first | cases he | skip
  · rename_i s off hx
    rw [hx] at h1 hl
    obtain ⟨B, hB, e⟩ := h1
    exact opOK_free hF hd (hrun _ e) (s := .loc s off) (fun _ _ => ⟨B, hB, e⟩) hl
  · rename_i cs hx
    rw [hx] at h1
    obtain ⟨B, off, e, h⟩ := h1
    exact opOK_free hF hd (hrun _ e) (s := .imm cs) (fun _ _ => ⟨B, off, e, h⟩) trivial
  · rename_i r ver i j hx
    rw [hx] at h1
    obtain ⟨B, sz, C, h, e⟩ := h1
    exact opOK_free hF hd (hrun _ e) (s := .er r ver i j) (fun _ _ => ⟨B, sz, C, h, e⟩) trivial
  · rename_i r off hx
    rw [hx] at h1
    obtain ⟨B, h, e⟩ := h1
    exact opOK_free hF hd (hrun _ e) (s := .v (.ref r off)) (fun _ _ => ⟨B, h, e⟩) trivial

end
end Go.Sw
/-! Operations on values. -/
namespace Go.Sw
open Go

section
variable {P : Program} {n : Nat} {o : Oper} {st : St} {a : Act} {w : World} {g : Gh} {sv : Nat → Option Nat} {ow : Ow}

/-- an operation on values that yields a value. -/
theorem opOK_val (hF : FR n st a w g sv ow) (hd : ∀ t, o.dst = some t → t < n) {x : AV} {v' : Value} (hrun : (execOp a.eval o).run P w = .ok (.value v') w) (hs : VR g x v') :
    OpOK P n o a w g ow (applyEff st o.dst { dst := .v x }) := opOK_free hF hd hrun (VR.free hs) trivial

theorem pureV_ok {r : Res AV} {e : Eff} (h : pureV r = .ok e) : ∃ x, r = .ok x ∧ e = { dst := .v x } := by
  obtain ⟨x, h1, h2⟩ := Res.bind_ok h
  cases h2; exact ⟨x, h1, rfl⟩
theorem pureR_ok {r : Res Slot} {e : Eff} (h : pureR r = .ok e) : ∃ x, r = .ok x ∧ e = { dst := x } := by
  obtain ⟨x, h1, h2⟩ := Res.bind_ok h
  cases h2; exact ⟨x, h1, rfl⟩

theorem wr_eq (k : IntKind) (x : Int) : wr k x = k.wrap x := by
  cases k <;> simp only [wr]
  split
  · rename_i h
    simp only [Bool.and_eq_true, decide_eq_true_eq] at h
    simp [IntKind.wrap, IntKind.bits, IntKind.signed]
    omega
  · rfl

theorem run_und {t : Nat} {d : TypeDesc} (h : P.underlying t = some d) (w : World) : (underlying t).run P w = .ok d w := by simp [underlying, h]

theorem beq_dec (x y : Int) : (x == y) = decide (x = y) := by
  by_cases h : x = y
  · subst h; simp
  · simp [h]
theorem bne_dec (x y : Int) : (x != y) = !decide (x = y) := by simp only [bne, beq_dec]

theorem evArith_run {op : BinOp} {k : IntKind} {x y : Int} {r : AV} (t : Nat) (h : evArith op k x y = some r) (hs : op ≠ .shl ∧ op ≠ .shr) :
    ∃ v, (binOp op t (.int k x) (.int k y)).run P w = .ok v w ∧ VR g r v := by
  cases op <;> simp only [evArith, reduceCtorEq] at h <;> first
    | (split at h <;> cases h; rename_i hy; have hy' : ¬ y = 0 := by simpa using hy
       exact ⟨_, by simp [binOp, Op.intDiv, hy']; rfl, by simp [VR, wr_eq]⟩)
    | (cases h; exact ⟨_, by simp [binOp, Op.intArith, Op.intBits, Op.intCmp]; rfl, by first | (simp [VR, wr_eq]; done) | simp [VR, beq_dec, bne_dec]⟩)
    | (exact absurd rfl hs.1)
    | (exact absurd rfl hs.2)


theorem evStr_run {op : BinOp} {x y : List UInt8} {b c : ByteArray} {r : AV} (t : Nat) (hb : b.data.toList = x) (hc : c.data.toList = y) (h : evStr op x y = some r) :
    ∃ v, (binOp op t (.string b) (.string c)).run P w = .ok v w ∧ VR g r v := by
  have e1 : b.toList = x := by rw [ByteArray.toList_eq, hb]
  have e2 : c.toList = y := by rw [ByteArray.toList_eq, hc]
  cases op <;> simp only [evStr, reduceCtorEq] at h <;> first
    | (cases h; exact ⟨_, by simp [binOp, Op.stringOp]; rfl, by simp [VR, e1, e2]⟩)
    | (split at h <;> cases h
       rename_i hl
       have hl' : x.length + y.length ≤ bigLen := by simpa using hl
       have s1 : b.size = x.length := by rw [← hb]; simp
       have s2 : c.size = y.length := by rw [← hc]; simp
       refine ⟨.string (b ++ c), ?_, ⟨_, rfl, by simp [hb, hc]⟩⟩
       have : ¬ (((b.size + c.size : Nat) : Int) > IntKind.i64.max) := by
         simp only [IntKind.max, IntKind.bits, IntKind.signed, bigLen] at *
         simp
         omega
       simp only [binOp, Op.stringOp, this, if_false]
       rfl)

theorem eqOp_some {op : BinOp} {q : Bool} {r : AV} (h : eqOp op q = some r) : (op = .eql ∧ r = .bool q) ∨ (op = .neq ∧ r = .bool (!q)) := by
  cases op <;> simp only [eqOp, reduceCtorEq] at h
  · cases h; exact .inl ⟨rfl, rfl⟩
  · cases h; exact .inr ⟨rfl, rfl⟩

/-- '==' where the model's equality is at hand. -/
theorem eq_run {op : BinOp} {t : Nat} {u v : Value} {q : Bool} {r : AV} (h1 : binOp .eql t u v = (do pure (.bool (← Op.equal t u v)))) (h2 : binOp .neq t u v = (do pure (.bool (!(← Op.equal t u v)))))
    (he : (Op.equalIn (9999 + 1) t u v).run P w = .ok q w) (h : eqOp op q = some r) : ∃ z, (binOp op t u v).run P w = .ok z w ∧ VR g r z := by
  have he' : (Op.equal t u v).run P w = .ok q w := he
  rcases eqOp_some h with ⟨rfl, rfl⟩ | ⟨rfl, rfl⟩
  · rw [h1]; exact ⟨.bool q, by simp [he'], rfl⟩
  · rw [h2]; exact ⟨.bool (!q), by simp [he'], rfl⟩

theorem eqIn_bool (d : Nat) {t : Nat} (ht : P.underlying t = some .bool) (x y : Bool) : (Op.equalIn (d + 1) t (.bool x) (.bool y)).run P w = .ok (x == y) w := by simp [Op.equalIn, run_und ht]
theorem eqIn_ptr0 (d : Nat) {t e : Nat} (ht : P.underlying t = some (.pointer e)) : (Op.equalIn (d + 1) t (.pointer none) (.pointer none)).run P w = .ok true w := by simp [Op.equalIn, run_und ht]
theorem eqIn_ptr1 (d : Nat) {t e : Nat} (ht : P.underlying t = some (.pointer e)) (x : Addr) : (Op.equalIn (d + 1) t (.pointer none) (.pointer (some x))).run P w = .ok false w := by simp [Op.equalIn, run_und ht]
theorem eqIn_ptr2 (d : Nat) {t e : Nat} (ht : P.underlying t = some (.pointer e)) (x : Addr) : (Op.equalIn (d + 1) t (.pointer (some x)) (.pointer none)).run P w = .ok false w := by simp [Op.equalIn, run_und ht]
theorem eqIn_fun0 (d : Nat) {t : Nat} {p q : Array TypeId} {b : Bool} (ht : P.underlying t = some (.func p q b)) : (Op.equalIn (d + 1) t .nilFunc .nilFunc).run P w = .ok true w := by simp [Op.equalIn, run_und ht]
theorem eqIn_fun1 (d : Nat) {t : Nat} {p q : Array TypeId} {b : Bool} (ht : P.underlying t = some (.func p q b)) (f : Fn) (x y : Array Value) : (Op.equalIn (d + 1) t .nilFunc (.func f x y)).run P w = .ok false w := by simp [Op.equalIn, run_und ht]
theorem eqIn_fun2 (d : Nat) {t : Nat} {p q : Array TypeId} {b : Bool} (ht : P.underlying t = some (.func p q b)) (f : Fn) (x y : Array Value) : (Op.equalIn (d + 1) t (.func f x y) .nilFunc).run P w = .ok false w := by simp [Op.equalIn, run_und ht]
theorem eqIn_map0 (d : Nat) {t k e : Nat} (ht : P.underlying t = some (.map k e)) : (Op.equalIn (d + 1) t (.map none) (.map none)).run P w = .ok true w := by simp [Op.equalIn, run_und ht]
theorem eqIn_map1 (d : Nat) {t k e : Nat} (ht : P.underlying t = some (.map k e)) (r : Nat) : (Op.equalIn (d + 1) t (.map none) (.map (some r))).run P w = .ok false w := by simp [Op.equalIn, run_und ht]
theorem eqIn_map2 (d : Nat) {t k e : Nat} (ht : P.underlying t = some (.map k e)) (r : Nat) : (Op.equalIn (d + 1) t (.map (some r)) (.map none)).run P w = .ok false w := by simp [Op.equalIn, run_und ht]
theorem eqIn_if0 (d : Nat) {t : Nat} {ms : Array (String × TypeId)} (ht : P.underlying t = some (.interface ms)) : (Op.equalIn (d + 1) t .nilIface .nilIface).run P w = .ok true w := by simp [Op.equalIn, run_und ht]
theorem eqIn_if1 (d : Nat) {t : Nat} {ms : Array (String × TypeId)} (ht : P.underlying t = some (.interface ms)) (e : Nat) (v : Value) : (Op.equalIn (d + 1) t .nilIface (.iface e v)).run P w = .ok false w := by simp [Op.equalIn, run_und ht]
theorem eqIn_if2 (d : Nat) {t : Nat} {ms : Array (String × TypeId)} (ht : P.underlying t = some (.interface ms)) (e : Nat) (v : Value) : (Op.equalIn (d + 1) t (.iface e v) .nilIface).run P w = .ok false w := by simp [Op.equalIn, run_und ht]

theorem sizeT_info {e n : Nat} (h : sizeT P e = some n) : ∃ i, P.info? e = some i ∧ i.size = n := by
  unfold sizeT at h
  split at h
  · rename_i i hi; cases h; exact ⟨i, hi, rfl⟩
  · cases h

theorem eqItems_ints {e : Nat} {k : IntKind} (d : Nat) (he : P.underlying e = some (.int k)) (xs ys : Array Value) : ∀ (la lb : List AV) (j : Nat) (q : Bool), sameInts k la lb = some q →
    VRs g la (xs.toList.drop j) → VRs g lb (ys.toList.drop j) → (Op.eqItems (d + 1) e 1 xs ys (List.range' j la.length)).run P w = .ok q w
  | [], [], j, q, h, _, _ => by
    cases h
    simp [Op.eqItems]
  | [], _ :: _, _, _, h, _, _ => by cases h
  | x :: la, [], _, _, h, _, _ => by cases x <;> cases h
  | x :: la, y :: lb, j, q, h, h1, h2 => by
    cases x with
    | int k1 a =>
      cases y with
      | int k2 b =>
        unfold sameInts at h
        split at h
        · rename_i r hk hr
          cases h
          simp only [Bool.and_eq_true, decide_eq_true_eq] at hk
          obtain ⟨rfl, rfl⟩ := hk
          obtain ⟨v1, vs1, e1, rfl, h1'⟩ := h1
          obtain ⟨v2, vs2, e2, rfl, h2'⟩ := h2
          have g1 : xs[j]? = some (.int k2 a) := by
            have : (xs.toList.drop j)[0]? = some (.int k2 a) := by rw [e1]; rfl
            simpa using this
          have g2 : ys[j]? = some (.int k2 b) := by
            have : (ys.toList.drop j)[0]? = some (.int k2 b) := by rw [e2]; rfl
            simpa using this
          have d1 : vs1 = xs.toList.drop (j + 1) := by
            have : (xs.toList.drop j).tail = vs1 := by rw [e1]; rfl
            rw [← this]; simp
          have d2 : vs2 = ys.toList.drop (j + 1) := by
            have : (ys.toList.drop j).tail = vs2 := by rw [e2]; rfl
            rw [← this]; simp
          subst d1; subst d2
          have ih := eqItems_ints d he xs ys la lb (j + 1) r hr h1' h2'
          have p1 : (part e xs (j * 1)).run P w = .ok (.int k2 a) w := by simp [part, isAgg, run_und he, g1]
          have p2 : (part e ys (j * 1)).run P w = .ok (.int k2 b) w := by simp [part, isAgg, run_und he, g2]
          have p3 : (Op.equalIn (d + 1) e (.int k2 a) (.int k2 b)).run P w = .ok (a == b) w := by simp [Op.equalIn, run_und he]
          rw [List.length_cons, List.range'_succ]
          simp only [Op.eqItems, Sem.run_bind, p1, p2, p3, Result.andThen_ok]
          rw [beq_dec]
          cases hab : decide (a = b)
          · simp
          · simpa using ih
        · cases h
      | _ => cases h
    | _ => cases h

theorem VRs.length {g : Gh} : ∀ (l : List AV) (vs : List Value), VRs g l vs → vs.length = l.length
  | [], _, h => by cases h; rfl
  | _ :: l, _, ⟨_, vs', h, _, h'⟩ => by subst h; simp [VRs.length l vs' h']

theorem sameInts_length {k : IntKind} : ∀ (la lb : List AV) (q : Bool), sameInts k la lb = some q → la.length = lb.length
  | [], [], _, _ => rfl
  | [], _ :: _, _, h => by cases h
  | x :: _, [], _, h => by cases x <;> cases h
  | x :: la, y :: lb, q, h => by
    cases x with
    | int k1 a =>
      cases y with
      | int k2 b =>
        unfold sameInts at h
        split at h
        · rename_i r _ hr; simp [sameInts_length la lb r hr]
        · cases h
      | _ => cases h
    | _ => cases h

theorem evArr_run {op : BinOp} {t : Nat} {a b : List AV} {u v : Value} {r : AV} (hx : VR g (.agg a) u) (hy : VR g (.agg b) v) (h : evArr P op t a b = some r) :
    ∃ z, (binOp op t u v).run P w = .ok z w ∧ VR g r z := by
  obtain ⟨xs, rfl, h1⟩ := hx
  obtain ⟨ys, rfl, h2⟩ := hy
  unfold evArr at h
  split at h
  · rename_i n e ht
    split at h
    · rename_i k he hsz hlen
      simp only [Bool.and_eq_true] at hlen
      obtain ⟨i, hi, hi1⟩ := sizeT_info hsz
      split at h
      · rename_i q hq
        have hc : P.cellsOf e = 1 := by simp [Program.cellsOf, hi, hi1]
        have hn : n = a.length := (Nat.eq_of_beq_eq_true hlen.1).symm
        have := eqItems_ints (g := g) (w := w) 9998 he xs ys a b 0 q hq (by simpa using h1) (by simpa using h2)
        refine eq_run rfl rfl ?_ h
        rw [run_equalIn_array w (9998 + 1) xs ys ht hi, hc, hn, List.range_eq_range']
        exact this
      · cases h
    · cases h
  · cases h

theorem evBin_run {op : BinOp} {t : Nat} {x y : AV} {u v : Value} {r : AV} (hx : VR g x u) (hy : VR g y v) (h : evBin P op t x y = some r) :
    ∃ z, (binOp op t u v).run P w = .ok z w ∧ VR g r z := by
  unfold evBin at h
  split at h
  · rename_i k p k' q
    cases hx; cases hy
    split at h
    · split at h <;> cases h
      rename_i hq
      have hq' : ¬ q < 0 := by have := of_decide_eq_true hq; omega
      exact ⟨_, by simp [binOp, Op.shift, hq']; rfl, by simp [VR]⟩
    · split at h <;> cases h
      rename_i hq
      have hq' : ¬ q < 0 := by have := of_decide_eq_true hq; omega
      exact ⟨_, by simp [binOp, Op.shift, hq']; rfl, by simp [VR]⟩
    · rename_i h1 h2
      split at h
      · rename_i hk
        have hk' : k = k' := by simpa using hk
        subst hk'
        exact evArith_run t h ⟨fun e => h1 e, fun e => h2 e⟩
      · cases h
  · obtain ⟨b, rfl, hb⟩ := hx
    obtain ⟨c, rfl, hc⟩ := hy
    exact evStr_run t hb hc h
  · cases hx; cases hy
    split at h
    · rename_i ht
      exact eq_run rfl rfl (eqIn_bool _ ht _ _) h
    · cases h
  · cases hx; obtain ⟨B, _, rfl⟩ := hy
    split at h
    · rename_i ht; exact eq_run rfl rfl (eqIn_ptr1 _ ht _) h
    · cases h
  · cases hy; obtain ⟨B, _, rfl⟩ := hx
    split at h
    · rename_i ht; exact eq_run rfl rfl (eqIn_ptr2 _ ht _) h
    · cases h
  · exact evArr_run hx hy h
  · cases hx; cases hy
    split at h
    · rename_i ht; exact eq_run rfl rfl (eqIn_ptr0 _ ht) h
    · cases h
  · cases hx; obtain ⟨B, rfl, _⟩ := hy
    split at h
    · rename_i ht; exact eq_run rfl rfl (eqIn_fun1 _ ht _ _ _) h
    · cases h
  · cases hy; obtain ⟨B, rfl, _⟩ := hx
    split at h
    · rename_i ht; exact eq_run rfl rfl (eqIn_fun2 _ ht _ _ _) h
    · cases h
  · cases hx; obtain ⟨B, rfl, _⟩ := hy
    split at h
    · rename_i ht; exact eq_run rfl rfl (eqIn_fun1 _ ht _ _ _) h
    · cases h
  · cases hy; obtain ⟨B, rfl, _⟩ := hx
    split at h
    · rename_i ht; exact eq_run rfl rfl (eqIn_fun2 _ ht _ _ _) h
    · cases h
  · cases hx; cases hy
    split at h
    · rename_i ht; exact eq_run rfl rfl (eqIn_fun0 _ ht) h
    · cases h
  · cases hx; obtain ⟨B, _, rfl⟩ := hy
    split at h
    · rename_i ht; exact eq_run rfl rfl (eqIn_map1 _ ht _) h
    · cases h
  · cases hy; obtain ⟨B, _, rfl⟩ := hx
    split at h
    · rename_i ht; exact eq_run rfl rfl (eqIn_map2 _ ht _) h
    · cases h
  · cases hx; cases hy
    split at h
    · rename_i ht; exact eq_run rfl rfl (eqIn_map0 _ ht) h
    · cases h
  · cases h

theorem nilOp_run {op : BinOp} {t : Nat} {x : AV} {u : Value} {r : AV} (hx : VR g x u) (h : nilOp P op t x = some r) :
    (∃ z, (binOp op t u .nilIface).run P w = .ok z w ∧ VR g r z) ∧ (∃ z, (binOp op t .nilIface u).run P w = .ok z w ∧ VR g r z) ∧ (u = .nilIface ∨ ∃ d y, u = .iface d y) := by
  unfold nilOp at h
  split at h
  · rename_i ms ht
    split at h
    · rename_i q hq
      cases x <;> simp only [isNili, reduceCtorEq, Option.some.injEq] at hq
      · subst hq
        obtain ⟨y, rfl, _⟩ := hx
        exact ⟨eq_run rfl rfl (eqIn_if2 _ ht _ _) h, eq_run rfl rfl (eqIn_if1 _ ht _ _) h, .inr ⟨_, _, rfl⟩⟩
      · subst hq
        cases hx
        exact ⟨eq_run rfl rfl (eqIn_if0 _ ht) h, eq_run rfl rfl (eqIn_if0 _ ht) h, .inl rfl⟩
    · cases h
  · cases h

end
end Go.Sw
/-! Operations on values, as operations of a frame. -/
namespace Go.Sw
open Go

section
variable {P : Program} {n : Nat} {o : Oper} {st : St} {a : Act} {w : World} {g : Gh} {sv : Nat → Option Nat} {ow : Ow}

theorem eqGuard_run {op : BinOp} {t : Nat} {x y : Operand} {u v : Value} (h1 : u ≠ .nilIface ∨ (∃ c, x = .const c) ∨ (∃ c, y = .const c)) (h2 : ∀ cs, u ≠ .agg cs) : (eqGuard op t x y u v).run P w = .ok () w := by
  cases u with
  | agg cs => exact absurd rfl (h2 cs)
  | nilIface =>
    rcases h1 with h1 | ⟨c, rfl⟩ | ⟨c, rfl⟩
    · exact absurd rfl h1
    · cases v <;> cases op <;> rfl
    · cases v <;> cases op <;> cases x <;> rfl
  | _ => cases op <;> rfl

theorem eqGuard_agg {op : BinOp} {t : Nat} {x y : Operand} {u : Array Value} {v : Value} (h : P.eqGuardType P.depth t = false) : (eqGuard op t x y (.agg u) v).run P w = .ok () w := by
  cases v with
  | agg cs => cases op <;> first | rfl | simp [eqGuard, h]
  | _ => cases op <;> rfl

theorem guardType_arr {op : BinOp} {t : Nat} {a b : List AV} {r : AV} (h : evArr P op t a b = some r) : P.eqGuardType P.depth t = false := by
  unfold evArr at h
  split at h
  · rename_i n e ht
    split at h
    · rename_i k he _ _
      have : P.depth = (2 * (P.types.size + Made.depth)) + 1 + 1 := rfl
      rw [this]
      simp [Program.eqGuardType, ht, he]
    · cases h
  · cases h

theorem evBin_shape {op : BinOp} {t : Nat} {x y : AV} {u : Value} {r : AV} (hx : VR g x u) (h : evBin P op t x y = some r) : u ≠ .nilIface ∧ ((∀ cs, u ≠ .agg cs) ∨ (P.eqGuardType P.depth t = false ∧ ∃ cs, u = .agg cs)) := by
  by_cases hag : ∃ cs, x = .agg cs
  · obtain ⟨cs, rfl⟩ := hag
    obtain ⟨vs, rfl, _⟩ := hx
    refine ⟨by simp, .inr ⟨?_, _, rfl⟩⟩
    cases y <;> first | (simp [evBin] at h; done) | exact guardType_arr h
  refine (fun hh => ⟨hh.1, .inl hh.2⟩ : (u ≠ .nilIface ∧ ∀ cs, u ≠ .agg cs) → _) ?_
  cases x <;> first
    | (exact absurd ⟨_, rfl⟩ hag)
    | (simp [evBin] at h; done)
    | ((cases hx; constructor <;> simp); done)
    | ((obtain ⟨_, rfl, _⟩ := hx; constructor <;> simp); done)
    | ((obtain ⟨_, _, rfl⟩ := hx; constructor <;> simp); done)

theorem op_binOp {op : BinOp} {t ty : Nat} {x y : Operand} (hF : FR n st a w g sv ow) (hd : ∀ t, o.dst = some t → t < n) {e : Eff} (ho : o.op = .binOp op t x y ty)
    (he : pureV (do let a ← toAVR (opd st x); let b ← toAVR (opd st y); opt "binOp" (evNil P op t x y a b)) = .ok e) : OpOK P n o a w g ow (applyEff st o.dst e) := by
  obtain ⟨r, h1, rfl⟩ := pureV_ok he
  clear he
  obtain ⟨p, hp, he⟩ := Res.mbind_ok h1
  clear h1
  obtain ⟨q, hq, he⟩ := Res.mbind_ok he
  have hp' := hF.av (toAVR_ok hp)
  have hq' := hF.av (toAVR_ok hq)
  have he := opt_ok he
  have main : ∃ z, (do eqGuard op t x y (a.eval x) (a.eval y); binOp op t (a.eval x) (a.eval y) : Sem Value).run P w = .ok z w ∧ VR g r z := by
    unfold evNil at he
    split at he
    · have hu : a.eval (.const .nilIface) = .nilIface := rfl
      obtain ⟨_, ⟨z, hz, hr⟩, _⟩ := nilOp_run (w := w) hq' he
      refine ⟨z, ?_, hr⟩
      rw [hu]
      simp [eqGuard_run (.inr (.inl ⟨_, rfl⟩)) (by simp : ∀ cs, Value.nilIface ≠ .agg cs), hz]
    · have hu : a.eval (.const .nilIface) = .nilIface := rfl
      obtain ⟨⟨z, hz, hr⟩, _, hs⟩ := nilOp_run (w := w) hp' he
      refine ⟨z, ?_, hr⟩
      rw [hu]
      have h2 : ∀ cs, a.eval x ≠ .agg cs := by rcases hs with h | ⟨_, _, h⟩ <;> simp [h]
      simp [eqGuard_run (.inr (.inr ⟨_, rfl⟩)) h2, hz]
    · obtain ⟨z, hz, hr⟩ := evBin_run (w := w) hp' hq' he
      have hs := evBin_shape hp' he
      rcases hs.2 with h2 | ⟨h2, cs, hcs⟩
      · exact ⟨z, by simp [eqGuard_run (.inl hs.1) h2, hz], hr⟩
      · rw [hcs] at hz ⊢
        exact ⟨z, by simp [eqGuard_agg h2, hz], hr⟩
  obtain ⟨z, hz, hr⟩ := main
  refine opOK_val hF hd ?_ hr
  simp only [execOp, ho]
  simp only [Sem.run_bind] at hz ⊢
  rw [hz]; rfl

/-- a slice and nil. -/
theorem op_nilSl {op : BinOp} {t ty : Nat} {x : Operand} (hF : FR n st a w g sv ow) (hd : ∀ t, o.dst = some t → t < n) {e : Eff} (ho : o.op = .binOp op t x (.const (.slice none 0 0)) ty)
    (he : pureV (opt "binOp: nil slice" (nilSl P op t (opd st x))) = .ok e) : OpOK P n o a w g ow (applyEff st o.dst e) := by
  obtain ⟨r, h1, rfl⟩ := pureV_ok he
  have he := opt_ok h1
  unfold nilSl at he
  split at he
  · rename_i el ht
    split at he
    · rename_i q hq
      have hx := hF.opnd x
      have main : ∃ p l c, a.eval x = .slice p l c ∧ p.isNone = q := by
        unfold isNilSl at hq
        split at hq <;> simp only [Option.some.injEq, reduceCtorEq] at hq <;> subst hq <;> rename_i hs <;> rw [hs] at hx
        · exact ⟨_, _, _, hx, rfl⟩
        · obtain ⟨p, c, h1, _, h3⟩ := hx
          rcases h3 with h3 | ⟨B, off, sz, rfl, _⟩
          · cases h3
          · exact ⟨_, _, _, h1, rfl⟩
        · rcases hx with ⟨h3, _⟩ | ⟨B, cap, h1, _⟩
          · cases h3
          · exact ⟨_, _, _, h1, rfl⟩
        · obtain ⟨B, C, c, _, h1, _⟩ := hx
          exact ⟨_, _, _, h1, rfl⟩
      obtain ⟨p, l, c, hp, hpq⟩ := main
      have hb : a.eval (.const (.slice none 0 0)) = .slice none 0 0 := rfl
      have heq : (Op.equalIn (9999 + 1) t (.slice p l c) (.slice none 0 0)).run P w = .ok q w := by
        rw [← hpq]
        generalize 9999 = dd
        cases p <;> simp [Op.equalIn, run_und ht]
      obtain ⟨z, hz, hr⟩ := eq_run (g := g) rfl rfl heq he
      refine opOK_val hF hd ?_ hr
      simp only [execOp, ho, hp, hb]
      have hg : (eqGuard op t x (.const (.slice none 0 0)) (.slice p l c) (.slice none 0 0)).run P w = .ok () w := by cases op <;> rfl
      simp only [Sem.run_bind, hg, Result.andThen_ok, hz, Sem.run_pure]
    · cases he
  · cases he

theorem op_unOp {op : UnOp} {t : Nat} {x : Operand} (hF : FR n st a w g sv ow) (hd : ∀ t, o.dst = some t → t < n) {e : Eff} (ho : o.op = .unOp op t x)
    (he : pureV (do let a ← toAVR (opd st x); opt "unOp" (evUn op a)) = .ok e) : OpOK P n o a w g ow (applyEff st o.dst e) := by
  obtain ⟨r, h1, rfl⟩ := pureV_ok he
  clear he
  obtain ⟨p, hp, he⟩ := Res.mbind_ok h1
  clear h1
  have hp' := hF.av (toAVR_ok hp)
  have he := opt_ok he
  unfold evUn at he
  split at he
  · cases he
    rename_i k m
    refine opOK_val hF hd (v' := .int k (k.wrap (0 - m))) ?_ (by simp [VR, wr_eq])
    have : a.eval x = .int k m := hp'
    simp [execOp, ho, this, Op.unary, Op.intArith]
  · cases he
    rename_i b
    refine opOK_val hF hd (v' := .bool (!b)) ?_ (by simp [VR])
    have : a.eval x = .bool b := hp'
    simp [execOp, ho, this, Op.unary]
  · cases he
    rename_i k m
    refine opOK_val hF hd (v' := .int k (k.wrap ((BitVec.ofInt k.bits (if k.signed then -1 else k.max) ^^^ BitVec.ofInt k.bits m).toNat))) ?_ (by simp [VR])
    have : a.eval x = .int k m := hp'
    simp [execOp, ho, this, Op.unary, Op.intBits]
  · cases he

theorem bytesOf_VRs {im : List AV} : ∀ (l : List AV) (s : List UInt8) (vs : List Value), bytesOf l = some s → VRs g l vs → vs = s.map fun b => .int .u8 b.toNat
  | [], s, vs, h, hv => by cases h; exact hv
  | .int .u8 m :: l, s, vs, h, ⟨v, vs', e, hv, hr⟩ => by
    simp only [bytesOf] at h
    split at h
    · rename_i r hm hl
      cases h
      simp only [Bool.and_eq_true, decide_eq_true_eq] at hm
      have hv' : v = .int .u8 m := hv
      subst e
      rw [hv', bytesOf_VRs (im := im) l r vs' hl hr]
      simp only [List.map_cons, List.cons.injEq, and_true, Value.int.injEq, true_and]
      have : (UInt8.ofNat m.toNat).toNat = m.toNat := by simp [UInt8.toNat_ofNat']; omega
      rw [this]; omega
    · cases h
  | .int .i8 _ :: _, _, _, h, _ | .int .i16 _ :: _, _, _, h, _ | .int .i32 _ :: _, _, _, h, _ | .int .i64 _ :: _, _, _, h, _ | .int .u16 _ :: _, _, _, h, _ | .int .u32 _ :: _, _, _, h, _ | .int .u64 _ :: _, _, _, h, _ => by cases h
  | .bool _ :: _, _, _, h, _ | .str _ :: _, _, _, h, _ | .list _ :: _, _, _, h, _ | .ref _ _ :: _, _, _, h, _ | .nilp :: _, _, _, h, _ | .map _ :: _, _, _, h, _ | .nilmap :: _, _, _, h, _ | .func _ _ :: _, _, _, h, _
  | .yield _ :: _, _, _, h, _ | .nilf :: _, _, _, h, _ | .iface _ _ :: _, _, _, h, _ | .nili :: _, _, _, h, _ | .agg _ :: _, _, _, h, _ | .nils :: _, _, _, h, _ | .hsl _ _ _ _ _ :: _, _, _, h, _ => by cases h

end
end Go.Sw
/-! More operations on values; parts of aggregates; addresses. -/
namespace Go.Sw
open Go

theorem VRs_length {g : Gh} : ∀ (l : List AV) (vs : List Value), VRs g l vs → vs.length = l.length
  | [], _, h => by cases h; rfl
  | _ :: l, _, ⟨_, vs', e, _, h⟩ => by subst e; simp [VRs_length l vs' h]
theorem VRs_get {g : Gh} : ∀ (l : List AV) (vs : List Value), VRs g l vs → ∀ (i : Nat) (x : AV), l[i]? = some x → ∃ v, vs[i]? = some v ∧ VR g x v
  | [], _, _, i, x, hx => by simp at hx
  | y :: l, _, ⟨v, vs', e, h, hr⟩, 0, x, hx => by subst e; simp at hx; subst hx; exact ⟨v, rfl, h⟩
  | y :: l, _, ⟨v, vs', e, h, hr⟩, i + 1, x, hx => by subst e; simpa using VRs_get l vs' hr i x (by simpa using hx)
theorem VRs_of {g : Gh} : ∀ (l : List AV) (vs : List Value), vs.length = l.length → (∀ (i : Nat) (x : AV), l[i]? = some x → ∃ v, vs[i]? = some v ∧ VR g x v) → VRs g l vs
  | [], [], _, _ => rfl
  | [], _ :: _, h, _ => by simp at h
  | _ :: _, [], h, _ => by simp at h
  | x :: l, v :: vs, h, hg => by
    obtain ⟨u, h1, h2⟩ := hg 0 x rfl
    simp at h1; subst h1
    exact ⟨v, vs, rfl, h2, VRs_of l vs (by simpa using h) (fun i y hy => by simpa using hg (i + 1) y (by simpa using hy))⟩
theorem VRs_drop {g : Gh} {l : List AV} {vs : List Value} (h : VRs g l vs) (k : Nat) : VRs g (l.drop k) (vs.drop k) :=
  VRs_of _ _ (by simp [VRs_length _ _ h]) (fun i x hx => by simpa using VRs_get _ _ h (k + i) x (by simpa using hx))
theorem VRs_take {g : Gh} {l : List AV} {vs : List Value} (h : VRs g l vs) (k : Nat) : VRs g (l.take k) (vs.take k) :=
  VRs_of _ _ (by simp [VRs_length _ _ h]) (fun i x hx => by
    have hi : i < k := by
      rcases Nat.lt_or_ge i k with h | h
      · exact h
      · rw [List.getElem?_eq_none (by simp; omega)] at hx; cases hx
    rw [List.getElem?_take_of_lt hi] at hx ⊢
    exact VRs_get _ _ h i x hx)

/-- the cells of an element. -/
theorem VR.cells {g : Gh} {x : AV} {v : Value} (h : VR g x v) (hv : ∀ cs, x ≠ .agg cs → Cell1 v) : VRs g (cellsOfAV x) v.cells.toList := by
  cases x with
  | agg cs => obtain ⟨vs, rfl, h⟩ := h; exact h
  | _ =>
    have h1 := hv [] (by simp)
    have : v.cells = #[v] := by cases v <;> first | rfl | (simp [Cell1, Value.oneCell'] at h1)
    rw [this]; exact ⟨v, [], rfl, h, rfl⟩

section
variable {P : Program} {n : Nat} {o : Oper} {st : St} {a : Act} {w : World} {g : Gh} {sv : Nat → Option Nat} {ow : Ow}

theorem isAggT_run {t : Nat} {b : Bool} (h : isAggT P t = some b) : (isAgg t).run P w = .ok b w := by
  unfold isAggT at h
  unfold isAgg
  split at h
  · cases h; rename_i hu; simp [run_und hu]
  · cases h; rename_i hu; simp [run_und hu]
  · cases h; rename_i d h1 h2 hu
    simp only [Sem.run_bind, run_und hu, Result.andThen_ok]
    cases d <;> first | rfl | exact absurd rfl (h1 _) | exact absurd rfl (h2 _ _)
  · cases h
theorem sizeT_run {t m : Nat} (h : sizeT P t = some m) : (sizeOf t).run P w = .ok m w := by
  obtain ⟨i, h1, rfl⟩ := sizeT_info h
  simp [sizeOf, typeInfo, h1]
theorem typeInfo_run {t : Nat} {i : TypeInfo} (h : P.info? t = some i) : (typeInfo t).run P w = .ok i w := by simp [typeInfo, h]

theorem fieldOf_und {t f off ft : Nat} (h : fieldOf P t f = some (off, ft)) : ∃ fs fd, P.underlying t = some (.struct fs) ∧ fs[f]? = some fd ∧ fd.offset = off ∧ fd.type = ft := by
  unfold fieldOf at h
  split at h
  · rename_i fs hu
    split at h
    · rename_i fd hf; cases h; exact ⟨fs, fd, hu, hf, rfl, rfl⟩
    · cases h
  · cases h

theorem sliceL_some {α : Type} {l r : List α} {off m : Nat} (h : sliceL l off m = some r) : r = (l.drop off).take m ∧ r.length = m := by
  unfold sliceL at h
  split at h
  · rename_i hb; cases h; exact ⟨rfl, Nat.eq_of_beq_eq_true hb⟩
  · cases h

theorem partV_run {t off : Nat} {cs : List AV} {vs : Array Value} {r : AV} (hv : VRs g cs vs.toList) (h : partV P t cs off = .ok r) : ∃ z, (part t vs off).run P w = .ok z w ∧ VR g r z := by
  unfold partV at h
  obtain ⟨ag, hag, h⟩ := Res.mbind_ok h
  obtain ⟨m, hm, h⟩ := Res.mbind_ok h
  have hag := opt_ok hag
  have hm := opt_ok hm
  cases ag with
  | true =>
    obtain ⟨l, hl, h⟩ := Res.mbind_ok h
    cases h
    obtain ⟨hl1, hl2⟩ := sliceL_some (opt_ok hl)
    refine ⟨.agg (vs.extract off (off + m)), by simp [part, isAggT_run hag, sizeT_run hm], ⟨_, rfl, ?_⟩⟩
    have := VRs_take (VRs_drop hv off) m
    rw [hl1]
    simpa using this
  | false =>
    have h := opt_ok h
    obtain ⟨v, h1, h2⟩ := VRs_get _ _ hv off r h
    refine ⟨v, ?_, h2⟩
    have : vs[off]? = some v := by simpa using h1
    simp [part, isAggT_run hag, this]

theorem op_field {t f : Nat} {x : Operand} (hF : FR n st a w g sv ow) (hd : ∀ t, o.dst = some t → t < n) {e : Eff} (ho : o.op = .field t x f)
    (he : pureV (do let a ← toAVR (opd st x); evField P t a f) = .ok e) : OpOK P n o a w g ow (applyEff st o.dst e) := by
  obtain ⟨r, h1, rfl⟩ := pureV_ok he
  clear he
  obtain ⟨p, hp, he⟩ := Res.mbind_ok h1
  have hp' := hF.av (toAVR_ok hp)
  unfold evField at he
  split at he
  · obtain ⟨⟨off, ft⟩, hf, he⟩ := Res.mbind_ok he
    obtain ⟨fs, fd, hu, hfd, rfl, rfl⟩ := fieldOf_und (opt_ok hf)
    obtain ⟨vs, hvs, hr⟩ := hp'
    obtain ⟨z, hz, hr⟩ := partV_run (w := w) hr he
    refine opOK_val hF hd ?_ hr
    simp [execOp, ho, Instr.field, run_und hu, hfd, hvs, asAgg, hz]
  · cases he

theorem idx_some {α : Type} {l : List α} {i : Int} {x : α} (h : idx l i = some x) : 0 ≤ i ∧ l[i.toNat]? = some x := by
  unfold idx at h
  split at h
  · rename_i h0; exact ⟨of_decide_eq_true h0, h⟩
  · cases h
theorem inRange_ok {i : Int} {m : Nat} (h : inRange i m = true) : 0 ≤ i ∧ i < m := by
  simp only [inRange, Bool.and_eq_true, decide_eq_true_eq] at h; exact h

theorem op_index {t : Nat} {x i : Operand} (hF : FR n st a w g sv ow) (hd : ∀ t, o.dst = some t → t < n) {e : Eff} (ho : o.op = .index t x i)
    (he : pureV (do let a ← toAVR (opd st x); let b ← toAVR (opd st i); evIndex P t a b) = .ok e) : OpOK P n o a w g ow (applyEff st o.dst e) := by
  obtain ⟨r, h1, rfl⟩ := pureV_ok he
  clear he
  obtain ⟨p, hp, h2⟩ := Res.mbind_ok h1
  clear h1
  obtain ⟨q, hq, he⟩ := Res.mbind_ok h2
  clear h2
  have hp' := hF.av (toAVR_ok hp)
  have hq' := hF.av (toAVR_ok hq)
  unfold evIndex at he
  split at he
  · rename_i k m s
    split at he
    · rename_i hu
      obtain ⟨b, hb, he⟩ := Res.mbind_ok he
      cases he
      obtain ⟨h0, hb⟩ := idx_some (opt_ok hb)
      obtain ⟨bs, hbs, hs⟩ := hp'
      have hq'' : a.eval i = .int k m := hq'
      refine opOK_val hF hd (v' := .int .u8 b.toNat) ?_ (by simp [VR])
      have : bs[m.toNat]? = some b := by
        rw [← hs] at hb
        have hlt : m.toNat < bs.size := by
          rcases Nat.lt_or_ge m.toNat bs.data.toList.length with h | h
          · simpa using h
          · rw [List.getElem?_eq_none h] at hb; cases hb
        have h2 : m.toNat < bs.data.toList.length := by simpa using hlt
        rw [List.getElem?_eq_getElem h2] at hb
        rw [getElem?_pos bs m.toNat hlt]
        cases hb; simp [ByteArray.getElem_eq_getElem_data]
      simp [execOp, ho, Instr.index, hq'', asIntOf, run_und hu, hbs, h0, this]
    · cases he
  · rename_i k m cs
    split at he
    · rename_i len el hu
      obtain ⟨hr, he⟩ := guardR_ok he
      obtain ⟨h0, h1⟩ := inRange_ok hr
      obtain ⟨sz, hsz, he⟩ := Res.mbind_ok he
      obtain ⟨vs, hvs, hv⟩ := hp'
      obtain ⟨z, hz, hr⟩ := partV_run (w := w) hv he
      have hq'' : a.eval i = .int k m := hq'
      refine opOK_val hF hd ?_ hr
      simp [execOp, ho, Instr.index, hq'', asIntOf, run_und hu, hvs, h0, h1, sizeT_run (opt_ok hsz), hz]
    · cases he
  · cases he

theorem op_makeInterface {t : Nat} {x : Operand} (hF : FR n st a w g sv ow) (hd : ∀ t, o.dst = some t → t < n) {e : Eff} (ho : o.op = .makeInterface t x)
    (he : pureV (evMakeInterface P t (opd st x)) = .ok e) : OpOK P n o a w g ow (applyEff st o.dst e) := by
  obtain ⟨r, h1, rfl⟩ := pureV_ok he
  clear he
  obtain ⟨p, hp, he⟩ := Res.mbind_ok h1
  have hp' := hF.av (toAVR_ok hp)
  split at he
  · cases he
  · rename_i d hni hu
    cases he
    refine opOK_val hF hd (v' := .iface t (a.eval x)) ?_ ⟨_, rfl, hp'⟩
    simp only [execOp, ho, Instr.makeInterface, Sem.run_bind, run_und hu, Result.andThen_ok]
    cases d <;> first | rfl | exact absurd rfl (hni _)
  · cases he

theorem argsR_VRs (hF : FR n st a w g sv ow) : ∀ (l : List Operand) (xs : List AV), (do let xs ← argsR (l.map (opd st)); Res.ok xs) = Res.ok xs → VRs g xs (l.map a.eval)
  | [], xs, h => by cases h; rfl
  | x :: l, xs, h => by
    obtain ⟨ys, h, h'⟩ := Res.mbind_ok h
    cases h'
    obtain ⟨y, hy, h⟩ := Res.bind_ok h
    obtain ⟨zs, hz, h⟩ := Res.bind_ok h
    cases h
    refine ⟨_, _, rfl, ?_, argsR_VRs hF l zs (by show Res.bind _ _ = _; rw [hz]; rfl)⟩
    unfold toArg at hy
    split at hy
    · rename_i hx; cases hy
      have := hF.opnd x
      rw [hx] at this
      exact this
    · exact hF.av (toAVR_ok hy)

theorem op_makeFunc {f : Nat} {first captured : Array Operand} (hF : FR n st a w g sv ow) (hd : ∀ t, o.dst = some t → t < n) {e : Eff} (ho : o.op = .makeFunc (.func f) first captured) (hfirst : first.toList = [])
    (he : pureV (do let xs ← argsR (captured.toList.map (opd st)); .ok (.func f xs)) = .ok e) : OpOK P n o a w g ow (applyEff st o.dst e) := by
  obtain ⟨r, h1, rfl⟩ := pureV_ok he
  clear he
  obtain ⟨p, hp, he⟩ := Res.mbind_ok h1
  cases he
  have hv := argsR_VRs hF captured.toList p (by show Res.bind _ _ = _; rw [hp]; rfl)
  have hf : first = #[] := by cases first; simpa using hfirst
  refine opOK_val hF hd (v' := .func (.func f) #[] (captured.map a.eval)) ?_ ⟨_, rfl, by simpa using hv⟩
  simp [execOp, ho, Instr.makeFunc, hf]

theorem op_makeMeth {f : Nat} {first captured : Array Operand} (hF : FR n st a w g sv ow) (hd : ∀ t, o.dst = some t → t < n) {e : Eff} (ho : o.op = .makeFunc (.func f) first captured) (hcap : captured.toList = [])
    (he : pureV (do let xs ← argsR (first.toList.map (opd st)); .ok (.meth f xs)) = .ok e) : OpOK P n o a w g ow (applyEff st o.dst e) := by
  obtain ⟨r, h1, rfl⟩ := pureV_ok he
  clear he
  obtain ⟨p, hp, he⟩ := Res.mbind_ok h1
  cases he
  have hv := argsR_VRs hF first.toList p (by show Res.bind _ _ = _; rw [hp]; rfl)
  have hf : captured = #[] := by cases captured; simpa using hcap
  refine opOK_val hF hd (v' := .func (.func f) (first.map a.eval) #[]) ?_ ⟨_, rfl, by simpa using hv⟩
  simp [execOp, ho, Instr.makeFunc, hf]

end
end Go.Sw

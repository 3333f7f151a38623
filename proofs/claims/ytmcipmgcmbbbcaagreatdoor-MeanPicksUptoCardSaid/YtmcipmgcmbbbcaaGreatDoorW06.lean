/- A reflective evaluator over the code of a program, and the proof that what it finds is what the machine of the model does. It asks of the program what ProgOK says; nothing of a law is said here. -/
import Derived.Test.YtmcipmgcmbbbcaaGreatDoorW05
/-! An operation of a region as writes at places. -/
namespace Go.Sw
open Go

/-- what an operation looks at. -/
def Rds (f : Foot) (A : Option Nat) (st : St) : Loc → Prop
  | .t n => n ∈ f.rt
  | .b n => n ∈ f.rs
  | .c r => (f.all = true ∨ f.ra = true) ∨ (f.rc = true ∧ cellsAt st.heap r ≠ none)
  | .m r => (f.all = true ∨ f.ra = true) ∨ (f.rm = true ∧ mapAt st.heap r ≠ none)
  | .w r => (f.all = true ∨ f.ra = true) ∨ (f.rr = true ∧ rowAt st.heap r ≠ none)
  | .x r => (f.all = true ∨ f.ra = true) ∨ (f.al = true ∧ A = some r)
  | .d => f.all = true
/-- what an operation writes. -/
def Wrs (f : Foot) (A : Option Nat) (st : St) : Loc → Prop
  | .t n => n ∈ f.wt
  | .b n => n ∈ f.ws
  | .c r => f.all = true ∨ (f.wc = true ∧ cellsAt st.heap r ≠ none) ∨ (f.al = true ∧ A = some r)
  | .m r => f.all = true ∨ (f.wm = true ∧ mapAt st.heap r ≠ none) ∨ (f.al = true ∧ A = some r)
  | .w r => f.all = true ∨ (f.wr = true ∧ rowAt st.heap r ≠ none) ∨ (f.al = true ∧ A = some r)
  | .x r => f.all = true ∨ (f.al = true ∧ A = some r)
  | .d => f.all = true

/-- objects stay of their kind. -/
def KeepC (H H' : Heap) : Prop := ∀ r, (cellsAt H r ≠ none → cellsAt H' r ≠ none) ∧ (mapAt H r ≠ none → mapAt H' r ≠ none) ∧ (rowAt H r ≠ none → rowAt H' r ≠ none)

theorem KeepC.refl (H : Heap) : KeepC H H := fun _ => ⟨id, id, id⟩

/-- a write of one object. -/
def objδ (y : HO) (r : Nat) (lay : Bool) : Loc → Option LV
  | .c r' => match Nat.beq r r', y with | true, .cells cs => some (.c (some cs)) | _, _ => none
  | .m r' => match Nat.beq r r', y with | true, .map es => some (.m (some es)) | _, _ => none
  | .w r' => match Nat.beq r r', y with | true, .row v sz l => some (.w (some (v, sz, l))) | _, _ => none
  | .x r' => match Nat.beq r r', lay with | true, true => some (.x (some (bareHO y))) | _, _ => none
  | _ => none
def allδ (H : Heap) : Loc → Option LV
  | .c r => some (.c (cellsAt H r))
  | .m r => some (.m (mapAt H r))
  | .w r => some (.w (rowAt H r))
  | .x r => some (.x (bareAt H r))
  | _ => none

/-- of the kinds that a write of an object asks for. -/
def Kin (H : Heap) (r : Nat) (y : HO) (lay : Bool) : Prop :=
  match lay with
  | true => H[r]? = some HO.free
  | false => (∃ cs cs', H[r]? = some (HO.cells cs) ∧ y = .cells cs') ∨ (∃ es es', H[r]? = some (HO.map es) ∧ y = .map es') ∨ (∃ v sz l v' sz' l', H[r]? = some (HO.row v sz l) ∧ y = .row v' sz' l')

theorem beq_cases (r r' : Nat) : (Nat.beq r r' = true ∧ r = r') ∨ (Nat.beq r r' = false ∧ r ≠ r') := by
  by_cases h : r = r'
  · subst h; simp
  · right
    refine ⟨?_, h⟩
    cases hb : Nat.beq r r' with
    | false => rfl
    | true => exact absurd (Nat.eq_of_beq_eq_true hb) h

theorem set_get {H : Heap} {r r' : Nat} {y o : HO} (h : H[r]? = some o) : (H.set r y)[r']? = if r = r' then some y else H[r']? := by
  have hlt : r < H.length := by
    rcases Nat.lt_or_ge r H.length with h' | h'
    · exact h'
    · rw [List.getElem?_eq_none h'] at h; cases h
  rw [List.getElem?_set]
  by_cases e : r = r'
  · subst e; simp [hlt]
  · simp [e]

theorem objδ_rd {st st' : St} {r : Nat} {y : HO} {lay : Bool} (hk : Kin st.heap r y lay) (h : st'.heap = st.heap.set r y) :
    (∀ q, rd st' (.c q) = (objδ y r lay (.c q)).getD (rd st (.c q))) ∧ (∀ q, rd st' (.m q) = (objδ y r lay (.m q)).getD (rd st (.m q))) ∧ (∀ q, rd st' (.w q) = (objδ y r lay (.w q)).getD (rd st (.w q))) ∧ (∀ q, rd st' (.x q) = (objδ y r lay (.x q)).getD (rd st (.x q))) := by
  have ho : ∃ o, st.heap[r]? = some o := by
    unfold Kin at hk
    cases lay with
    | true => exact ⟨_, hk⟩
    | false => rcases hk with ⟨_, _, h, _⟩ | ⟨_, _, h, _⟩ | ⟨_, _, _, _, _, _, h, _⟩ <;> exact ⟨_, h⟩
  obtain ⟨o, ho⟩ := ho
  have hg : ∀ q, st'.heap[q]? = if r = q then some y else st.heap[q]? := fun q => by rw [h]; exact set_get ho
  refine ⟨fun q => ?_, fun q => ?_, fun q => ?_, fun q => ?_⟩ <;> simp only [rd, cellsAt, mapAt, rowAt, bareAt, hg, objδ] <;>
    (rcases beq_cases r q with ⟨hb, e⟩ | ⟨hb, e⟩ <;> simp only [hb, e, if_true, if_false])
  all_goals (try rfl)
  all_goals
    subst e
    unfold Kin at hk
    cases lay with
    | true => simp only at hk; cases y <;> simp [hk]
    | false => rcases hk with ⟨_, _, h0, rfl⟩ | ⟨_, _, h0, rfl⟩ | ⟨_, _, _, _, _, _, h0, rfl⟩ <;> simp [h0, bareHO]

theorem keepC_set {H : Heap} {r : Nat} {y : HO} {lay : Bool} (hk : Kin H r y lay) : KeepC H (H.set r y) := by
  intro q
  have ho : ∃ o, H[r]? = some o := by
    unfold Kin at hk
    cases lay with
    | true => exact ⟨_, hk⟩
    | false => rcases hk with ⟨_, _, h, _⟩ | ⟨_, _, h, _⟩ | ⟨_, _, _, _, _, _, h, _⟩ <;> exact ⟨_, h⟩
  obtain ⟨o, ho⟩ := ho
  simp only [cellsAt, mapAt, rowAt, set_get ho]
  by_cases e : r = q
  · subst e
    simp only [if_true]
    unfold Kin at hk
    cases lay with
    | true => simp only at hk; simp [hk]
    | false => rcases hk with ⟨_, _, h, rfl⟩ | ⟨_, _, h, rfl⟩ | ⟨_, _, _, _, _, _, h, rfl⟩ <;> simp [h]
  · simp [e]


theorem allδ_rd {st st' : St} {H : Heap} (h : st'.heap = H) : (∀ q, rd st' (.c q) = (allδ H (.c q)).getD (rd st (.c q))) ∧ (∀ q, rd st' (.m q) = (allδ H (.m q)).getD (rd st (.m q))) ∧ (∀ q, rd st' (.w q) = (allδ H (.w q)).getD (rd st (.w q))) ∧ (∀ q, rd st' (.x q) = (allδ H (.x q)).getD (rd st (.x q))) := by
  subst h
  exact ⟨fun _ => rfl, fun _ => rfl, fun _ => rfl, fun _ => rfl⟩

theorem assoc_set (s : Nat) (c : List Slot) (t : Nat) : ∀ l, assoc t (assocSet s c l) = if s = t then some c else assoc t l
  | [] => by rcases beq_cases s t with ⟨hb, e⟩ | ⟨hb, e⟩ <;> simp [assocSet, assoc, hb, e]
  | (k, d) :: l => by
    have ih := assoc_set s c t l
    rcases beq_cases k s with ⟨hb, e⟩ | ⟨hb, e⟩
    · subst e
      rcases beq_cases k t with ⟨hb2, e2⟩ | ⟨hb2, e2⟩ <;> simp [assocSet, assoc, hb2, e2]
    · rcases beq_cases k t with ⟨hb2, e2⟩ | ⟨hb2, e2⟩
      · subst e2
        simp [assocSet, assoc, hb, Ne.symm e]
      · simp [assocSet, assoc, hb, hb2, ih]

/-- what an effect writes beside the heap. -/
def effδ (d : Option Nat) (e : Eff) (hδ : Loc → Option LV) : Loc → Option LV
  | .t n => match d, e.src with
    | some t, some (y, s) => if t = n then some (.s e.dst) else if y = n then some (.s s) else none
    | some t, none => if t = n then some (.s e.dst) else none
    | none, some (y, s) => if y = n then some (.s s) else none
    | none, none => none
  | .b n => match e.box with | some (s, cs) => if s = n then some (.b (some cs)) else none | none => none
  | .d => none
  | l => hδ l

theorem effδ_rd {st : St} {d : Option Nat} {e e2 : Eff} {hδ : Loc → Option LV} (h1 : e2.dst = e.dst) (h2 : e2.src = e.src) (h3 : e2.box = e.box)
    (hh : (∀ q, rd (applyEff st d e2) (.c q) = (hδ (.c q)).getD (rd st (.c q))) ∧ (∀ q, rd (applyEff st d e2) (.m q) = (hδ (.m q)).getD (rd st (.m q))) ∧ (∀ q, rd (applyEff st d e2) (.w q) = (hδ (.w q)).getD (rd st (.w q))) ∧ (∀ q, rd (applyEff st d e2) (.x q) = (hδ (.x q)).getD (rd st (.x q)))) :
    ∀ x, rd (applyEff st d e2) x = (effδ d e hδ x).getD (rd st x) := by
  intro x
  cases x with
  | t n =>
    simp only [rd, applyEff, effδ, h1, h2]
    cases d with
    | none =>
      cases hs : e.src with
      | none => rfl
      | some p => simp only [putT, setT, getT_cons]; split <;> rfl
    | some t =>
      cases hs : e.src with
      | none => simp only [putT, setT, getT_cons]; split <;> rfl
      | some p => simp only [putT, setT, getT_cons]; split <;> (try split) <;> rfl
  | b n =>
    simp only [rd, applyEff, effδ, h3]
    cases hb : e.box with
    | none => rfl
    | some p => simp only [assoc_set]; split <;> rfl
  | d => rfl
  | c r => exact hh.1 r
  | m r => exact hh.2.1 r
  | w r => exact hh.2.2.1 r
  | x r => exact hh.2.2.2 r

theorem noneδ_rd {st st' : St} (h : st'.heap = st.heap) : (∀ q, rd st' (.c q) = ((fun _ => none : Loc → Option LV) (.c q)).getD (rd st (.c q))) ∧ (∀ q, rd st' (.m q) = ((fun _ => none : Loc → Option LV) (.m q)).getD (rd st (.m q))) ∧ (∀ q, rd st' (.w q) = ((fun _ => none : Loc → Option LV) (.w q)).getD (rd st (.w q))) ∧ (∀ q, rd st' (.x q) = ((fun _ => none : Loc → Option LV) (.x q)).getD (rd st (.x q))) := by
  simp [rd, h]

section
variable {o : Oper} {st st2 st' : St} {A : Option Nat} {C : Cfg} {call : Call} {h : Hint} {ops : Array Oper}

theorem opd_rd {x : Operand} (hx : ∀ t, x = .tmp t → rd st2 (.t t) = rd st (.t t)) : opd st2 x = opd st x := by
  cases x with
  | tmp t => have := hx t rfl; simpa [rd, opd] using this
  | _ => rfl

theorem cells_get {H : Heap} {r : Nat} {cs : List Slot} : cellsAt H r = some cs ↔ H[r]? = some (HO.cells cs) := by
  unfold cellsAt
  split <;> simp_all
theorem map_get {H : Heap} {r : Nat} {cs : List (AV × Slot)} : mapAt H r = some cs ↔ H[r]? = some (HO.map cs) := by
  unfold mapAt
  split <;> simp_all
theorem row_get {H : Heap} {r v sz : Nat} {l : List AV} : rowAt H r = some (v, sz, l) ↔ H[r]? = some (HO.row v sz l) := by
  unfold rowAt
  split
  · rename_i v' sz' l' hr; simp [hr]
  · rename_i hr; simp only [false_iff, reduceCtorEq]; exact fun he => hr _ _ _ he
theorem bare_free {H : Heap} {r : Nat} : bareAt H r = some .free ↔ H[r]? = some HO.free := by
  unfold bareAt
  cases H[r]? with
  | none => simp
  | some o => cases o <;> simp [bareHO]

theorem agree_of_rd {f : Foot} (hrt : ∀ t, t ∈ tmpsOf o.op.operands.toList → t ∈ f.rt) (hal : f.al = true → A ≠ none) (hr : ∀ x, Rds f A st x → rd st2 x = rd st x) : Agree f o (envOf A st) (envOf A st2) := by
  refine ⟨rfl, fun x hx => ?_, fun s hs => ?_, fun hc r cs he => ?_, fun hc r es he => ?_, fun hc r v sz l he => ?_, fun hc r ha he => ?_, hal, fun ha => ?_, fun ha => ?_⟩
  · exact opd_rd fun t ht => hr (.t t) (hrt t (by subst ht; exact mem_tmps hx))
  · have := hr (.b s) hs; simpa [rd, envOf] using this
  · have he' := cells_get.mpr he
    have := hr (.c r) (.inr ⟨hc, by show cellsAt st.heap r ≠ none; rw [show cellsAt st.heap r = some cs from he']; simp⟩)
    simp only [rd, LV.c.injEq] at this
    exact cells_get.mp (this.trans he')
  · have he' := map_get.mpr he
    have := hr (.m r) (.inr ⟨hc, by show mapAt st.heap r ≠ none; rw [show mapAt st.heap r = some es from he']; simp⟩)
    simp only [rd, LV.m.injEq] at this
    exact map_get.mp (this.trans he')
  · have he' := row_get.mpr he
    have := hr (.w r) (.inr ⟨hc, by show rowAt st.heap r ≠ none; rw [show rowAt st.heap r = some (v, sz, l) from he']; simp⟩)
    simp only [rd, LV.w.injEq] at this
    exact row_get.mp (this.trans he')
  · have he' := bare_free.mpr he
    have := hr (.x r) (.inr ⟨hc, ha⟩)
    simp only [rd, LV.x.injEq] at this
    exact bare_free.mp (this.trans he')
  · show st2.heap = st.heap
    exact heap_ext (fun r => by have := hr (.c r) (.inl (.inl ha)); simpa [rd] using this) (fun r => by have := hr (.m r) (.inl (.inl ha)); simpa [rd] using this) (fun r => by have := hr (.w r) (.inl (.inl ha)); simpa [rd] using this) (fun r => by have := hr (.x r) (.inl (.inl ha)); simpa [rd] using this)
  · show st2.heap = st.heap
    exact heap_ext (fun r => by have := hr (.c r) (.inl (.inr ha)); simpa [rd] using this) (fun r => by have := hr (.m r) (.inl (.inr ha)); simpa [rd] using this) (fun r => by have := hr (.w r) (.inl (.inr ha)); simpa [rd] using this) (fun r => by have := hr (.x r) (.inl (.inr ha)); simpa [rd] using this)

/-- writes that an operation makes, wherever it finds the same. -/
structure IsDelta (run : St → Res St) (f : Foot) (A : Option Nat) (st st' : St) (δ : Loc → Option LV) : Prop where
  here : ∀ x, rd st' x = (δ x).getD (rd st x)
  wrs : ∀ x, δ x ≠ none → Wrs f A st x
  keep : f.all = false → KeepC st.heap st'.heap
  else_ : ∀ st2, (∀ x, Rds f A st x → rd st2 x = rd st x) → ∃ st2', run st2 = .ok st2' ∧ ∀ x, rd st2' x = (δ x).getD (rd st2 x)

theorem foot_wr (f : Foot) (hf : f = footOp C h o (opd st)) : (f.wc = true → f.rc = true) ∧ (f.wm = true → f.rm = true) ∧ (f.wr = true → f.rr = true) := by
  subst hf
  unfold footOp
  cases o.op <;> simp only <;> (try split) <;> (try split) <;> (try split) <;> simp_all [allF]


/-- what of the heap has become other. -/
noncomputable def difδ (st st' : St) : Loc → Option LV := fun l => by
  classical
  exact if rd st' l = rd st l then none else some (rd st' l)

theorem difδ_here {st st' : St} (l : Loc) : rd st' l = (difδ st st' l).getD (rd st l) := by
  unfold difδ
  split <;> simp_all

theorem Kin_of_HW {f : Foot} {E : Env} {r : Nat} {y : HO} (hw : HW f E r y) : ∃ lay, Kin E.H r y lay ∧ (lay = true → f.al = true ∧ E.A = some r ∧ ((∃ cs, y = .cells cs) ∨ (∃ es, y = .map es) ∨ ∃ v sz l, y = .row v sz l)) ∧
    (lay = false → (∀ cs, y = .cells cs → f.wc = true) ∧ (∀ es, y = .map es → f.wm = true) ∧ (∀ v sz l, y = .row v sz l → f.wr = true)) := by
  rcases hw with ⟨h0, cs, cs', h1, rfl⟩ | ⟨h0, cs, cs', h1, rfl⟩ | ⟨h0, v, sz, l, v', sz', l', h1, rfl⟩ | ⟨h0, h1, h2, h3⟩
  · exact ⟨false, .inl ⟨cs, cs', h1, rfl⟩, by simp, fun _ => ⟨fun _ _ => h0, by simp, by simp⟩⟩
  · exact ⟨false, .inr (.inl ⟨cs, cs', h1, rfl⟩), by simp, fun _ => ⟨by simp, fun _ _ => h0, by simp⟩⟩
  · exact ⟨false, .inr (.inr ⟨_, _, _, _, _, _, h1, rfl⟩), by simp, fun _ => ⟨by simp, by simp, fun _ _ _ _ => h0⟩⟩
  · exact ⟨true, h2, fun _ => ⟨h0, h1, h3⟩, by simp⟩

/-- a place of the heap that a write of an object reaches. -/
theorem objδ_some {f : Foot} {st : St} {r : Nat} {y : HO} {lay : Bool} (hk : Kin st.heap r y lay)
    (h1 : lay = true → f.al = true ∧ A = some r ∧ ((∃ cs, y = .cells cs) ∨ (∃ es, y = .map es) ∨ ∃ v sz l, y = .row v sz l))
    (h2 : lay = false → (∀ cs, y = .cells cs → f.wc = true) ∧ (∀ es, y = .map es → f.wm = true) ∧ (∀ v sz l, y = .row v sz l → f.wr = true))
    (h3 : (f.wc = true → f.rc = true) ∧ (f.wm = true → f.rm = true) ∧ (f.wr = true → f.rr = true)) {l : Loc} {v : LV} (hl : objδ y r lay l = some v) :
    Wrs f A st l ∧ (rd st l = v → Rds f A st l) := by
  unfold objδ at hl
  split at hl
  · rename_i r'
    split at hl
    · rename_i cs hb
      have hb := Nat.eq_of_beq_eq_true hb
      cases hl
      subst hb
      cases lay with
      | true =>
        obtain ⟨a1, a2, _⟩ := h1 rfl
        have hk' : st.heap[r]? = some HO.free := hk
        exact ⟨.inr (.inr ⟨a1, a2⟩), fun he => by simp [rd, cellsAt, hk'] at he⟩
      | false =>
        have a := (h2 rfl).1 cs rfl
        have hk' : cellsAt st.heap r ≠ none := by
          rcases hk with ⟨c1, c2, h, _⟩ | ⟨_, _, _, h⟩ | ⟨_, _, _, _, _, _, _, h⟩
          · rw [cells_get.mpr h]; simp
          · cases h
          · cases h
        exact ⟨.inr (.inl ⟨a, hk'⟩), fun _ => .inr ⟨h3.1 a, hk'⟩⟩
    · cases hl
  · rename_i r'
    split at hl
    · rename_i cs hb
      have hb := Nat.eq_of_beq_eq_true hb
      cases hl
      subst hb
      cases lay with
      | true =>
        obtain ⟨a1, a2, _⟩ := h1 rfl
        have hk' : st.heap[r]? = some HO.free := hk
        exact ⟨.inr (.inr ⟨a1, a2⟩), fun he => by simp [rd, mapAt, hk'] at he⟩
      | false =>
        have a := (h2 rfl).2.1 cs rfl
        have hk' : mapAt st.heap r ≠ none := by
          rcases hk with ⟨_, _, _, h⟩ | ⟨c1, c2, h, _⟩ | ⟨_, _, _, _, _, _, _, h⟩
          · cases h
          · rw [map_get.mpr h]; simp
          · cases h
        exact ⟨.inr (.inl ⟨a, hk'⟩), fun _ => .inr ⟨h3.2.1 a, hk'⟩⟩
    · cases hl
  · rename_i r'
    split at hl
    · rename_i v0 sz0 l0 hb
      have hb := Nat.eq_of_beq_eq_true hb
      cases hl
      subst hb
      cases lay with
      | true =>
        obtain ⟨a1, a2, _⟩ := h1 rfl
        have hk' : st.heap[r]? = some HO.free := hk
        exact ⟨.inr (.inr ⟨a1, a2⟩), fun he => by simp [rd, rowAt, hk'] at he⟩
      | false =>
        have a := (h2 rfl).2.2 _ _ _ rfl
        have hk' : rowAt st.heap r ≠ none := by
          rcases hk with ⟨_, _, _, h⟩ | ⟨_, _, _, h⟩ | ⟨_, _, _, _, _, _, h, _⟩
          · cases h
          · cases h
          · rw [row_get.mpr h]; simp
        exact ⟨.inr (.inl ⟨a, hk'⟩), fun _ => .inr ⟨h3.2.2 a, hk'⟩⟩
    · cases hl
  · rename_i r'
    rcases beq_cases r r' with ⟨hb, e⟩ | ⟨hb, e⟩
    · cases lay <;> simp only [hb] at hl <;> cases hl
      subst e
      obtain ⟨a1, a2, a3⟩ := h1 rfl
      have hk' : st.heap[r]? = some HO.free := hk
      refine ⟨.inr ⟨a1, a2⟩, fun he => ?_⟩
      rcases a3 with ⟨_, rfl⟩ | ⟨_, rfl⟩ | ⟨_, _, _, rfl⟩ <;> simp [rd, bareAt, hk', bareHO] at he
    · simp only [hb] at hl; cases hl
  · cases hl

theorem effδ_wrs {f : Foot} {d : Option Nat} {e : Eff} {hδ : Loc → Option LV} (hd : ∀ t, d = some t → t ∈ f.wt) (h1 : ∀ t s, e.src = some (t, s) → t ∈ f.wt) (h2 : ∀ s cs, e.box = some (s, cs) → s ∈ f.ws)
    (hh : ∀ x, hδ x ≠ none → Wrs f A st x) : ∀ x, effδ d e hδ x ≠ none → Wrs f A st x := by
  intro x hx
  cases x with
  | t n =>
    simp only [effδ] at hx
    show n ∈ f.wt
    split at hx
    · rename_i t y s hs
      split at hx
      · rename_i e1; subst e1; exact hd _ rfl
      · split at hx
        · rename_i e1; subst e1; exact h1 _ _ hs
        · exact absurd rfl hx
    · rename_i t hs
      split at hx
      · rename_i e1; subst e1; exact hd _ rfl
      · exact absurd rfl hx
    · rename_i y s hs
      split at hx
      · rename_i e1; subst e1; exact h1 _ _ hs
      · exact absurd rfl hx
    · exact absurd rfl hx
  | b n =>
    simp only [effδ] at hx
    show n ∈ f.ws
    split at hx
    · rename_i s cs hb
      split at hx
      · rename_i e1; subst e1; exact h2 _ _ hb
      · exact absurd rfl hx
    · exact absurd rfl hx
  | d => exact absurd rfl hx
  | c r => exact hh _ hx
  | m r => exact hh _ hx
  | w r => exact hh _ hx
  | x r => exact hh _ hx

end
end Go.Sw
/-! Every operation of a region is writes at places. -/
namespace Go.Sw
open Go

section
variable {o : Oper} {st st2 st' : St} {A : Option Nat} {C : Cfg} {call : Call} {h : Hint} {ops : Array Oper}

theorem IsDelta.weak {run : St → Res St} {f F : Foot} {δ : Loc → Option LV} (hd : IsDelta run f A st st' δ) (h1 : ∀ x, Rds f A st x → Rds F A st x) (h2 : ∀ x, Wrs f A st x → Wrs F A st x) (h3 : F.all = f.all) : IsDelta run F A st st' δ :=
  ⟨hd.here, fun x hx => h2 x (hd.wrs x hx), fun ha => hd.keep (by rw [← h3]; exact ha), fun st2 hr => hd.else_ st2 fun x hx => hr x (h1 x hx)⟩

theorem foot_dst {t : Nat} (ht : o.dst = some t) : t ∈ (footOp C h o (opd st)).wt := by
  have hd : dstT o.dst = [t] := by rw [ht]; rfl
  unfold footOp
  cases o.op <;> simp only [hd] <;> (try split) <;> (try split) <;> (try split) <;> simp [allF]

theorem foot_rt {t : Nat} (ht : t ∈ tmpsOf o.op.operands.toList) : t ∈ (footOp C h o (opd st)).rt := by
  unfold footOp
  cases ho : o.op <;> rw [ho] at ht <;> simp only <;> (try split) <;> (try split) <;> (try split) <;> simp [allF, ht]

theorem core_delta (hal : (footOp C h o (opd st)).al = true → A ≠ none) {e : Eff} (he : evCore C call h o (envOf A st) = .ok e) :
    ∃ δ, IsDelta (fun s => (evCore C call h o (envOf A s)).bind fun e => .ok (applyEff s o.dst e)) (footOp C h o (opd st)) A st (applyEff st o.dst e) δ := by
  have hself : Agree (footOp C h o (opd st)) o (envOf A st) (envOf A st) := agree_of_rd (fun t ht => foot_rt ht) hal (fun _ _ => rfl)
  obtain ⟨e0, he0, hsame0⟩ := core_same (C := C) (call := call) (h := h) hself e he
  rw [he] at he0
  cases he0
  generalize hfe : footOp C h o (opd st) = f at hsame0 hal
  have hwr := foot_wr (o := o) (st := st) (C := C) (h := h) f hfe.symm
  -- what of the heap becomes other
  let hδ := difδ st (applyEff st o.dst e)
  have shape : (e.heap = none) ∨ (f.all = true ∧ ∃ H, e.heap = some H) ∨ ∃ r y lay, e.heap = some (st.heap.set r y) ∧ Kin st.heap r y lay ∧
      (lay = true → f.al = true ∧ A = some r ∧ ((∃ cs, y = .cells cs) ∨ (∃ es, y = .map es) ∨ ∃ v sz l, y = .row v sz l)) ∧ (lay = false → (∀ cs, y = .cells cs → f.wc = true) ∧ (∀ es, y = .map es → f.wm = true) ∧ (∀ v sz l, y = .row v sz l → f.wr = true)) := by
    have := hsame0.hp
    generalize hq : e.heap = q at this
    cases this with
    | none => exact .inl rfl
    | all hf H => exact .inr (.inl ⟨hf, H, rfl⟩)
    | set r y hw =>
      obtain ⟨lay, a1, a2, a3⟩ := Kin_of_HW hw
      exact .inr (.inr ⟨r, y, lay, rfl, a1, a2, a3⟩)
  have hw : ∀ x, (∀ n, x ≠ .t n) → (∀ n, x ≠ .b n) → x ≠ .d → hδ x ≠ none → Wrs f A st x := by
    intro x n1 n2 n3 hx
    have hne : rd (applyEff st o.dst e) x ≠ rd st x := by
      intro he; apply hx; show difδ _ _ _ = none; unfold difδ; rw [if_pos he]
    rcases shape with s1 | ⟨hf, H, s1⟩ | ⟨r, y, lay, s1, a1, a2, a3⟩
    · exfalso
      obtain ⟨k1, k2, k3, k4⟩ := noneδ_rd (st := st) (st' := applyEff st o.dst e) (by simp [applyEff, s1])
      cases x with
      | c r => exact hne (k1 r)
      | m r => exact hne (k2 r)
      | w r => exact hne (k3 r)
      | x r => exact hne (k4 r)
      | t n => exact n1 n rfl
      | b n => exact n2 n rfl
      | d => exact n3 rfl
    · cases x with
      | c r => exact .inl hf
      | m r => exact .inl hf
      | w r => exact .inl hf
      | x r => exact .inl hf
      | t n => exact absurd rfl (n1 n)
      | b n => exact absurd rfl (n2 n)
      | d => exact absurd rfl n3
    · obtain ⟨k1, k2, k3, k4⟩ := objδ_rd (st := st) (st' := applyEff st o.dst e) a1 (by simp [applyEff, s1])
      have hk : rd (applyEff st o.dst e) x = (objδ y r lay x).getD (rd st x) := by
        cases x with
        | c r => exact k1 r
        | m r => exact k2 r
        | w r => exact k3 r
        | x r => exact k4 r
        | t n => exact absurd rfl (n1 n)
        | b n => exact absurd rfl (n2 n)
        | d => exact absurd rfl n3
      cases hv : objδ y r lay x with
      | none => rw [hv] at hk; exact absurd hk hne
      | some v => exact (objδ_some a1 a2 a3 hwr hv).1
  refine ⟨effδ o.dst e hδ, effδ_rd rfl rfl rfl ⟨fun q => difδ_here _, fun q => difδ_here _, fun q => difδ_here _, fun q => difδ_here _⟩, ?_, ?_, ?_⟩
  · intro x hx
    cases x with
    | t n => exact effδ_wrs (st := st) (A := A) (hδ := fun _ => none) (fun t ht => by rw [← hfe]; exact foot_dst ht) hsame0.ws hsame0.wb (fun x h => absurd rfl h) (.t n) hx
    | b n => exact effδ_wrs (st := st) (A := A) (hδ := fun _ => none) (fun t ht => by rw [← hfe]; exact foot_dst ht) hsame0.ws hsame0.wb (fun x h => absurd rfl h) (.b n) hx
    | d => exact absurd rfl hx
    | c r => exact hw _ (by simp) (by simp) (by simp) hx
    | m r => exact hw _ (by simp) (by simp) (by simp) hx
    | w r => exact hw _ (by simp) (by simp) (by simp) hx
    | x r => exact hw _ (by simp) (by simp) (by simp) hx
  · intro ha
    rcases shape with s1 | ⟨hf, H, s1⟩ | ⟨r, y, lay, s1, a1, a2, a3⟩
    · simp only [applyEff, s1]; exact KeepC.refl _
    · rw [ha] at hf; cases hf
    · simp only [applyEff, s1]; exact keepC_set a1
  · intro st2 hr
    have hag : Agree f o (envOf A st) (envOf A st2) := agree_of_rd (fun t ht => by rw [← hfe]; exact foot_rt ht) hal hr
    subst hfe
    obtain ⟨e2, he2, hs⟩ := core_same (C := C) (call := call) (h := h) hag e he
    refine ⟨applyEff st2 o.dst e2, by simp only [he2, Res.bind], effδ_rd hs.dst hs.src hs.box ?_⟩
    have main : ∀ x, (∀ n, x ≠ .t n) → (∀ n, x ≠ .b n) → x ≠ .d → rd (applyEff st2 o.dst e2) x = (hδ x).getD (rd st2 x) := by
      intro x n1 n2 n3
      have hp := hs.hp
      generalize hq : e.heap = q at hp
      generalize hq2 : e2.heap = q2 at hp
      cases hp with
      | none =>
        obtain ⟨k1, k2, k3, k4⟩ := noneδ_rd (st := st2) (st' := applyEff st2 o.dst e2) (by simp [applyEff, hq2])
        obtain ⟨j1, j2, j3, j4⟩ := noneδ_rd (st := st) (st' := applyEff st o.dst e) (by simp [applyEff, hq])
        have : hδ x = none := by
          show difδ _ _ _ = none
          unfold difδ
          rw [if_pos]
          cases x with
          | c r => exact j1 r
          | m r => exact j2 r
          | w r => exact j3 r
          | x r => exact j4 r
          | t n => exact absurd rfl (n1 n)
          | b n => exact absurd rfl (n2 n)
          | d => exact absurd rfl n3
        rw [this]
        cases x with
        | c r => exact k1 r
        | m r => exact k2 r
        | w r => exact k3 r
        | x r => exact k4 r
        | t n => exact absurd rfl (n1 n)
        | b n => exact absurd rfl (n2 n)
        | d => exact absurd rfl n3
      | all hf H =>
        have hH := hag.all hf
        have e1 : (applyEff st2 o.dst e2).heap = H := by simp [applyEff, hq2]
        have e3 : (applyEff st o.dst e).heap = H := by simp [applyEff, hq]
        have hH' : st2.heap = st.heap := hH
        have q1 : rd (applyEff st2 o.dst e2) x = rd (applyEff st o.dst e) x := by
          cases x with
          | t n => exact absurd rfl (n1 n)
          | b n => exact absurd rfl (n2 n)
          | d => exact absurd rfl n3
          | _ => simp [rd, e1, e3]
        have q3 : rd st2 x = rd st x := by
          cases x with
          | t n => exact absurd rfl (n1 n)
          | b n => exact absurd rfl (n2 n)
          | d => exact absurd rfl n3
          | _ => simp [rd, hH']
        rw [q1, q3]
        exact difδ_here x
      | set r y hwy =>
        obtain ⟨lay, a1, a2, a3⟩ := Kin_of_HW hwy
        have a1' : Kin st2.heap r y lay := by
          unfold Kin at a1 ⊢
          cases lay with
          | true => exact hag.x (a2 rfl).1 r (a2 rfl).2.1 a1
          | false =>
            rcases a1 with ⟨c1, c2, h1, h2⟩ | ⟨c1, c2, h1, h2⟩ | ⟨v, sz, l, v', sz', l', h1, h2⟩
            · exact .inl ⟨c1, c2, hag.c (hwr.1 ((a3 rfl).1 _ h2)) r _ h1, h2⟩
            · exact .inr (.inl ⟨c1, c2, hag.m (hwr.2.1 ((a3 rfl).2.1 _ h2)) r _ h1, h2⟩)
            · exact .inr (.inr ⟨v, sz, l, v', sz', l', hag.w (hwr.2.2 ((a3 rfl).2.2 _ _ _ h2)) r _ _ _ h1, h2⟩)
        obtain ⟨k1, k2, k3, k4⟩ := objδ_rd (st := st) (st' := applyEff st o.dst e) a1 (by simp [applyEff, hq]; rfl)
        obtain ⟨j1, j2, j3, j4⟩ := objδ_rd (st := st2) (st' := applyEff st2 o.dst e2) a1' (by simp [applyEff, hq2]; rfl)
        have hk : rd (applyEff st o.dst e) x = (objδ y r lay x).getD (rd st x) := by
          cases x with
          | c r => exact k1 r
          | m r => exact k2 r
          | w r => exact k3 r
          | x r => exact k4 r
          | t n => exact absurd rfl (n1 n)
          | b n => exact absurd rfl (n2 n)
          | d => exact absurd rfl n3
        have hj : rd (applyEff st2 o.dst e2) x = (objδ y r lay x).getD (rd st2 x) := by
          cases x with
          | c r => exact j1 r
          | m r => exact j2 r
          | w r => exact j3 r
          | x r => exact j4 r
          | t n => exact absurd rfl (n1 n)
          | b n => exact absurd rfl (n2 n)
          | d => exact absurd rfl n3
        rw [hj]
        show _ = (difδ st (applyEff st o.dst e) x).getD _
        unfold difδ
        cases hv : objδ y r lay x with
        | none => rw [hv] at hk; have hk' : rd (applyEff st o.dst e) x = rd st x := hk; rw [if_pos hk']
        | some v =>
          rw [hv] at hk
          by_cases heq : rd (applyEff st o.dst e) x = rd st x
          · rw [if_pos heq]
            have hv' : rd st x = v := by rw [← heq, hk]; rfl
            have := (objδ_some a1 a2 a3 hwr hv).2 hv'
            simp only [Option.getD_some, Option.getD_none]
            rw [hr x this, hv']
          · rw [if_neg heq]
            simp only [Option.getD_some]
            rw [hk]; rfl
    exact ⟨fun q => main _ (by simp) (by simp) (by simp), fun q => main _ (by simp) (by simp) (by simp), fun q => main _ (by simp) (by simp) (by simp), fun q => main _ (by simp) (by simp) (by simp)⟩


theorem op_delta (hal : (footOp C h o (opd st)).al = true → A ≠ none) (hok : evOp C call h A o st = .ok st') : ∃ δ, IsDelta (evOp C call h A o) (footOp C h o (opd st)) A st st' δ := by
  by_cases hdef : ∃ c, o.op = .defer c
  · obtain ⟨c, ho⟩ := hdef
    have hall : (footOp C h o (opd st)).all = true := by unfold footOp; rw [ho]; rfl
    unfold evOp at hok
    split at hok
    · rename_i f ty ho' hdst
      have hrun : ∀ s, evOp C call h A o s = evDefer h (opd s f) s := fun s => by
        unfold evOp; rw [ho', hdst]
      unfold evDefer at hok
      split at hok
      · rename_i g cap hr hf
        cases hok
        refine ⟨fun | .d => some (.d (.clo g cap :: st.defs)) | _ => none, fun x => by cases x <;> rfl, fun x hx => ?_, fun ha => by (rw [hall] at ha; cases ha), fun st2 hrd => ?_⟩
        · cases x <;> first | exact absurd rfl hx | exact hall
        · rw [hrun]
          have e1 : opd st2 f = opd st f := opd_rd fun t ht => hrd (.t t) (foot_rt (by rw [ho', ht]; simp [Op.operands, Go.Call.operands, tmpsOf]))
          have e2 : st2.defs = st.defs := by have := hrd .d hall; simpa [rd] using this
          unfold evDefer
          rw [e1, hf, hr]
          refine ⟨_, rfl, fun x => ?_⟩
          cases x <;> simp [rd, e2]
      · cases hok
    · cases hok
    · rename_i h1 h2; exact absurd ho (h1 c)
  · have hrun : ∀ s, evOp C call h A o s = (evCore C call h o (envOf A s)).bind fun e => .ok (applyEff s o.dst e) := fun s => by
      unfold evOp
      split
      · rename_i ho _; exact absurd ⟨_, ho⟩ hdef
      · rename_i ho _; exact absurd ⟨_, ho⟩ hdef
      · rfl
    rw [hrun] at hok
    obtain ⟨e, he, hok⟩ := Res.bind_ok hok
    cases hok
    obtain ⟨δ, hδ⟩ := core_delta hal he
    exact ⟨δ, by have : evOp C call h A o = _ := funext hrun; rw [this]; exact hδ⟩

theorem foot_rd (x : Loc) (hx : Rds (footOp C h o (opd st)) A st x) : Rds (foot C h ops o st) A st x := by
  cases x <;> first | exact hx | exact List.mem_append_right _ hx
theorem foot_wrs (x : Loc) (hx : Wrs (footOp C h o (opd st)) A st x) : Wrs (foot C h ops o st) A st x := by
  cases x <;> exact hx

theorem yieldB_rd {j : Nat} {want : Bool} (hg : o.guard = some (j, want)) (hr : ∀ x, Rds (foot C h ops o st) A st x → rd st2 x = rd st x) : yieldB ops st2 j = yieldB ops st j := by
  unfold yieldB
  cases hj : ops[j]? with
  | none => rfl
  | some p =>
    cases hd : p.dst with
    | none => simp only [hd]
    | some d =>
      have := hr (.t d) (List.mem_append_left _ (by simp [guardT, hg, hj, hd, dstT]))
      simp only [rd, LV.s.injEq] at this
      simp only [hd, this]

theorem skip_rd (s : St) (x : Loc) : rd { s with tmps := putT s.tmps o.dst .skip } x = ((fun | .t n => if o.dst = some n then some (.s .skip) else none | _ => none : Loc → Option LV) x).getD (rd s x) := by
  cases x with
  | t n =>
    cases hd : o.dst with
    | none => simp [rd, putT]
    | some d => simp only [rd, putT, getT_cons, Option.some.injEq]; split <;> rfl
  | _ => rfl

theorem skipOk_rd (hr : ∀ x, Rds (foot C h ops o st) A st x → rd st2 x = rd st x) : skipOk o st2 = skipOk o st := by
  have hS : ∀ x ∈ o.op.operands.toList, opd st2 x = opd st x := fun x hx => opd_rd fun t ht => hr (.t t) (List.mem_append_right _ (foot_rt (by subst ht; exact mem_tmps hx)))
  unfold skipOk
  cases ho : o.op <;> simp only
  rename_i c
  rw [ho] at hS
  cases hc : c.callee with
  | builtin b => rfl
  | value x => simp only [hS x (by simp [Op.operands, Go.Call.operands, hc])]
  | invoke x name => simp only [hS x (by simp [Op.operands, Go.Call.operands, hc])]

theorem oper_delta (hal : (foot C h ops o st).al = true → A ≠ none) (hok : evOper C call h A ops o st = .ok st') : ∃ δ, IsDelta (evOper C call h A ops o) (foot C h ops o st) A st st' δ := by
  have yes : evOp C call h A o st = .ok st' → (∀ st2, (∀ x, Rds (foot C h ops o st) A st x → rd st2 x = rd st x) → evOper C call h A ops o st2 = evOp C call h A o st2) → ∃ δ, IsDelta (evOper C call h A ops o) (foot C h ops o st) A st st' δ := by
    intro h1 h2
    obtain ⟨δ, hδ⟩ := op_delta (st := st) hal h1
    have hw := hδ.weak (F := foot C h ops o st) (fun x hx => foot_rd x hx) (fun x hx => foot_wrs x hx) rfl
    exact ⟨δ, hw.here, hw.wrs, hw.keep, fun st2 hr => by rw [h2 st2 hr]; exact hw.else_ st2 hr⟩
  have no : st' = { st with tmps := putT st.tmps o.dst .skip } → (∀ st2, (∀ x, Rds (foot C h ops o st) A st x → rd st2 x = rd st x) → evOper C call h A ops o st2 = .ok { st2 with tmps := putT st2.tmps o.dst .skip }) → ∃ δ, IsDelta (evOper C call h A ops o) (foot C h ops o st) A st st' δ := by
    rintro rfl h2
    refine ⟨_, skip_rd st, fun x hx => ?_, fun _ => KeepC.refl _, fun st2 hr => ⟨_, h2 st2 hr, skip_rd st2⟩⟩
    cases x with
    | t n =>
      simp only at hx
      split at hx
      · rename_i hd; exact foot_dst hd
      · exact absurd rfl hx
    | _ => exact absurd rfl hx
  cases hg : o.guard with
  | none =>
    have hrun : ∀ s, evOper C call h A ops o s = evOp C call h A o s := fun s => by unfold evOper; rw [hg]
    exact yes (by rw [← hrun]; exact hok) (fun st2 _ => hrun st2)
  | some p =>
    obtain ⟨j, want⟩ := p
    unfold evOper at hok
    rw [hg] at hok
    simp only at hok
    cases hy : yieldB ops st j with
    | none => rw [hy] at hok; cases hok
    | some r =>
      rw [hy] at hok
      cases r with
      | none =>
        simp only at hok
        obtain ⟨hsk, hok2⟩ := guardR_ok hok
        cases hok2
        exact no rfl fun st2 hr => by unfold evOper; rw [hg]; simp only [yieldB_rd hg hr, hy, skipOk_rd hr, hsk]; rfl
      | some b =>
        simp only at hok
        cases hwb : want == b with
        | true =>
          rw [hwb] at hok
          exact yes hok fun st2 hr => by unfold evOper; rw [hg]; simp only [yieldB_rd hg hr, hy, hwb]
        | false =>
          rw [hwb] at hok
          obtain ⟨hsk, hok2⟩ := guardR_ok hok
          cases hok2
          exact no rfl fun st2 hr => by unfold evOper; rw [hg]; simp only [yieldB_rd hg hr, hy, hwb, skipOk_rd hr, hsk]; rfl

/-- an operation that touches the whole heap, and panics. -/
theorem oper_panic {v : AV} {H : Heap} (hall : (foot C h ops o st).all = true) (hal : (foot C h ops o st).al = true → A ≠ none) (hok : evOper C call h A ops o st = .panic v H) :
    ∀ st2, (∀ x, Rds (foot C h ops o st) A st x → rd st2 x = rd st x) → evOper C call h A ops o st2 = .panic v H := by
  intro st2 hr
  have opp : evOp C call h A o st = .panic v H → evOp C call h A o st2 = .panic v H := by
    intro hp
    by_cases hdef : ∃ c, o.op = .defer c
    · obtain ⟨c, ho⟩ := hdef
      exfalso
      unfold evOp at hp
      split at hp
      · unfold evDefer at hp; split at hp <;> cases hp
      · cases hp
      · rename_i h1 h2; exact absurd ho (h1 c)
    · have hrun : ∀ s, evOp C call h A o s = (evCore C call h o (envOf A s)).bind fun e => .ok (applyEff s o.dst e) := fun s => by
        unfold evOp
        split
        · rename_i ho _; exact absurd ⟨_, ho⟩ hdef
        · rename_i ho _; exact absurd ⟨_, ho⟩ hdef
        · rfl
      rw [hrun] at hp ⊢
      have hag : Agree (footOp C h o (opd st)) o (envOf A st) (envOf A st2) := agree_of_rd (fun t ht => foot_rt ht) hal (fun x hx => hr x (foot_rd x hx))
      rw [evCore_all hall hag]
      cases he : evCore C call h o (envOf A st) with
      | ok e => rw [he] at hp; cases hp
      | panic v' H' => rw [he] at hp; exact hp
      | bad _ => rw [he] at hp; cases hp
      | oof => rw [he] at hp; cases hp
  cases hg : o.guard with
  | none =>
    have hrun : ∀ s, evOper C call h A ops o s = evOp C call h A o s := fun s => by unfold evOper; rw [hg]
    rw [hrun] at hok ⊢
    exact opp hok
  | some p =>
    obtain ⟨j, want⟩ := p
    have hy2 := yieldB_rd hg hr
    unfold evOper at hok ⊢
    rw [hg] at hok ⊢
    simp only at hok ⊢
    rw [hy2]
    cases hy : yieldB ops st j with
    | none => rw [hy] at hok; cases hok
    | some r =>
      rw [hy] at hok
      cases r with
      | none => exact absurd hok (by cases skipOk o st <;> intro h <;> cases h)
      | some b =>
        simp only at hok ⊢
        cases hwb : want == b with
        | true => rw [hwb] at hok; exact opp hok
        | false => rw [hwb] at hok; exact absurd hok (by cases skipOk o st <;> intro h <;> cases h)

end
end Go.Sw
/-! A region that draws its order: the evaluator's run of it. -/
namespace Go.Sw
open Go

def plc (h : Hint) (b0 : Nat) (ops : Array Oper) (k : Nat) (o : Oper) : Option Nat := placeFor h (b0 + countLays h (ops.toList.take k)) o

def Skp (P : Option (Nat × AV × Heap)) (M : List Nat) (k : Nat) : Prop := ∃ p v H, P = some (p, v, H) ∧ p < k ∧ (M.getD k 0).testBit p = true

structure Run (C : Cfg) (call : Call) (h : Hint) (ops : Array Oper) (lay : Bool) (M : List Nat) (b0 i : Nat) (P : Option (Nat × AV × Heap)) (s : Nat → St) (δ : Nat → Loc → Option LV) (F : Nat → Foot) : Prop where
  step : ∀ k o, i ≤ k → ops[k]? = some o →
    (Skp P M k ∧ s (k + 1) = s k ∧ ∀ x, δ k x = none) ∨
    (¬ Skp P M k ∧ F k = foot C h ops o (s k) ∧ (lay = true → (F k).all = false) ∧
      ((∃ v H, P = some (k, v, H) ∧ (F k).all = true ∧ evOper C call h (plc h b0 ops k o) ops o (s k) = .panic v H ∧ s (k + 1) = s k ∧ ∀ x, δ k x = none) ∨
       ((∀ v H, P ≠ some (k, v, H)) ∧ IsDelta (evOper C call h (plc h b0 ops k o) ops o) (F k) (plc h b0 ops k o) (s k) (s (k + 1)) (δ k))))
  apart : ∀ j k, i ≤ j → j < k → k < ops.size → ¬ Skp P M j → ¬ Skp P M k → (M.getD k 0).testBit j = true ∨ clash (F k) (F j) = false

section
variable {C : Cfg} {call : Call} {h : Hint} {ops : Array Oper} {lay : Bool} {M : List Nat} {b0 : Nat}

theorem foot_lays {o : Oper} {st : St} (ha : (foot C h ops o st).al = true) : lays h o = true := by
  have : (footOp C h o (opd st)).al = true := ha
  unfold footOp at this
  unfold lays
  cases ho : o.op <;> simp only [ho] at this ⊢ <;> (try (split at this)) <;> (try (split at this)) <;> (try (split at this)) <;> (try (split at this)) <;> first
    | (simp_all [allF]; done)
    | (rename_i c _ hc _ _ _ _
       obtain ⟨ce, as, ts⟩ := c
       simp only at hc
       subst hc
       exact this)
    | (rename_i c _ hc _ _ _ _ _ _
       obtain ⟨ce, as, ts⟩ := c
       simp only at hc
       subst hc
       exact this)

theorem plc_some {k : Nat} {o : Oper} {st : St} (ha : (foot C h ops o st).al = true) : plc h b0 ops k o ≠ none := by
  unfold plc placeFor
  rw [foot_lays ha]
  simp

theorem apartAll_spec {m : Nat} {f : Foot} : ∀ {l : List (Nat × Foot)}, apartAll m f l = true → ∀ jg ∈ l, m.testBit jg.1 = true ∨ clash f jg.2 = false
  | [], _, jg, hj => by simp at hj
  | (j, g) :: l, ha, jg, hj => by
    unfold apartAll at ha
    split at ha
    · rename_i hb
      rcases List.mem_cons.mp hj with rfl | hj
      · simpa using hb
      · exact apartAll_spec ha jg hj
    · cases ha

theorem countLays_cons (o : Oper) (l : List Oper) : countLays h (o :: l) = countLays h [o] + countLays h l := by simp [countLays]
theorem countLays_append (l k : List Oper) : countLays h (l ++ k) = countLays h l + countLays h k := by
  induction l with
  | nil => simp [countLays]
  | cons o l ih => rw [List.cons_append, countLays_cons, ih, countLays_cons o l]; omega

theorem drop_cons {α : Type} {l k : List α} {x : α} {i : Nat} (h : x :: k = l.drop i) : l[i]? = some x ∧ k = l.drop (i + 1) := by
  have h1 : l[i]? = some x := by
    have : (l.drop i)[0]? = some x := by rw [← h]; rfl
    simpa using this
  refine ⟨h1, ?_⟩
  have : (l.drop i).tail = l.drop (i + 1) := by simp
  rw [← this, ← h]; rfl

theorem take_succ' {α : Type} {l : List α} {x : α} {i : Nat} (h : l[i]? = some x) : l.take (i + 1) = l.take i ++ [x] := by
  rw [List.take_add_one, h]; rfl

theorem drawn_run : ∀ (l : List Oper) (i b : Nat) (ms : List Nat) (st : St) (fs : List (Nat × Foot)) (pn : Option (Nat × AV × Heap)) (R : Res St), l = ops.toList.drop i → ms = M.drop i → b = b0 + countLays h (ops.toList.take i) → i ≤ ops.size →
    (∀ p v H, pn = some (p, v, H) → p < i) → evDrawn C call h ops lay i b l ms st fs pn = R → ((∃ st', R = .ok st') ∨ ∃ v H, R = .panic v H) →
    ∃ P s δ F, s i = st ∧ (pn ≠ none → P = pn) ∧ (∀ p v H, P = some (p, v, H) → pn = none → i ≤ p ∧ p < ops.size) ∧ Run C call h ops lay M b0 i P s δ F ∧ (∀ k, i ≤ k → k < ops.size → ¬ Skp P M k → ∀ jg ∈ fs, (M.getD k 0).testBit jg.1 = true ∨ clash (F k) jg.2 = false) ∧
      (P = none → R = .ok (s ops.size)) ∧ (∀ p v H, P = some (p, v, H) → R = .panic v H)
  | [], i, b, ms, st, fs, pn, R, hl, hms, hb, hi, hpn, he, hR => by
    have hsz : ops.size ≤ i := by
      have := congrArg List.length hl
      simp at this
      omega
    have hi' : i = ops.size := by omega
    refine ⟨pn, fun _ => st, fun _ _ => none, fun _ => { rt := [], wt := [] }, rfl, fun _ => rfl, fun p v H h1 h2 => (by rw [h2] at h1; cases h1), ⟨fun k o hk ho => ?_, fun j k hj hjk hk => (by omega)⟩, fun k hk hk2 => (by omega), fun hp => ?_, fun p v H hp => ?_⟩
    · have := (Array.getElem?_eq_some_iff.1 ho).1; omega
    · subst hp; rw [← he]; unfold evDrawn; rfl
    · subst hp; rw [← he]; unfold evDrawn; rfl
  | o :: l, i, b, ms, st, fs, pn, R, hl, hms, hb, hi, hpn, he, hR => by
    obtain ⟨ho, hl'⟩ := drop_cons hl
    have hilt : i < ops.size := by
      rcases Nat.lt_or_ge i ops.toList.length with h' | h'
      · simpa using h'
      · rw [List.getElem?_eq_none h'] at ho; cases ho
    have hoi : ops[i]? = some o := by simpa using ho
    have hmi : ms.headD 0 = M.getD i 0 := by
      subst hms
      cases hM : M.drop i with
      | nil =>
        have : M[i]? = none := by
          rw [List.getElem?_eq_none]
          have := congrArg List.length hM
          simp at this
          omega
        simp [List.getD, this]
      | cons x k =>
        obtain ⟨h1, _⟩ := drop_cons hM.symm
        simp [List.getD, h1]
    have hms' : ms.tail = M.drop (i + 1) := by subst hms; simp
    have hb' : b + countLays h [o] = b0 + countLays h (ops.toList.take (i + 1)) := by
      rw [take_succ' ho, countLays_append, hb]; omega
    have hplc : placeFor h b o = plc h b0 ops i o := by unfold plc; rw [hb]
    unfold evDrawn at he
    rw [operF_eq] at he
    -- one step, and the rest
    have glue : ∀ (st' : St) (fs' : List (Nat × Foot)) (pn' : Option (Nat × AV × Heap)) (f : Foot) (d : Loc → Option LV), (∀ p v H, pn' = some (p, v, H) → p < i + 1) → (∀ jg, jg ∈ fs → jg ∈ fs') → (pn ≠ none → pn' = pn) → (∀ p v H, pn' = some (p, v, H) → pn = none → p = i) →
        evDrawn C call h ops lay (i + 1) (b + countLays h [o]) l ms.tail st' fs' pn' = R →
        (∀ P : Option (Nat × AV × Heap), (pn' ≠ none → P = pn') → (∀ p v H, P = some (p, v, H) → pn' = none → i + 1 ≤ p) →
          (Skp P M i ∧ st' = st ∧ ∀ x, d x = none) ∨
          (¬ Skp P M i ∧ (i, f) ∈ fs' ∧ f = foot C h ops o st ∧ (lay = true → f.all = false) ∧ (∀ jg ∈ fs, (M.getD i 0).testBit jg.1 = true ∨ clash f jg.2 = false) ∧
            ((∃ v H, P = some (i, v, H) ∧ f.all = true ∧ evOper C call h (plc h b0 ops i o) ops o st = .panic v H ∧ st' = st ∧ ∀ x, d x = none) ∨
             ((∀ v H, P ≠ some (i, v, H)) ∧ IsDelta (evOper C call h (plc h b0 ops i o) ops o) f (plc h b0 ops i o) st st' d)))) →
        ∃ P s δ F, s i = st ∧ (pn ≠ none → P = pn) ∧ (∀ p v H, P = some (p, v, H) → pn = none → i ≤ p ∧ p < ops.size) ∧ Run C call h ops lay M b0 i P s δ F ∧ (∀ k, i ≤ k → k < ops.size → ¬ Skp P M k → ∀ jg ∈ fs, (M.getD k 0).testBit jg.1 = true ∨ clash (F k) jg.2 = false) ∧
          (P = none → R = .ok (s ops.size)) ∧ (∀ p v H, P = some (p, v, H) → R = .panic v H) := by
      intro st' fs' pn' f d g1 g2 g3 g3' g4 g5
      obtain ⟨P, s, δ, F, q1, q2, q2', q3, q4, q5, q6⟩ := drawn_run l (i + 1) _ _ st' fs' pn' R hl' hms' hb' (by omega) g1 g4 hR
      have g := g5 P q2 (fun p v H h1 h2 => (q2' p v H h1 h2).1)
      have e1 : ∀ k, i + 1 ≤ k → k ≠ i := fun k hk => by omega
      refine ⟨P, fun k => if k = i then st else s k, fun k => if k = i then d else δ k, fun k => if k = i then f else F k, by simp, fun hp => ?_, fun p v H h1 h2 => ?_, ⟨fun k o' hk ho' => ?_, fun j k hj hjk hk n1 n2 => ?_⟩, fun k hk hk2 n1 jg hjg => ?_, fun hP => ?_, q6⟩
      · have hp' : pn' ≠ none := by rw [g3 hp]; exact hp
        rw [q2 hp', g3 hp]
      · cases hp' : pn' with
        | none => have := q2' p v H h1 hp'; omega
        | some q =>
          rw [q2 (by rw [hp']; simp)] at h1
          have := g3' p v H h1 h2
          omega
      · by_cases hki : k = i
        · subst hki
          rw [hoi] at ho'
          cases ho'
          have e2 : ¬ (k + 1 = k) := by omega
          simp only [if_true, e2, if_false, q1]
          rcases g with ⟨a1, a2, a3⟩ | ⟨a1, _, a3, a4, a5, a6⟩
          · exact .inl ⟨a1, a2, a3⟩
          · exact .inr ⟨a1, a3, a4, a6⟩
        · have e2 : ¬ (k + 1 = i) := by omega
          simp only [hki, e2, if_false]
          exact q3.step k o' (by omega) ho'
      · have e2 : ¬ (k = i) := by omega
        simp only [e2, if_false]
        by_cases hji : j = i
        · subst hji
          simp only [if_true]
          rcases g with ⟨a1, _, _⟩ | ⟨a1, a2, _⟩
          · exact absurd a1 n1
          · exact q4 k (by omega) hk n2 (j, f) a2
        · simp only [hji, if_false]
          exact q3.apart j k (by omega) hjk hk n1 n2
      · by_cases hki : k = i
        · subst hki
          simp only [if_true]
          rcases g with ⟨a1, _, _⟩ | ⟨a1, _, _, _, a5, _⟩
          · exact absurd a1 n1
          · exact a5 jg hjg
        · simp only [hki, if_false]
          exact q4 k (by omega) hk2 n1 jg (g2 jg hjg)
      · have e2 : ¬ (ops.size = i) := by omega
        simp only [e2, if_false]
        exact q5 hP
    rw [hmi] at he
    cases hsk : skips pn (M.getD i 0) with
    | true =>
      rw [hsk] at he
      simp only at he
      have hp : ∃ p v H, pn = some (p, v, H) ∧ (M.getD i 0).testBit p = true := by
        unfold skips at hsk
        split at hsk
        · rename_i p vH; exact ⟨p, vH.1, vH.2, rfl, hsk⟩
        · cases hsk
      obtain ⟨p, v, H, hp, hbit⟩ := hp
      refine glue st fs pn { rt := [], wt := [] } (fun _ => none) (fun p v H hh => Nat.lt_succ_of_lt (hpn p v H hh)) (fun _ hh => hh) (fun _ => rfl) (fun p v H h1 h2 => by rw [h2] at h1; cases h1) he (fun P hP _ => .inl ⟨⟨p, v, H, ?_, hpn p v H hp, hbit⟩, rfl, fun _ => rfl⟩)
      rw [hP (by rw [hp]; simp), hp]
    | false =>
      rw [hsk] at he
      simp only at he
      have hnsk : ∀ P : Option (Nat × AV × Heap), (pn ≠ none → P = pn) → (∀ p v H, P = some (p, v, H) → pn = none → i ≤ p) → ¬ Skp P M i := by
        rintro P hP hP2 ⟨p, v, H, h1, h2, h3⟩
        cases hpn' : pn with
        | none => have := hP2 p v H h1 hpn'; omega
        | some q =>
          have := hP (by rw [hpn']; simp)
          rw [h1, hpn'] at this
          cases this
          unfold skips at hsk
          rw [hpn'] at hsk
          simp only at hsk
          rw [h3] at hsk
          cases hsk
      have hgd : (apartAll (M.getD i 0) (foot C h ops o st) fs && !(lay && (foot C h ops o st).all)) = true := by
        cases hg : (apartAll (M.getD i 0) (foot C h ops o st) fs && !(lay && (foot C h ops o st).all)) with
        | true => rfl
        | false =>
          rw [hg] at he
          simp only [guardR] at he
          subst he
          rcases hR with ⟨_, hR⟩ | ⟨_, _, hR⟩ <;> cases hR
      rw [hgd] at he
      simp only [guardR] at he
      simp only [Bool.and_eq_true, Bool.not_eq_true', Bool.and_eq_false_iff] at hgd
      obtain ⟨hap, hla⟩ := hgd
      have hla' : lay = true → (foot C h ops o st).all = false := fun hh => by rcases hla with hla | hla; (· rw [hh] at hla; cases hla); exact hla
      have hap' := apartAll_spec hap
      rw [hplc] at he
      cases hev : evOper C call h (plc h b0 ops i o) ops o st with
      | ok st' =>
        rw [hev] at he
        simp only at he
        obtain ⟨d, hd⟩ := oper_delta (fun ha => plc_some ha) hev
        refine glue st' ((i, foot C h ops o st) :: fs) pn (foot C h ops o st) d (fun p v H hh => Nat.lt_succ_of_lt (hpn p v H hh)) (fun _ hh => List.mem_cons_of_mem _ hh) (fun _ => rfl) (fun p v H h1 h2 => by rw [h2] at h1; cases h1) he
          (fun P hP hP2 => .inr ⟨hnsk P hP (fun p v H h1 h2 => by have := hP2 p v H h1 h2; omega), by simp, rfl, hla', hap', .inr ⟨fun v H hPi => ?_, hd⟩⟩)
        cases hpn' : pn with
        | none => have := hP2 i v H hPi hpn'; omega
        | some q =>
          rw [hP (by rw [hpn']; simp)] at hPi
          have := hpn i v H hPi
          omega
      | panic v H =>
        rw [hev] at he
        simp only at he
        cases hpn' : pn with
        | some q => rw [hpn'] at he; simp only at he; subst he; rcases hR with ⟨_, hR⟩ | ⟨_, _, hR⟩ <;> cases hR
        | none =>
          cases hall : (foot C h ops o st).all with
          | false => rw [hpn', hall] at he; simp only at he; subst he; rcases hR with ⟨_, hR⟩ | ⟨_, _, hR⟩ <;> cases hR
          | true =>
            rw [hpn', hall] at he
            simp only at he
            rw [hpn'] at glue hnsk
            refine glue st ((i, foot C h ops o st) :: fs) (some (i, v, H)) (foot C h ops o st) (fun _ => none) (fun p v H hh => by cases hh; omega) (fun _ hh => List.mem_cons_of_mem _ hh) (fun hh => absurd rfl hh) (fun p v H h1 _ => by cases h1; rfl) he
              (fun P hP hP2 => .inr ⟨?_, by simp, rfl, hla', hap', .inl ⟨v, H, hP (by simp), hall, hev, rfl, fun _ => rfl⟩⟩)
            rintro ⟨p, v', H', h1, h2, h3⟩
            rw [hP (by simp)] at h1
            cases h1
            omega
      | bad w => rw [hev] at he; simp only at he; subst he; rcases hR with ⟨_, hR⟩ | ⟨_, _, hR⟩ <;> cases hR
      | oof => rw [hev] at he; simp only at he; subst he; rcases hR with ⟨_, hR⟩ | ⟨_, _, hR⟩ <;> cases hR

end
end Go.Sw
/-! A region that draws its order: operations that are apart. -/
namespace Go.Sw
open Go

theorem meets_false : ∀ {l m : List Nat} {x : Nat}, meets l m = false → x ∈ l → x ∈ m → False
  | [], _, _, _, h, _ => by simp at h
  | y :: l, m, x, hm, hx, hy => by
    unfold meets at hm
    split at hm
    · cases hm
    · rename_i hmem
      rcases List.mem_cons.mp hx with rfl | hx
      · rw [memN_iff.mpr hy] at hmem; cases hmem
      · exact meets_false hm hx hy

structure Apart (f g : Foot) : Prop where
  t1 : ∀ x, x ∈ f.wt → x ∈ g.rt → False
  t2 : ∀ x, x ∈ f.wt → x ∈ g.wt → False
  t3 : ∀ x, x ∈ g.wt → x ∈ f.rt → False
  b1 : ∀ x, x ∈ f.ws → x ∈ g.rs → False
  b2 : ∀ x, x ∈ f.ws → x ∈ g.ws → False
  b3 : ∀ x, x ∈ g.ws → x ∈ f.rs → False
  c1 : f.wc = true → g.rc = false ∧ g.wc = false
  c2 : g.wc = true → f.rc = false
  m1 : f.wm = true → g.rm = false ∧ g.wm = false
  m2 : g.wm = true → f.rm = false
  w1 : f.wr = true → g.rr = false ∧ g.wr = false
  w2 : g.wr = true → f.rr = false
  r1 : g.ra = true → f.wc = false ∧ f.wm = false ∧ f.wr = false ∧ f.al = false
  r2 : f.ra = true → g.wc = false ∧ g.wm = false ∧ g.wr = false
  a1 : g.al = true → f.rc = false ∧ f.wc = false ∧ f.rm = false ∧ f.wm = false ∧ f.rr = false ∧ f.wr = false ∧ f.ra = false
  a2 : f.all = true → g.all = false ∧ g.al = false ∧ g.rc = false ∧ g.wc = false ∧ g.rm = false ∧ g.wm = false ∧ g.rr = false ∧ g.wr = false ∧ g.ra = false
  a3 : g.all = true → f.al = false ∧ f.rc = false ∧ f.wc = false ∧ f.rm = false ∧ f.wm = false ∧ f.rr = false ∧ f.wr = false ∧ f.ra = false

theorem apart_of {f g : Foot} (h : clash f g = false) : Apart f g := by
  unfold clash Foot.heap at h
  simp only [Bool.or_eq_false_iff, Bool.and_eq_false_iff] at h
  obtain ⟨⟨⟨⟨⟨⟨⟨⟨⟨⟨⟨⟨⟨⟨⟨⟨h1, h2⟩, h3⟩, h4⟩, h5⟩, h6⟩, h7⟩, h8⟩, h9⟩, h10⟩, h11⟩, h12⟩, h13⟩, h14⟩, h15⟩, h16⟩, h17⟩ := h
  refine ⟨fun x => meets_false h1, fun x => meets_false h2, fun x => meets_false h3, fun x => meets_false h4, fun x => meets_false h5, fun x => meets_false h6, ?_, ?_, ?_, ?_, ?_, ?_, ?_, ?_, ?_, ?_, ?_⟩
  all_goals intro hx
  all_goals simp_all

section
variable {f g : Foot} {A B : Option Nat} {s t : St}

/-- where places that are put aside lie. -/
structure Placed (f g : Foot) (A B : Option Nat) (s t : St) : Prop where
  ne : ∀ r, f.al = true → g.al = true → A = some r → B = some r → False
  fr : ∀ r, f.al = true → A = some r → t.heap[r]? = some HO.free

theorem free_cells {H : Heap} {r : Nat} (h : H[r]? = some HO.free) : cellsAt H r = none ∧ mapAt H r = none ∧ rowAt H r = none := by
  simp [cellsAt, mapAt, rowAt, h]

/-- f comes later, g earlier. -/
theorem wr_rd (h : Apart f g) (hp : Placed f g A B s t) (x : Loc) (h1 : Wrs f A s x) (h2 : Rds g B t x) : False := by
  cases x with
  | t n => exact h.t1 n h1 h2
  | b n => exact h.b1 n h1 h2
  | c r =>
    rcases h1 with h1 | ⟨h1, h1'⟩ | ⟨h1, h1'⟩ <;> rcases h2 with (h2 | h2) | ⟨h2, h2'⟩ <;> first
      | (have := h.a2 h1; simp_all; done)
      | (have := h.a3 h2; simp_all; done)
      | (have := h.r1 h2; simp_all; done)
      | (have := h.r2 h1; simp_all; done)
      | (have := h.c1 h1; simp_all; done)
      | (have := h.c2 h2; simp_all; done)
      | (have := h.a1 h2; simp_all; done)
      | exact h2' (free_cells (hp.fr r h1 h1')).1
      | exact hp.ne r h1 h2 h1' h2'
  | m r =>
    rcases h1 with h1 | ⟨h1, h1'⟩ | ⟨h1, h1'⟩ <;> rcases h2 with (h2 | h2) | ⟨h2, h2'⟩ <;> first
      | (have := h.a2 h1; simp_all; done)
      | (have := h.a3 h2; simp_all; done)
      | (have := h.r1 h2; simp_all; done)
      | (have := h.r2 h1; simp_all; done)
      | (have := h.m1 h1; simp_all; done)
      | (have := h.m2 h2; simp_all; done)
      | (have := h.a1 h2; simp_all; done)
      | exact h2' (free_cells (hp.fr r h1 h1')).2.1
      | exact hp.ne r h1 h2 h1' h2'
  | w r =>
    rcases h1 with h1 | ⟨h1, h1'⟩ | ⟨h1, h1'⟩ <;> rcases h2 with (h2 | h2) | ⟨h2, h2'⟩ <;> first
      | (have := h.a2 h1; simp_all; done)
      | (have := h.a3 h2; simp_all; done)
      | (have := h.r1 h2; simp_all; done)
      | (have := h.r2 h1; simp_all; done)
      | (have := h.w1 h1; simp_all; done)
      | (have := h.w2 h2; simp_all; done)
      | (have := h.a1 h2; simp_all; done)
      | exact h2' (free_cells (hp.fr r h1 h1')).2.2
      | exact hp.ne r h1 h2 h1' h2'
  | x r =>
    rcases h1 with h1 | ⟨h1, h1'⟩ <;> rcases h2 with (h2 | h2) | ⟨h2, h2'⟩ <;> first
      | (have := h.a2 h1; simp_all; done)
      | (have := h.a3 h2; simp_all; done)
      | (have := h.r1 h2; simp_all; done)
      | (have := h.r2 h1; simp_all; done)
      | (have := h.c1 h1; simp_all; done)
      | (have := h.c2 h2; simp_all; done)
      | (have := h.a1 h2; simp_all; done)
      | exact h2' (free_cells (hp.fr r h1 h1')).1
      | exact hp.ne r h1 h2 h1' h2'
  | d => have := h.a2 h1; rw [show g.all = true from h2] at this; simp at this

theorem rd_wr (h : Apart f g) (hp : Placed f g A B s t) (x : Loc) (h1 : Rds f A s x) (h2 : Wrs g B t x) : False := by
  cases x with
  | t n => exact h.t3 n h2 h1
  | b n => exact h.b3 n h2 h1
  | c r =>
    rcases h1 with (h1 | h1) | ⟨h1, h1'⟩ <;> rcases h2 with h2 | ⟨h2, h2'⟩ | ⟨h2, h2'⟩ <;> first
      | (have := h.a2 h1; simp_all; done)
      | (have := h.a3 h2; simp_all; done)
      | (have := h.r1 h2; simp_all; done)
      | (have := h.r2 h1; simp_all; done)
      | (have := h.c1 h1; simp_all; done)
      | (have := h.c2 h2; simp_all; done)
      | (have := h.a1 h2; simp_all; done)
      | exact h2' (free_cells (hp.fr r h1 h1')).1
      | exact hp.ne r h1 h2 h1' h2'
  | m r =>
    rcases h1 with (h1 | h1) | ⟨h1, h1'⟩ <;> rcases h2 with h2 | ⟨h2, h2'⟩ | ⟨h2, h2'⟩ <;> first
      | (have := h.a2 h1; simp_all; done)
      | (have := h.a3 h2; simp_all; done)
      | (have := h.r1 h2; simp_all; done)
      | (have := h.r2 h1; simp_all; done)
      | (have := h.m1 h1; simp_all; done)
      | (have := h.m2 h2; simp_all; done)
      | (have := h.a1 h2; simp_all; done)
      | exact h2' (free_cells (hp.fr r h1 h1')).2.1
      | exact hp.ne r h1 h2 h1' h2'
  | w r =>
    rcases h1 with (h1 | h1) | ⟨h1, h1'⟩ <;> rcases h2 with h2 | ⟨h2, h2'⟩ | ⟨h2, h2'⟩ <;> first
      | (have := h.a2 h1; simp_all; done)
      | (have := h.a3 h2; simp_all; done)
      | (have := h.r1 h2; simp_all; done)
      | (have := h.r2 h1; simp_all; done)
      | (have := h.w1 h1; simp_all; done)
      | (have := h.w2 h2; simp_all; done)
      | (have := h.a1 h2; simp_all; done)
      | exact h2' (free_cells (hp.fr r h1 h1')).2.2
      | exact hp.ne r h1 h2 h1' h2'
  | x r =>
    rcases h1 with (h1 | h1) | ⟨h1, h1'⟩ <;> rcases h2 with h2 | ⟨h2, h2'⟩ <;> first
      | (have := h.a2 h1; simp_all; done)
      | (have := h.a3 h2; simp_all; done)
      | (have := h.r1 h2; simp_all; done)
      | (have := h.r2 h1; simp_all; done)
      | (have := h.c1 h1; simp_all; done)
      | (have := h.c2 h2; simp_all; done)
      | (have := h.a1 h2; simp_all; done)
      | exact h2' (free_cells (hp.fr r h1 h1')).1
      | exact hp.ne r h1 h2 h1' h2'
  | d => have := h.a2 h1; rw [show g.all = true from h2] at this; simp at this

theorem wr_wr (h : Apart f g) (hp : Placed f g A B s t) (x : Loc) (h1 : Wrs f A s x) (h2 : Wrs g B t x) : False := by
  cases x with
  | t n => exact h.t2 n h1 h2
  | b n => exact h.b2 n h1 h2
  | c r =>
    rcases h1 with h1 | ⟨h1, h1'⟩ | ⟨h1, h1'⟩ <;> rcases h2 with h2 | ⟨h2, h2'⟩ | ⟨h2, h2'⟩ <;> first
      | (have := h.a2 h1; simp_all; done)
      | (have := h.a3 h2; simp_all; done)
      | (have := h.r1 h2; simp_all; done)
      | (have := h.r2 h1; simp_all; done)
      | (have := h.c1 h1; simp_all; done)
      | (have := h.c2 h2; simp_all; done)
      | (have := h.a1 h2; simp_all; done)
      | exact h2' (free_cells (hp.fr r h1 h1')).1
      | exact hp.ne r h1 h2 h1' h2'
  | m r =>
    rcases h1 with h1 | ⟨h1, h1'⟩ | ⟨h1, h1'⟩ <;> rcases h2 with h2 | ⟨h2, h2'⟩ | ⟨h2, h2'⟩ <;> first
      | (have := h.a2 h1; simp_all; done)
      | (have := h.a3 h2; simp_all; done)
      | (have := h.r1 h2; simp_all; done)
      | (have := h.r2 h1; simp_all; done)
      | (have := h.m1 h1; simp_all; done)
      | (have := h.m2 h2; simp_all; done)
      | (have := h.a1 h2; simp_all; done)
      | exact h2' (free_cells (hp.fr r h1 h1')).2.1
      | exact hp.ne r h1 h2 h1' h2'
  | w r =>
    rcases h1 with h1 | ⟨h1, h1'⟩ | ⟨h1, h1'⟩ <;> rcases h2 with h2 | ⟨h2, h2'⟩ | ⟨h2, h2'⟩ <;> first
      | (have := h.a2 h1; simp_all; done)
      | (have := h.a3 h2; simp_all; done)
      | (have := h.r1 h2; simp_all; done)
      | (have := h.r2 h1; simp_all; done)
      | (have := h.w1 h1; simp_all; done)
      | (have := h.w2 h2; simp_all; done)
      | (have := h.a1 h2; simp_all; done)
      | exact h2' (free_cells (hp.fr r h1 h1')).2.2
      | exact hp.ne r h1 h2 h1' h2'
  | x r =>
    rcases h1 with h1 | ⟨h1, h1'⟩ <;> rcases h2 with h2 | ⟨h2, h2'⟩ <;> first
      | (have := h.a2 h1; simp_all; done)
      | (have := h.a3 h2; simp_all; done)
      | (have := h.r1 h2; simp_all; done)
      | (have := h.r2 h1; simp_all; done)
      | (have := h.c1 h1; simp_all; done)
      | (have := h.c2 h2; simp_all; done)
      | (have := h.a1 h2; simp_all; done)
      | exact h2' (free_cells (hp.fr r h1 h1')).1
      | exact hp.ne r h1 h2 h1' h2'
  | d => have := h.a2 h1; rw [show g.all = true from h2] at this; simp at this
end

/-! ### What comes before -/
section
variable {ops : Array Oper}

/-- closed under what comes before. -/
def Closed (ops : Array Oper) (D : Nat → Bool) : Prop := ∀ i o, ops[i]? = some o → D i = true → ∀ e ∈ o.after, Region.binds .any e = true → D e.on = true

theorem maskOf_spec {acc : List Nat} {j : Nat} : ∀ {l : List Edge}, (maskOf acc l).testBit j = true → ∃ e ∈ l, Region.binds .any e = true ∧ (e.on = j ∨ (acc.getD e.on 0).testBit j = true)
  | [], h => by simp [maskOf] at h
  | e :: l, h => by
    unfold maskOf at h
    split at h
    · rename_i hb
      simp only [Nat.testBit_or, Bool.or_eq_true] at h
      rcases h with (h | h) | h
      · obtain ⟨e', h1, h2⟩ := maskOf_spec h; exact ⟨e', by simp [h1], h2⟩
      · refine ⟨e, by simp, hb, .inl ?_⟩
        rw [Nat.testBit_two_pow] at h
        simpa using h
      · exact ⟨e, by simp, hb, .inr h⟩
    · obtain ⟨e', h1, h2⟩ := maskOf_spec h; exact ⟨e', by simp [h1], h2⟩

/-- what a list of masks says. -/
def MaskOk (ops : Array Oper) (M : List Nat) : Prop := ∀ D, Closed ops D → ∀ i, D i = true → ∀ j, (M.getD i 0).testBit j = true → D j = true

theorem masks_spec : ∀ (l : List Oper) (acc : List Nat), l = ops.toList.drop acc.length → MaskOk ops acc → MaskOk ops (masks l acc)
  | [], acc, _, h => h
  | o :: l, acc, hl, h => by
    obtain ⟨ho, hl'⟩ := drop_cons hl
    have hoi : ops[acc.length]? = some o := by simpa using ho
    unfold masks
    refine masks_spec l _ (by simpa using hl') ?_
    intro D hD i hi j hj
    have hh : (acc ++ [maskOf acc o.after.toList]).getD i 0 = if i < acc.length then acc.getD i 0 else if i = acc.length then maskOf acc o.after.toList else 0 := by
      simp only [List.getD, List.getElem?_append]
      by_cases h1 : i < acc.length
      · simp [h1]
      · by_cases h2 : i = acc.length
        · subst h2; simp
        · have : i - acc.length ≠ 0 := by omega
          simp only [h1, h2, if_false]
          rw [List.getElem?_eq_none (by simp; omega)]
          rfl
    rw [hh] at hj
    split at hj
    · exact h D hD i hi j hj
    · split at hj
      · rename_i hi2
        subst hi2
        obtain ⟨e, he, hb, hj'⟩ := maskOf_spec hj
        have hon := hD _ o hoi hi e (by simpa using he) hb
        rcases hj' with rfl | hj'
        · exact hon
        · exact h D hD e.on hon j hj'
      · simp at hj

theorem masks_ok : MaskOk ops (masks ops.toList []) := masks_spec _ _ (by simp) (fun D _ i _ j hj => by simp [List.getD] at hj)

theorem afterOk_spec : ∀ (l : List Oper) (i : Nat), l = ops.toList.drop i → afterOk i l = true → ∀ k o, i ≤ k → ops[k]? = some o → ∀ e ∈ o.after, Region.binds .any e = true → e.on < k
  | [], i, hl, _, k, o, hk, ho => by
    have h1 := (Array.getElem?_eq_some_iff.1 ho).1
    have := congrArg List.length hl
    simp at this
    omega
  | o' :: l, i, hl, ha, k, o, hk, ho => by
    obtain ⟨ho', hl'⟩ := drop_cons hl
    unfold afterOk at ha
    split at ha
    · rename_i hall
      by_cases hki : k = i
      · subst hki
        have : ops[k]? = some o' := by simpa using ho'
        rw [this] at ho
        cases ho
        intro e he hb
        have := (List.all_eq_true.mp hall) e (by simpa using he)
        rw [hb] at this
        simpa [Nat.blt_eq] using this
      · exact afterOk_spec l (i + 1) hl' ha k o (by omega) ho
    · cases ha
end
end Go.Sw
/-! Regions that draw their order. -/
namespace Go.Sw
open Go

theorem fold_lt {L V : Type} {δ : Nat → L → Option V} {σ : L → V} {j : Nat} {x : L} : ∀ m, j ≤ m → fold δ (fun i => Nat.blt i j) σ m x = fold δ (fun _ => true) σ j x
  | 0, h => by have : j = 0 := by omega
               subst this; rfl
  | m + 1, h => by
    by_cases e : j = m + 1
    · subst e
      exact fold_agree _ (fun i hi _ => by simp; omega)
    · have : Nat.blt m j = false := by
        cases hb : Nat.blt m j with
        | false => rfl
        | true => have := Nat.blt_eq.mp hb; omega
      simp only [fold, this]
      exact fold_lt m (by omega)

theorem count_lt {p q : Nat → Bool} {j : Nat} : ∀ {l : List Nat}, (∀ i, q i = true → p i = true) → j ∈ l → p j = true → q j = false → (l.filter q).length < (l.filter p).length
  | [], _, h, _, _ => by simp at h
  | i :: l, hqp, hj, hp, hq => by
    have le : ∀ l : List Nat, (l.filter q).length ≤ (l.filter p).length := by
      intro l
      induction l with
      | nil => simp
      | cons k l ih =>
        simp only [List.filter_cons]
        cases hk : q k with
        | true => simp [hqp k hk]; exact ih
        | false => cases p k <;> simp <;> omega
    simp only [List.filter_cons]
    rcases List.mem_cons.mp hj with rfl | hj
    · simp only [hp, hq, if_true]
      have := le l
      simp; omega
    · have ih := count_lt hqp hj hp hq
      cases hk : q i with
      | true => simp [hqp i hk]; exact ih
      | false => cases p i <;> simp <;> omega

section
variable {F : Fence} {n : Nat} {C : Cfg} {call : Call} {h : Hint} {ops : Array Oper} {lay : Bool} {M : List Nat} {b0 : Nat} {P : Option (Nat × AV × Heap)} {s : Nat → St} {δ : Nat → Loc → Option LV} {Fo : Nat → Foot}

theorem Run.val (run : Run C call h ops lay M b0 0 P s δ Fo) (x : Loc) : ∀ k, k ≤ ops.size → rd (s k) x = fold δ (fun _ => true) (rd (s 0)) k x
  | 0, _ => rfl
  | k + 1, hk => by
    have ih := run.val x k (by omega)
    obtain ⟨o, ho⟩ : ∃ o, ops[k]? = some o := ⟨_, Array.getElem?_eq_getElem (by omega)⟩
    simp only [fold]
    rcases run.step k o (by omega) ho with ⟨_, a2, a3⟩ | ⟨_, _, _, ⟨_, _, _, _, _, a2, a3⟩ | ⟨_, hd⟩⟩
    · rw [a2, a3 x]; exact ih
    · rw [a2, a3 x]; exact ih
    · rw [hd.here x, ih]

theorem Run.wrote (run : Run C call h ops lay M b0 0 P s δ Fo) {i : Nat} {x : Loc} (hi : i < ops.size) (hne : δ i x ≠ none) : ∃ o, ops[i]? = some o ∧ ¬ Skp P M i ∧ Fo i = foot C h ops o (s i) ∧ Wrs (Fo i) (plc h b0 ops i o) (s i) x := by
  obtain ⟨o, ho⟩ : ∃ o, ops[i]? = some o := ⟨_, Array.getElem?_eq_getElem hi⟩
  rcases run.step i o (by omega) ho with ⟨_, _, a3⟩ | ⟨a1, a2, _, ⟨_, _, _, _, _, _, a3⟩ | ⟨_, hd⟩⟩
  · exact absurd (a3 x) hne
  · exact absurd (a3 x) hne
  · exact ⟨o, ho, a1, a2, hd.wrs x hne⟩

theorem cnt_step {k : Nat} {o : Oper} (ho : ops[k]? = some o) : countLays h (ops.toList.take (k + 1)) = countLays h (ops.toList.take k) + countLays h [o] := by
  rw [take_succ' (by simpa using ho), countLays_append]

theorem cnt_mono {j k : Nat} (hjk : j ≤ k) : countLays h (ops.toList.take j) ≤ countLays h (ops.toList.take k) := by
  have : ops.toList.take k = ops.toList.take j ++ (ops.toList.take k).drop j := by
    have h1 : ops.toList.take j = (ops.toList.take k).take j := by rw [List.take_take]; congr 1; omega
    rw [h1, List.take_append_drop]
  rw [this, countLays_append]
  omega

theorem lays_one {o : Oper} (hl : lays h o = true) : countLays h [o] = 1 := by simp [countLays, hl]

theorem plc_val {k r : Nat} {o : Oper} (hp : plc h b0 ops k o = some r) : lays h o = true ∧ r = b0 + countLays h (ops.toList.take k) := by
  unfold plc placeFor at hp
  split at hp
  · rename_i hl; cases hp; exact ⟨hl, rfl⟩
  · cases hp

/-- places that were put aside are free till they are taken. -/
theorem Run.free (run : Run C call h ops lay M b0 0 P s δ Fo) (h0 : lay = false → countLays h ops.toList = 0) (hfree : ∀ c, c < countLays h ops.toList → (s 0).heap[b0 + c]? = some HO.free) {k : Nat} {o : Oper} (ho : ops[k]? = some o) (hl : lays h o = true) :
    ∀ j, j ≤ k → (s j).heap[b0 + countLays h (ops.toList.take k)]? = some HO.free := by
  have hk : k < ops.size := (Array.getElem?_eq_some_iff.1 ho).1
  have hlt : countLays h (ops.toList.take k) < countLays h ops.toList := by
    have h1 := cnt_step (h := h) ho
    rw [lays_one hl] at h1
    have h2 := cnt_mono (h := h) (ops := ops) (show k + 1 ≤ ops.size by omega)
    have h3 : ops.toList.take ops.size = ops.toList := by rw [List.take_of_length_le]; simp
    rw [h3] at h2
    omega
  have hlay : lay = true := by
    cases hh : lay with
    | true => rfl
    | false => have := h0 hh; omega
  intro j
  induction j with
  | zero => intro _; exact hfree _ hlt
  | succ j ih =>
    intro hj
    have ih := ih (by omega)
    obtain ⟨oj, hoj⟩ : ∃ o, ops[j]? = some o := ⟨_, Array.getElem?_eq_getElem (by omega)⟩
    rcases run.step j oj (by omega) hoj with ⟨_, a2, _⟩ | ⟨_, _, a3, ⟨_, _, _, _, _, a2, _⟩ | ⟨_, hd⟩⟩
    · rw [a2]; exact ih
    · rw [a2]; exact ih
    · have hx := hd.here (.x (b0 + countLays h (ops.toList.take k)))
      have hnone : δ j (.x (b0 + countLays h (ops.toList.take k))) = none := by
        cases hh : δ j (.x (b0 + countLays h (ops.toList.take k))) with
        | none => rfl
        | some v =>
          exfalso
          rcases hd.wrs (.x (b0 + countLays h (ops.toList.take k))) (by rw [hh]; simp) with hw | ⟨_, hw⟩
          · rw [a3 hlay] at hw; cases hw
          · obtain ⟨hlj, he⟩ := plc_val hw
            have h1 := cnt_step (h := h) hoj
            rw [lays_one hlj] at h1
            have h2 := cnt_mono (h := h) (ops := ops) (show j + 1 ≤ k by omega)
            omega
      rw [hnone] at hx
      simp only [rd, Option.getD_none, LV.x.injEq] at hx
      exact bare_free.mp (hx.trans (bare_free.mpr ih))

theorem Run.placed (run : Run C call h ops lay M b0 0 P s δ Fo) (h0 : lay = false → countLays h ops.toList = 0) (hfree : ∀ c, c < countLays h ops.toList → (s 0).heap[b0 + c]? = some HO.free) {j k : Nat} {oj ok : Oper} (hjk : j < k) (hoj : ops[j]? = some oj) (hok : ops[k]? = some ok) :
    Placed (Fo k) (Fo j) (plc h b0 ops k ok) (plc h b0 ops j oj) (s k) (s j) := by
  refine ⟨fun r _ _ h1 h2 => ?_, fun r _ h1 => ?_⟩
  · obtain ⟨_, e1⟩ := plc_val h1
    obtain ⟨l2, e2⟩ := plc_val h2
    have h1 := cnt_step (h := h) hoj
    rw [lays_one l2] at h1
    have h2 := cnt_mono (h := h) (ops := ops) (show j + 1 ≤ k by omega)
    omega
  · obtain ⟨l1, rfl⟩ := plc_val h1
    exact run.free h0 hfree hok l1 j (by omega)

theorem drawn_wp (hC : CallOK C.P call) (hW : Wide F) (hrnd : F.round = none ∨ h.rnd = true) (hZ : ZeroOk C.P) (run : Run C call h ops lay M b0 0 P s δ Fo) (hM : MaskOk ops M) (haf : ∀ k o, 0 ≤ k → ops[k]? = some o → ∀ e ∈ o.after, Region.binds .any e = true → e.on < k)
    (h0 : lay = false → countLays h ops.toList = 0) (hfree : ∀ c, c < countLays h ops.toList → (s 0).heap[b0 + c]? = some HO.free) (hP : ∀ p v H, P = some (p, v, H) → p < ops.size) (hd : dstsOk n ops.toList) {a0 : Act} {w0 : World} {g0 : Gh} {ow0 : Ow} {Q : Exit → Act → World → Prop}
    (hQ1 : P = none → ∀ a' w' g' sv' ow', FR n (s ops.size) a' w' g' sv' ow' → Fut w0 g0 ow0 w' g' ow' → Q .normal a' w')
    (hQ2 : ∀ p v H, P = some (p, v, H) → ∀ u a' w' g' sv' ow', VR g' v u → PFR n ops.toList (s 0) H a0 a' w' g' sv' ow' → Fut w0 g0 ow0 w' g' ow' → Q (.panic [{ v := u, recovered := false }]) a' w') :
    ∀ (fuel : Nat) (D : Nat → Bool) (listed : Array Bool) (sd : St) (a : Act) (w : World) (g : Gh) (sv : Nat → Option Nat) (ow : Ow), listed.size = ops.size → (∀ i, i < ops.size → listed.getD i true = D i) → Closed ops D → (∀ i, D i = true → i < ops.size ∧ ∀ v H, P ≠ some (i, v, H)) →
      ((List.range ops.size).filter (fun i => !D i)).length ≤ fuel → FR n sd a w g sv ow → (∀ x, rd sd x = fold δ D (rd (s 0)) ops.size x) → Fut w0 g0 ow0 w g ow → (noDefer ops.toList = true → sd.defs = (s 0).defs) →
      (∀ t, (∀ o ∈ ops.toList, o.dst ≠ some t) → a.tmps.getD t undef = a0.tmps.getD t undef) → wpAnyIn F 0 C.P .any ops Q fuel listed a w := by
  have getDe : ∀ (listed : Array Bool) i b, i < listed.size → listed.getD i b = listed.getD i true := fun listed i b hi => by simp [Array.getD, hi]
  -- when nothing is ready, all is done
  have done : ∀ (D : Nat → Bool) (listed : Array Bool) (sd : St) (a : Act) (w : World) (g : Gh) (sv : Nat → Option Nat) (ow : Ow), listed.size = ops.size → (∀ i, i < ops.size → listed.getD i true = D i) → (∀ i, D i = true → i < ops.size ∧ ∀ v H, P ≠ some (i, v, H)) →
      FR n sd a w g sv ow → (∀ x, rd sd x = fold δ D (rd (s 0)) ops.size x) → Fut w0 g0 ow0 w g ow → Region.ready .any ops listed = [] → Q .normal a w := by
    intro D listed sd a w g sv ow hsz hL hD hF hv hfut hr
    have all : ∀ i, i < ops.size → D i = true := by
      intro i
      induction i using Nat.strongRecOn with
      | _ i ih =>
        intro hi
        cases hDi : D i with
        | true => rfl
        | false =>
          exfalso
          obtain ⟨o, ho⟩ : ∃ o, ops[i]? = some o := ⟨_, Array.getElem?_eq_getElem hi⟩
          have : i ∈ Region.ready .any ops listed := mem_ready.mpr ⟨by rw [hL i hi]; exact hDi, o, ho, fun e he hb => by
            have h1 := haf i o (by omega) ho e he hb
            rw [getDe listed e.on false (by omega), hL e.on (by omega)]
            exact ih e.on h1 (by omega)⟩
          rw [hr] at this
          cases this
    have hPn : P = none := by
      cases hp : P with
      | none => rfl
      | some q =>
        obtain ⟨p, v, H⟩ := q
        exact absurd hp ((hD p (all p (hP p v H hp))).2 v H)
    refine hQ1 hPn _ _ _ _ _ (hF.ext fun x => ?_) hfut
    rw [hv x, run.val x _ (Nat.le_refl _)]
    exact fold_agree _ (fun i hi _ => (all i hi).symm)
  intro fuel
  induction fuel with
  | zero =>
    intro D listed sd a w g sv ow hsz hL hcl hD hcnt hF hv hfut _ _
    have hr : Region.ready .any ops listed = [] := by
      cases hh : Region.ready .any ops listed with
      | nil => rfl
      | cons j l =>
        exfalso
        have hj : j ∈ Region.ready .any ops listed := by rw [hh]; simp
        obtain ⟨h1, o, ho, _⟩ := mem_ready.mp hj
        have hjs := (Array.getElem?_eq_some_iff.1 ho).1
        rw [hL j hjs] at h1
        have : j ∈ (List.range ops.size).filter (fun i => !D i) := by simp [hjs, h1]
        have h0 : (List.range ops.size).filter (fun i => !D i) = [] := List.length_eq_zero_iff.mp (by omega)
        rw [h0] at this
        cases this
    exact ⟨hr, done D listed sd a w g sv ow hsz hL hD hF hv hfut hr⟩
  | succ fuel ih =>
    intro D listed sd a w g sv ow hsz hL hcl hD hcnt hF hv hfut hnd hot
    refine ⟨fun hr => done D listed sd a w g sv ow hsz hL hD hF hv hfut hr, fun j hj => ?_⟩
    obtain ⟨hj1, o, ho, hj2⟩ := mem_ready.mp hj
    have hjs := (Array.getElem?_eq_some_iff.1 ho).1
    have hDj : D j = false := by rw [← hL j hjs]; exact hj1
    have hcl' : Closed ops (add D j) := by
      intro i oi hoi hi e he hb
      rcases add_iff.mp hi with hi | rfl
      · exact add_iff.mpr (.inl (hcl i oi hoi hi e he hb))
      · rw [ho] at hoi
        cases hoi
        have h1 := haf i o (by omega) ho e he hb
        have h2 := hj2 e he hb
        rw [getDe listed e.on false (by omega), hL e.on (by omega)] at h2
        exact add_iff.mpr (.inl h2)
    have fact1 : ∀ i, i ≠ j → (M.getD j 0).testBit i = true → D i = true := fun i hij hb => (add_iff.mp (hM _ hcl' j (add_iff.mpr (.inr rfl)) i hb)).resolve_right hij
    have fact2 : ∀ i, D i = true → (M.getD i 0).testBit j = true → False := fun i hi hb => by rw [hM D hcl i hi j hb] at hDj; cases hDj
    have hns : ¬ Skp P M j := by
      rintro ⟨p, v, H, h1, h2, h3⟩
      exact (hD p (fact1 p (by omega) h3)).2 v H h1
    have hns' : ∀ i, D i = true → ¬ Skp P M i := by
      rintro i hi ⟨p, v, H, h1, h2, h3⟩
      exact (hD p (hM D hcl i hi p h3)).2 v H h1
    have hstep := run.step j o (by omega) ho
    rcases hstep with ⟨a1, _⟩ | ⟨_, hFj, _, hcase⟩
    · exact absurd a1 hns
    have agree : ∀ x, Rds (Fo j) (plc h b0 ops j o) (s j) x → rd sd x = rd (s j) x := by
      intro x hx
      rw [hv x, run.val x j (by omega), ← fold_lt ops.size (by omega)]
      refine fold_agree _ (fun i hi hne => ?_)
      obtain ⟨oi, hoi, n1, _, hw⟩ := run.wrote hi hne
      rcases Nat.lt_trichotomy i j with hij | rfl | hij
      · have : Nat.blt i j = true := Nat.blt_eq.mpr hij
        rw [this]
        rcases run.apart i j (by omega) hij hjs n1 hns with hb | hc
        · exact fact1 i (by omega) hb
        · exact (rd_wr (apart_of hc) (run.placed h0 hfree hij hoi ho) x hx hw).elim
      · have : Nat.blt i i = false := by cases hb : Nat.blt i i with | false => rfl | true => have := Nat.blt_eq.mp hb; omega
        rw [this]; exact hDj
      · have : Nat.blt i j = false := by cases hb : Nat.blt i j with | false => rfl | true => have := Nat.blt_eq.mp hb; omega
        rw [this]
        cases hDi : D i with
        | false => rfl
        | true =>
          exfalso
          rcases run.apart j i (by omega) hij hi hns n1 with hb | hc
          · exact fact2 i hDi hb
          · exact wr_rd (apart_of hc) (run.placed h0 hfree hij ho hoi) x hw hx
    have hall := oper_all (ops := ops) (h := h) (A := plc h b0 ops j o) (o := o) hC hW hrnd hZ hF (hd o (by
      have : ops[j] = o := by have := (Array.getElem?_eq_some_iff.1 ho).2; exact this
      rw [← this]; simp))
    have hmem : o ∈ ops.toList := by
      have : ops[j] = o := (Array.getElem?_eq_some_iff.1 ho).2
      rw [← this]; simp
    have toOp : ∀ K : Act → World → Prop, runOper F C.P ops o a w K Q → wpOpIn F 0 C.P ops Q j K a w := by
      intro K hK
      unfold wpOpIn
      rw [ho]
      exact hK
    apply toOp
    rcases hcase with ⟨v, H, p1, p2, p3, _, _⟩ | ⟨p1, hdl⟩
    · -- a panic
      have hev := oper_panic (by rw [← hFj]; exact p2) (fun ha => plc_some ha) p3 sd (by rw [← hFj]; exact agree)
      rw [hev] at hall
      refine hall _ _ (fun u w' g' sv' ow' q1 q2 q3 => hQ2 j v H p1 u a w' g' sv' ow' q1 ⟨⟨_, q2, rfl, fun hn => hnd hn⟩, hot⟩ (hfut.trans q3))
    · obtain ⟨sd', hev, hsd'⟩ := hdl.else_ sd agree
      rw [hev] at hall
      refine hall _ _ (fun a' w' g' sv' ow' q1 q2 q3 => ?_)
      refine ih (add D j) (listed.setIfInBounds j true) sd' a' w' g' sv' ow' (by simp [hsz]) (fun i hi => ?_) hcl' (fun i hi => ?_) ?_ q1 (fun x => ?_) (hfut.trans q2) (fun hn => ?_) (fun t ht => ?_)
      · by_cases hij : i = j
        · subst hij
          simp [Array.getD, hsz, hi, add]
        · have e1 := hL i hi
          simp only [Array.getD, Array.size_setIfInBounds, hsz, hi, dite_true] at e1 ⊢
          rw [Array.getInternal_eq_getElem] at e1 ⊢
          rw [Array.getElem_setIfInBounds_ne (by rw [hsz]; exact hi) (fun h => hij h.symm), e1]
          simp [add, hij]
      · rcases add_iff.mp hi with hi | rfl
        · exact hD i hi
        · exact ⟨hjs, p1⟩
      · have := count_lt (p := fun i => !D i) (q := fun i => !add D j i) (j := j) (l := List.range ops.size) (fun i hi => by
          simp only [Bool.not_eq_true'] at hi ⊢
          cases hDi : D i with
          | false => rfl
          | true => rw [add_iff.mpr (.inl hDi)] at hi; cases hi) (by simpa using hjs) (by simp [hDj]) (by simp [add])
        omega
      · rw [hsd' x, hv x]
        refine (fold_add hjs x (fun i hji hi hDi hne => ?_)).symm
        cases hdi : δ i x with
        | none => rfl
        | some v =>
          exfalso
          obtain ⟨oi, hoi, n1, _, hw⟩ := run.wrote hi (x := x) (by rw [hdi]; simp)
          rcases run.apart j i (by omega) hji hi hns n1 with hb | hc
          · exact fact2 i hDi hb
          · exact wr_wr (apart_of hc) (run.placed h0 hfree hji ho hoi) x hw (hdl.wrs x hne)
      · rw [← hnd hn]
        refine evOper_defs (fun c hc => ?_) hev
        have := (List.all_eq_true.mp hn) o hmem
        rw [hc] at this
        cases this
      · rw [q3 t (ht o hmem)]; exact hot t ht

end
end Go.Sw

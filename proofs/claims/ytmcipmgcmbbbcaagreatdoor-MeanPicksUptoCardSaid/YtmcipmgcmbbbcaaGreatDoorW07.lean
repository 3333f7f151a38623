/- A reflective evaluator over the code of a program, and the proof that what it finds is what the machine of the model does. It asks of the program what ProgOK says; nothing of a law is said here. -/
import Derived.Test.YtmcipmgcmbbbcaaGreatDoorW06
import Derived.LoopNIn
import Derived.Scope
/-! Two stores in either order: a truth that is left open. -/
namespace Go.Sw
open Go

section
variable {F : Fence} {n : Nat} {st : St} {a : Act} {w : World} {g : Gh} {sv : Nat → Option Nat} {ow : Ow} {C : Cfg} {call : Call} {h : Hint} {ops : Array Oper}

theorem coin_alloc {sd : St} {x t ty : Nat} {p : String} {af : Array Edge} {rr z : Bool} (hz : zeroT C.P t = some (.v (.bool z))) :
    evOper C call { esc := [x], rnd := rr } none ops ⟨some x, .alloc t, ty, p, af, none⟩ sd = .ok (applyEff sd (some x) { dst := .v (.ref sd.heap.length 0), heap := some (sd.heap ++ [.cells [.v (.bool z)]]) }) := by
  simp [evOper, evOp, evCore, newBox, hz, opt, memN, lay, layOk, envOf, cellsOfSlot, guardR, plainCell, Res.bind, bind]

theorem coin_store {sd : St} {x t ty r : Nat} {p : String} {af : Array Edge} {c : Slot} {b : Bool} (hx : getT sd.tmps x = .v (.ref r 0)) (hr : sd.heap[r]? = some (.cells [c])) (hsz : sizeT C.P t = some 1) :
    evOper C call h none ops ⟨none, .store t (.tmp x) (.const (.bool b)), ty, p, af, none⟩ sd = .ok (applyEff sd none { dst := .undef, heap := some (sd.heap.set r (.cells [.v (.bool b)])) }) := by
  simp [evOper, evOp, evCore, evStore, opd, hx, behind, envOf, hr, hsz, opt, ofConst, cellsOfSlot, guardR, plainCell, setBehind, writeL, handed, Res.bind, bind]

theorem coin_load {sd : St} {x t ty r d : Nat} {p : String} {af : Array Edge} {b : Bool} (hx : getT sd.tmps x = .v (.ref r 0)) (hr : sd.heap[r]? = some (.cells [.v (.bool b)])) (hsz : sizeT C.P t = some 1) (hu : C.P.underlying t = some .bool)
    (ht : takes h (some d) = false) : evOper C call h none ops ⟨some d, .load t (.tmp x), ty, p, af, none⟩ sd = .ok (applyEff sd (some d) { dst := .v (.bool b) }) := by
  simp [evOper, evOp, evCore, evLoad, opd, hx, behind, envOf, hr, hsz, isAggT, hu, opt, ht, view, Res.bind, bind]

structure CoinIs (P : Program) (ops : Array Oper) (x d t : Nat) (z : Bool) : Prop where
  sz : sizeT P t = some 1
  un : P.underlying t = some .bool
  ze : zeroT P t = some (.v (.bool z))
  ne : x ≠ d
  ok : coinOk ops.toList = true
  is : ∃ ty0 p0 af0 ty1 p1 af1 ty2 p2 af2 ty3 p3 af3, ops.toList = [⟨some x, .alloc t, ty0, p0, af0, none⟩, ⟨none, .store t (.tmp x) (.const (.bool true)), ty1, p1, af1, none⟩, ⟨none, .store t (.tmp x) (.const (.bool false)), ty2, p2, af2, none⟩, ⟨some d, .load t (.tmp x), ty3, p3, af3, none⟩]

theorem coin_is {P : Program} {x d : Nat} (h : isCoin P ops = some (x, d)) : ∃ t z, CoinIs P ops x d t z := by
  unfold isCoin at h
  split at h
  · rename_i l a t ty0 p0 af0 t1 a1 ty1 p1 af1 t2 a2 ty2 p2 af2 d' t3 a3 ty3 p3 af3 hl
    split at h
    · rename_i z hu hs hz hg
      cases h
      simp only [Bool.and_eq_true, Bool.not_eq_true'] at hg
      obtain ⟨⟨⟨⟨⟨⟨⟨g1, g2⟩, g3⟩, g4⟩, g5⟩, g6⟩, g7⟩, g8⟩ := hg
      have g1 := Nat.eq_of_beq_eq_true g1
      have g2 := Nat.eq_of_beq_eq_true g2
      have g3 := Nat.eq_of_beq_eq_true g3
      have g4 := Nat.eq_of_beq_eq_true g4
      have g5 := Nat.eq_of_beq_eq_true g5
      have g6 := Nat.eq_of_beq_eq_true g6
      subst g1; subst g2; subst g3; subst g4; subst g5; subst g6
      refine ⟨t, z, hs, hu, hz, fun e => ?_, g8, _, _, _, _, _, _, _, _, _, _, _, _, hl⟩
      subst e
      simp at g7
    · cases h
  · cases h

/-- how far it is. -/
structure CoinAt (st : St) (x d : Nat) (D : Nat → Bool) (sd : St) : Prop where
  lc : sd.locs = st.locs
  df : sd.defs = st.defs
  no : D 0 = false → sd.tmps = st.tmps ∧ sd.heap = st.heap
  yes : D 0 = true → ∃ b, sd.heap = st.heap ++ [.cells [.v (.bool b)]] ∧ (D 3 = false → sd.tmps = (x, .v (.ref st.heap.length 0)) :: st.tmps) ∧ (D 3 = true → ∃ b', sd.tmps = (d, .v (.bool b')) :: (x, .v (.ref st.heap.length 0)) :: st.tmps)

theorem coin_end {x d : Nat} {D : Nat → Bool} {sd : St} (hF : FR n sd a w g sv ow) (hc : CoinAt st x d D sd) (h0 : D 0 = true) (h3 : D 3 = true) :
    ∃ ow', FR n { st with tmps := (d, .coin) :: (x, .undef) :: st.tmps, heap := st.heap ++ [.dead], ht := true } a w g sv ow' ∧ Fut w g ow w g ow' := by
  obtain ⟨b, e1, _, e2⟩ := hc.yes h0
  obtain ⟨b', e2⟩ := e2 h3
  have hr : sd.heap[st.heap.length]? = some (.cells [.v (.bool b)]) := by rw [e1]; simp
  obtain ⟨B, arr, q1, q2, _⟩ := hF.hr.ob _ _ hr
  obtain ⟨k1, k2⟩ := hF.kill q2
  refine ⟨_, ?_, k2⟩
  have hset : sd.heap.set st.heap.length .dead = st.heap ++ [.dead] := by rw [e1]; simp
  refine ⟨k1.sz, k1.gc, fun t => ?_, fun t => ?_, fun s cs hs => k1.lc s cs (by show assoc s sd.locs = _; rw [hc.lc]; exact hs), by have := k1.hr; simp only at this; rw [hset] at this; exact this, by have := k1.df; simp only at this; rw [hc.df] at this; exact this, k1.bd, k1.gv⟩
  · have := k1.tm t
    simp only [e2, getT_cons] at this ⊢
    split
    · rename_i hd
      subst hd
      simp only [if_true] at this
      exact ⟨b', this⟩
    · rename_i hd
      simp only [hd, if_false] at this
      split
      · trivial
      · rename_i hx
        simp only [hx, if_false] at this
        exact this
  · have := k1.lk t
    simp only [e2, getT_cons] at this ⊢
    split
    · trivial
    · rename_i hd
      simp only [hd, if_false] at this
      split
      · trivial
      · rename_i hx
        simp only [hx, if_false] at this
        have hlc : sd.locs = st.locs := hc.lc
        rw [hlc] at this
        exact this

theorem coin_masks {l : List Oper} (h : coinOk l = true) : ∃ m0 m1 m2 m3, masks l [] = [m0, m1, m2, m3] ∧ m1.testBit 0 = true ∧ m2.testBit 0 = true ∧ m3.testBit 0 = true ∧ m3.testBit 1 = true ∧ m3.testBit 2 = true ∧ afterOk 0 l = true := by
  unfold coinOk at h
  split at h
  · rename_i m0 m1 m2 m3 hm
    simp only [Bool.and_eq_true] at h
    obtain ⟨⟨⟨⟨⟨h1, h2⟩, h3⟩, h4⟩, h5⟩, h6⟩ := h
    exact ⟨m0, m1, m2, m3, hm, h1, h2, h3, h4, h5, h6⟩
  · cases h

theorem coin_steps {x d t : Nat} {z : Bool} (hC : CallOK C.P call) (hW : Wide F) (hrnd : F.round = none ∨ h.rnd = true) (hZ : ZeroOk C.P) (hI : CoinIs C.P ops x d t z) (hd : dstsOk n ops.toList) {w0 : World} {g0 : Gh} {ow0 : Ow} {Q : Exit → Act → World → Prop}
    (hQ : ∀ a' w' g' sv' ow', FR n { st with tmps := (d, .coin) :: (x, .undef) :: st.tmps, heap := st.heap ++ [.dead], ht := true } a' w' g' sv' ow' → Fut w0 g0 ow0 w' g' ow' → Q .normal a' w') :
    ∀ (fuel : Nat) (D : Nat → Bool) (listed : Array Bool) (sd : St) (a : Act) (w : World) (g : Gh) (sv : Nat → Option Nat) (ow : Ow), listed.size = ops.size → (∀ i, i < ops.size → listed.getD i true = D i) → Closed ops D → (∀ i, D i = true → i < ops.size) →
      ((List.range ops.size).filter (fun i => !D i)).length ≤ fuel → FR n sd a w g sv ow → CoinAt st x d D sd → Fut w0 g0 ow0 w g ow → wpAnyIn F 0 C.P .any ops Q fuel listed a w := by
  obtain ⟨ty0, p0, af0, ty1, p1, af1, ty2, p2, af2, ty3, p3, af3, hl⟩ := hI.is
  obtain ⟨m0, m1, m2, m3, hm, b1, b2, b30, b31, b32, hafter⟩ := coin_masks hI.ok
  have hM : MaskOk ops (masks ops.toList []) := masks_ok
  rw [hm] at hM
  have haf := afterOk_spec ops.toList 0 (ops := ops) (by simp) hafter
  have hsize : ops.size = 4 := by have := congrArg List.length hl; simpa using this
  have getDe : ∀ (listed : Array Bool) i b, i < listed.size → listed.getD i b = listed.getD i true := fun listed i b hi => by simp [Array.getD, hi]
  have done : ∀ (D : Nat → Bool) (listed : Array Bool) (sd : St) (a : Act) (w : World) (g : Gh) (sv : Nat → Option Nat) (ow : Ow), listed.size = ops.size → (∀ i, i < ops.size → listed.getD i true = D i) →
      FR n sd a w g sv ow → CoinAt st x d D sd → Fut w0 g0 ow0 w g ow → Region.ready .any ops listed = [] → Q .normal a w := by
    intro D listed sd a w g sv ow hsz hL hF hv hfut hr
    have all : ∀ i, i < ops.size → D i = true := by
      intro i
      induction i using Nat.strongRecOn with
      | _ i ih =>
        intro hi
        cases hDi : D i with
        | true => rfl
        | false =>
          exfalso
          obtain ⟨o, ho⟩ : ∃ o, ops[i]? = some o := ⟨_, Array.getElem?_eq_getElem hi⟩
          have : i ∈ Region.ready .any ops listed := mem_ready.mpr ⟨by rw [hL i hi]; exact hDi, o, ho, fun e he hb => by
            have h1 := haf i o (by omega) ho e he hb
            rw [getDe listed e.on false (by omega), hL e.on (by omega)]
            exact ih e.on h1 (by omega)⟩
          rw [hr] at this
          cases this
    obtain ⟨ow', k1, k2⟩ := coin_end hF hv (all 0 (by omega)) (all 3 (by omega))
    exact hQ _ _ _ _ _ k1 (hfut.trans k2)
  intro fuel
  induction fuel with
  | zero =>
    intro D listed sd a w g sv ow hsz hL hcl hD hcnt hF hv hfut
    have hr : Region.ready .any ops listed = [] := by
      cases hh : Region.ready .any ops listed with
      | nil => rfl
      | cons j l =>
        exfalso
        have hj : j ∈ Region.ready .any ops listed := by rw [hh]; simp
        obtain ⟨h1, o, ho, _⟩ := mem_ready.mp hj
        have hjs := (Array.getElem?_eq_some_iff.1 ho).1
        rw [hL j hjs] at h1
        have : j ∈ (List.range ops.size).filter (fun i => !D i) := by simp [hjs, h1]
        have h0 : (List.range ops.size).filter (fun i => !D i) = [] := List.length_eq_zero_iff.mp (by omega)
        rw [h0] at this
        cases this
    exact ⟨hr, done D listed sd a w g sv ow hsz hL hF hv hfut hr⟩
  | succ fuel ih =>
    intro D listed sd a w g sv ow hsz hL hcl hD hcnt hF hv hfut
    refine ⟨fun hr => done D listed sd a w g sv ow hsz hL hF hv hfut hr, fun j hj => ?_⟩
    obtain ⟨hj1, o, ho, hj2⟩ := mem_ready.mp hj
    have hjs := (Array.getElem?_eq_some_iff.1 ho).1
    have hDj : D j = false := by rw [← hL j hjs]; exact hj1
    have hcl' : Closed ops (add D j) := by
      intro i oi hoi hi e he hb
      rcases add_iff.mp hi with hi | rfl
      · exact add_iff.mpr (.inl (hcl i oi hoi hi e he hb))
      · rw [ho] at hoi
        cases hoi
        have h1 := haf i o (by omega) ho e he hb
        have h2 := hj2 e he hb
        rw [getDe listed e.on false (by omega), hL e.on (by omega)] at h2
        exact add_iff.mpr (.inl h2)
    have fact1 : ∀ i, i ≠ j → ([m0, m1, m2, m3].getD j 0).testBit i = true → D i = true := fun i hij hb => (add_iff.mp (hM _ hcl' j (add_iff.mpr (.inr rfl)) i hb)).resolve_right hij
    have fact2 : ∀ i, D i = true → ([m0, m1, m2, m3].getD i 0).testBit j = true → False := fun i hi hb => by rw [hM D hcl i hi j hb] at hDj; cases hDj
    have hmem : o ∈ ops.toList := by
      have : ops[j] = o := (Array.getElem?_eq_some_iff.1 ho).2
      rw [← this]; simp
    have hall := oper_all (ops := ops) (h := { esc := [x], rnd := h.rnd }) (A := none) (o := o) hC hW hrnd hZ hF (hd o hmem)
    have toOp : ∀ K : Act → World → Prop, runOper F C.P ops o a w K Q → wpOpIn F 0 C.P ops Q j K a w := by
      intro K hK
      unfold wpOpIn
      rw [ho]
      exact hK
    apply toOp
    -- the step
    have step : ∃ sd', evOper C call { esc := [x], rnd := h.rnd } none ops o sd = .ok sd' ∧ CoinAt st x d (add D j) sd' := by
      have hol : ops.toList[j]? = some o := by simpa using ho
      rw [hl] at hol
      have hj4 : j < 4 := by omega
      match j, hj4 with
      | 0, _ =>
        cases hol
        have hd3 : D 3 = false := by
          cases h3 : D 3 with
          | false => rfl
          | true => exact (fact2 3 h3 b30).elim
        obtain ⟨e1, e2⟩ := hv.no hDj
        refine ⟨_, coin_alloc hI.ze, hv.lc, hv.df, fun hh => by simp [add] at hh, fun _ => ⟨z, by simp [applyEff, e2], fun _ => by simp [applyEff, putT, setT, e1, e2], fun hh => ?_⟩⟩
        have : add D 0 3 = D 3 := by simp [add]
        rw [this, hd3] at hh
        cases hh
      | 1, _ =>
        cases hol
        have h0 : D 0 = true := fact1 0 (by omega) b1
        have hd3 : D 3 = false := by
          cases h3 : D 3 with
          | false => rfl
          | true => exact (fact2 3 h3 b31).elim
        obtain ⟨b, e1, e2, _⟩ := hv.yes h0
        have e2 := e2 hd3
        have hx : getT sd.tmps x = .v (.ref st.heap.length 0) := by rw [e2]; simp [getT_cons]
        have hr : sd.heap[st.heap.length]? = some (.cells [.v (.bool b)]) := by rw [e1]; simp
        refine ⟨_, coin_store hx hr hI.sz, hv.lc, hv.df, fun hh => by simp [add, h0] at hh, fun _ => ⟨true, by simp [applyEff, e1], fun _ => by simp [applyEff, putT, setT, e2], fun hh => ?_⟩⟩
        have : add D 1 3 = D 3 := by simp [add]
        rw [this, hd3] at hh
        cases hh
      | 2, _ =>
        cases hol
        have h0 : D 0 = true := fact1 0 (by omega) b2
        have hd3 : D 3 = false := by
          cases h3 : D 3 with
          | false => rfl
          | true => exact (fact2 3 h3 b32).elim
        obtain ⟨b, e1, e2, _⟩ := hv.yes h0
        have e2 := e2 hd3
        have hx : getT sd.tmps x = .v (.ref st.heap.length 0) := by rw [e2]; simp [getT_cons]
        have hr : sd.heap[st.heap.length]? = some (.cells [.v (.bool b)]) := by rw [e1]; simp
        refine ⟨_, coin_store hx hr hI.sz, hv.lc, hv.df, fun hh => by simp [add, h0] at hh, fun _ => ⟨false, by simp [applyEff, e1], fun _ => by simp [applyEff, putT, setT, e2], fun hh => ?_⟩⟩
        have : add D 2 3 = D 3 := by simp [add]
        rw [this, hd3] at hh
        cases hh
      | 3, _ =>
        cases hol
        have h0 : D 0 = true := fact1 0 (by omega) b30
        obtain ⟨b, e1, e2, _⟩ := hv.yes h0
        have e2 := e2 hDj
        have hx : getT sd.tmps x = .v (.ref st.heap.length 0) := by rw [e2]; simp [getT_cons]
        have hr : sd.heap[st.heap.length]? = some (.cells [.v (.bool b)]) := by rw [e1]; simp
        refine ⟨_, coin_load hx hr hI.sz hI.un rfl, hv.lc, hv.df, fun hh => by simp [add, h0] at hh, fun _ => ⟨b, by simp [applyEff, e1], fun hh => ?_, fun _ => ⟨b, by simp [applyEff, putT, setT, e2]⟩⟩⟩
        simp [add] at hh
    obtain ⟨sd', hev, hsd'⟩ := step
    rw [hev] at hall
    refine hall _ _ (fun a' w' g' sv' ow' q1 q2 q3 => ?_)
    refine ih (add D j) (listed.setIfInBounds j true) sd' a' w' g' sv' ow' (by simp [hsz]) (fun i hi => ?_) hcl' (fun i hi => ?_) ?_ q1 hsd' (hfut.trans q2)
    · by_cases hij : i = j
      · subst hij
        simp [Array.getD, hsz, hi, add]
      · have e1 := hL i hi
        simp only [Array.getD, Array.size_setIfInBounds, hsz, hi, dite_true] at e1 ⊢
        rw [Array.getInternal_eq_getElem] at e1 ⊢
        rw [Array.getElem_setIfInBounds_ne (by rw [hsz]; exact hi) (fun h => hij h.symm), e1]
        simp [add, hij]
    · rcases add_iff.mp hi with hi | rfl
      · exact hD i hi
      · exact hjs
    · have := count_lt (p := fun i => !D i) (q := fun i => !add D j i) (j := j) (l := List.range ops.size) (fun i hi => by
        simp only [Bool.not_eq_true'] at hi ⊢
        cases hDi : D i with
        | false => rfl
        | true => rw [add_iff.mpr (.inl hDi)] at hi; cases hi) (by simpa using hjs) (by simp [hDj]) (by simp [add])
      omega

end
end Go.Sw
/-! Where the code alone tells that the order does not matter, nothing more is to be asked. -/
namespace Go.Sw
open Go

theorem bitsOf_mem {x : Nat} : ∀ {l : List Nat}, x ∈ l → (bitsOf l).testBit x = true
  | t :: l, h => by
    simp only [bitsOf, Nat.testBit_or, Bool.or_eq_true]
    rcases List.mem_cons.mp h with rfl | h
    · exact .inl (Nat.testBit_two_pow_self)
    · exact .inr (bitsOf_mem h)

theorem meets_of {l m : List Nat} (h : ∀ x, x ∈ l → x ∈ m → False) : meets l m = false := by
  induction l with
  | nil => rfl
  | cons y l ih =>
    unfold meets
    cases hm : memN y m with
    | true => exact (h y (by simp) (memN_iff.mp hm)).elim
    | false => exact ih fun x h1 h2 => h x (by simp [h1]) h2

structure Dom (s : SF) (f : Foot) : Prop where
  rt : ∀ x ∈ f.rt, s.R.testBit x = true
  wt : ∀ x ∈ f.wt, s.W.testBit x = true

/-- what is of memory. -/
def mem (f : Foot) : Foot := { f with rt := [], wt := [] }
def nomem : Foot := { rt := [], wt := [] }

theorem bits_apart {a b x : Nat} (h : Nat.beq (Nat.land a b) 0 = true) (h1 : a.testBit x = true) (h2 : b.testBit x = true) : False := by
  have h0 : a &&& b = 0 := Nat.eq_of_beq_eq_true h
  have := Nat.testBit_and a b x
  rw [h0, h1, h2] at this
  simp at this

theorem meets_nil (l : List Nat) : meets l [] = false := meets_of (by simp)

theorem clashM_mem (f g : Foot) : clashM f g = clashM (mem f) (mem g) := rfl
theorem clashM_l (g : Foot) : clashM nomem g = false := by
  simp [clashM, nomem, Foot.heap, meets_nil, meets]
theorem clashM_r (f : Foot) : clashM f nomem = false := by
  simp [clashM, nomem, Foot.heap, meets_nil, meets]

theorem clash_of {s t : SF} {f g : Foot} (h : sclash s t = false) (hf : Dom s f) (hg : Dom t g) (hm : clashM f g = false) : clash f g = false := by
  unfold sclash at h
  simp only [Bool.or_eq_false_iff, Bool.not_eq_false'] at h
  obtain ⟨h1, h2⟩ := h
  have m1 : meets f.wt g.rt = false := meets_of fun x a b => bits_apart h1 (hf.wt x a) (by rw [show Nat.lor t.R t.W = t.R ||| t.W from rfl, Nat.testBit_or, hg.rt x b]; rfl)
  have m2 : meets f.wt g.wt = false := meets_of fun x a b => bits_apart h1 (hf.wt x a) (by rw [show Nat.lor t.R t.W = t.R ||| t.W from rfl, Nat.testBit_or, hg.wt x b]; simp)
  have m3 : meets g.wt f.rt = false := meets_of fun x a b => bits_apart h2 (hg.wt x a) (hf.rt x b)
  unfold clashM at hm
  unfold clash
  rw [m1, m2, m3]
  simp only [Bool.false_or]
  exact hm

section
variable {C : Cfg} {call : Call} {h : Hint} {ops : Array Oper} {o : Oper} {st : St}

theorem handedT_sub {S : Operand → Slot} {x : Operand} {t : Nat} (h : t ∈ handedT S x) : t ∈ tmpT x := by
  unfold handedT at h
  split at h
  · simp at h
  · simp at h
  · exact h

theorem sf_dom (hp : (plF o).fn st = true) : Dom (sfoot h ops o) (foot C h ops o st) := by
  have hR : ∀ (f : Foot), f.rt = tmpsOf o.op.operands.toList → ∀ x ∈ ({ f with rt := guardT ops o.guard ++ f.rt } : Foot).rt, (bitsOf (guardT ops o.guard ++ tmpsOf o.op.operands.toList)).testBit x = true := by
    intro f hf x hx
    simp only [hf] at hx
    exact bitsOf_mem hx
  have hrt : (footOp C h o (opd st)).rt = tmpsOf o.op.operands.toList := by
    unfold footOp
    cases o.op <;> simp only <;> (try split) <;> (try split) <;> (try split) <;> (try split) <;> rfl
  refine ⟨?_, ?_⟩
  · have : (sfoot h ops o).R = bitsOf (guardT ops o.guard ++ tmpsOf o.op.operands.toList) := by
      unfold sfoot
      cases o.op <;> simp only <;> (try split) <;> rfl
    rw [this]
    exact hR _ hrt
  · intro x hx
    have hx : x ∈ (footOp C h o (opd st)).wt := hx
    unfold footOp at hx
    unfold sfoot
    unfold plF at hp
    cases ho : o.op <;> simp only [ho] at hx hp ⊢
    case extract y i =>
      rw [slF_eq] at hp
      split at hp
      · rename_i cs hcs
        rw [hcs] at hx
        simp only at hx
        split at hp
        · rename_i z hz
          rw [hz] at hx
          simp only [List.append_nil] at hx
          exact bitsOf_mem hx
        · cases hp
      · cases hp
    all_goals (repeat' (split at hx))
    all_goals (try (simp only [*]))
    all_goals first
      | exact bitsOf_mem hx
      | exact bitsOf_mem (List.mem_append_left _ hx)
      | (simp only [allF, List.mem_append] at hx
         refine bitsOf_mem (List.mem_append.mpr ?_)
         rcases hx with hx | hx
         · exact .inl hx
         · first | exact .inr (handedT_sub hx) | exact .inr hx | (simp at hx; done))
      | (simp only [List.mem_append] at hx
         refine bitsOf_mem ?_
         rcases hx with hx | hx
         · exact hx
         · simp at hx; done)

theorem nomem_of (hm : (memOp h ops o).b = false) : mem (foot C h ops o st) = nomem := by
  have hs : (sfoot h ops o).mr = false ∧ (sfoot h ops o).mw = false := by
    unfold memOp at hm
    split at hm
    · cases hm
    · rename_i hh; simpa using hh
  obtain ⟨hmr, hmw⟩ := hs
  have r0 : (footOp C h o (opd st)).rs = [] ∧ (footOp C h o (opd st)).rc = false ∧ (footOp C h o (opd st)).rm = false ∧ (footOp C h o (opd st)).rr = false ∧ (footOp C h o (opd st)).ra = false := by
    unfold sfoot at hmr
    unfold footOp
    cases ho : o.op <;> simp only [ho] at hmr ⊢
    all_goals (repeat' (split at hmr))
    all_goals first
      | (cases hmr; done)
      | (simp_all; done)
  have w0 : (footOp C h o (opd st)).ws = [] ∧ (footOp C h o (opd st)).wc = false ∧ (footOp C h o (opd st)).wm = false ∧ (footOp C h o (opd st)).wr = false ∧ (footOp C h o (opd st)).al = false ∧ (footOp C h o (opd st)).all = false := by
    unfold sfoot at hmw
    unfold footOp
    cases ho : o.op <;> simp only [ho] at hmw ⊢
    all_goals (repeat' (split at hmw))
    all_goals first
      | (cases hmw; done)
      | (simp_all; done)
  obtain ⟨a1, a2, a3, a4, a5⟩ := r0
  obtain ⟨b1, b2, b3, b4, b5, b6⟩ := w0
  show mem (footOp C h o (opd st)) = nomem
  generalize footOp C h o (opd st) = f at *
  obtain ⟨_, _, _, _, _, _, _, _, _, _, _, _, _⟩ := f
  simp only at a1 a2 a3 a4 a5 b1 b2 b3 b4 b5 b6
  subst a1; subst a2; subst a3; subst a4; subst a5; subst b1; subst b2; subst b3; subst b4; subst b5; subst b6
  rfl

theorem footF_mem : mem ((footF C h o).fn st) = mem (foot C h ops o st) := by
  show _ = mem (footOp C h o (opd st))
  unfold footF
  cases ho : o.op <;> simp only <;> (try rfl)
  rename_i t a
  cases ht : takes h o.dst with
  | true => rfl
  | false =>
    simp only [slF_eq]
    unfold footOp
    rw [ho]
    simp only [ht]
    cases hs : opd st a with
    | v x => cases x <;> rfl
    | _ => rfl

theorem sureAt_spec {m : Nat} {f : SF} : ∀ {l : List (Nat × SF)}, sureAt m f l = true → ∀ jg ∈ l, m.testBit jg.1 = true ∨ sclash f jg.2 = false
  | [], _, jg, hj => by simp at hj
  | (j, g) :: l, ha, jg, hj => by
    unfold sureAt at ha
    split at ha
    · rename_i hb
      rcases List.mem_cons.mp hj with rfl | hj
      · simpa using hb
      · exact sureAt_spec ha jg hj
    · cases ha

theorem apartM_spec {m : Nat} {f : Foot} : ∀ {l : List (Nat × Foot)}, apartM m f l = true → ∀ jg ∈ l, m.testBit jg.1 = true ∨ clashM f jg.2 = false
  | [], _, jg, hj => by simp at hj
  | (j, g) :: l, ha, jg, hj => by
    unfold apartM at ha
    split at ha
    · rename_i hb
      rcases List.mem_cons.mp hj with rfl | hj
      · simpa using hb
      · exact apartM_spec ha jg hj
    · cases ha

theorem apartAll_of {m : Nat} {f : Foot} : ∀ {l : List (Nat × Foot)}, (∀ jg ∈ l, m.testBit jg.1 = true ∨ clash f jg.2 = false) → apartAll m f l = true
  | [], _ => rfl
  | (j, g) :: l, ha => by
    unfold apartAll
    have : (m.testBit j || !clash f g) = true := by
      rcases ha (j, g) (by simp) with h | h
      · simp [h]
      · simp [h]
    rw [this]
    exact apartAll_of fun jg hj => ha jg (by simp [hj])

/-- what is known of earlier operations. -/
def Known (ss : List (Nat × SF)) (mfs fs : List (Nat × Foot)) : Prop :=
  ∀ jg ∈ fs, (∃ s, (jg.1, s) ∈ ss ∧ Dom s jg.2) ∧ (mem jg.2 = nomem ∨ ∃ g, (jg.1, g) ∈ mfs ∧ mem g = mem jg.2)

theorem fast_drawn {b : Nat} : ∀ (l : List Oper) (i : Nat) (ms : List Nat) (st st' : St) (ss : List (Nat × SF)) (mfs fs : List (Nat × Foot)), countLays h l = 0 → sureFrom h ops i l ms ss = true →
    Known ss mfs fs → fastOps C call h ops i l ms st mfs = .ok st' → evDrawn C call h ops false i b l ms st fs none = .ok st'
  | [], i, ms, st, st', ss, mfs, fs, _, _, _, hf => by
    unfold fastOps at hf
    unfold evDrawn
    exact hf
  | o :: l, i, ms, st, st', ss, mfs, fs, hc, hs, hd, hf => by
    unfold fastOps at hf
    cases hp : (plF o).fn st with
    | false => rw [hp] at hf; cases hf
    | true =>
      rw [hp] at hf
      simp only [bindR_eq, operF_eq] at hf
      unfold sureFrom at hs
      split at hs
      · rename_i hsa
        have hdo := sf_dom (C := C) (h := h) (ops := ops) hp
        have hl : lays h o = false := by
          unfold countLays at hc
          cases hl : lays h o with
          | false => rfl
          | true => rw [hl] at hc; simp only at hc; omega
        have hc' : countLays h l = 0 := by
          unfold countLays at hc
          rw [hl] at hc
          simp only at hc
          omega
        have hpl : placeFor h b o = none := by unfold placeFor; rw [hl]
        have hb : b + countLays h [o] = b := by simp [countLays, hl]
        -- the rest, when this one is apart
        have rest : ∀ mfs', (∀ x ∈ mfs, x ∈ mfs') → (mem (foot C h ops o st) = nomem ∨ ∃ g, (i, g) ∈ mfs' ∧ mem g = mem (foot C h ops o st)) → (∀ jg ∈ fs, (ms.headD 0).testBit jg.1 = true ∨ clashM (foot C h ops o st) jg.2 = false) →
            ((evOper C call h none ops o st).bind fun st1 => fastOps C call h ops (i + 1) l ms.tail st1 mfs') = .ok st' → evDrawn C call h ops false i b (o :: l) ms st fs none = .ok st' := by
          intro mfs' hsub hme hcm hf
          have hap : apartAll (ms.headD 0) (foot C h ops o st) fs = true := apartAll_of fun jg hj => by
            obtain ⟨⟨s, h1, h2⟩, _⟩ := hd jg hj
            rcases sureAt_spec hsa _ h1 with h3 | h3
            · exact .inl h3
            · rcases hcm jg hj with h4 | h4
              · exact .inl h4
              · exact .inr (clash_of h3 hdo h2 h4)
          unfold evDrawn
          rw [operF_eq, hpl, hap]
          cases hev : evOper C call h none ops o st with
          | ok st1 =>
            rw [hev] at hf
            simp only [Res.bind] at hf
            rw [hb]
            simp only [skips, Bool.false_and, Bool.not_false, Bool.and_self, guardR]
            exact fast_drawn l (i + 1) ms.tail st1 st' _ mfs' _ hc' hs (fun jg hj => by
              rcases List.mem_cons.mp hj with rfl | hj
              · exact ⟨⟨_, by simp, hdo⟩, hme⟩
              · obtain ⟨⟨s, h1, h2⟩, h3⟩ := hd jg hj
                exact ⟨⟨s, by simp [h1], h2⟩, h3.imp id fun ⟨g, q1, q2⟩ => ⟨g, hsub _ q1, q2⟩⟩) hf
          | _ => rw [hev] at hf; cases hf
        cases hm : (memOp h ops o).b with
        | false =>
          rw [hm] at hf
          have h0 := nomem_of (C := C) (st := st) hm
          exact rest mfs (fun _ h => h) (.inl h0) (fun jg hj => .inr (by rw [clashM_mem, h0]; exact clashM_l _)) hf
        | true =>
          rw [hm] at hf
          simp only at hf
          split at hf
          · rename_i hap
            refine rest _ (fun x hx => List.mem_cons_of_mem _ hx) (.inr ⟨_, by simp, footF_mem⟩) (fun jg hj => ?_) hf
            obtain ⟨_, h3⟩ := hd jg hj
            rcases h3 with h3 | ⟨g, q1, q2⟩
            · exact .inr (by rw [clashM_mem, h3]; exact clashM_r _)
            · rcases apartM_spec hap _ q1 with h4 | h4
              · exact .inl h4
              · refine .inr ?_
                rw [clashM_mem] at h4 ⊢
                rw [← q2, ← footF_mem (ops := ops) (C := C) (h := h) (o := o) (st := st)]
                exact h4
          · cases hf
      · cases hs
end
end Go.Sw
/-! Regions, whole. -/
namespace Go.Sw
open Go

def ExR (g : Gh) : Ex → Exit → Prop
  | .normal, e => e = .normal
  | .exit id, e => e = .exit id
  | .ret, e => e = .ret
  | .panic v, e => ∃ u, VR g v u ∧ e = .panic [{ v := u, recovered := false }]

/-- what code comes to. -/
def CWp (F : Fence) (P : Program) (n : Nat) (c : Code) (a : Act) (w : World) (g : Gh) (ow : Ow) : Res (Ex × St) → Prop
  | .ok (e, st') => ∀ Q : Exit → Act → World → Prop, (∀ e' a' w' g' sv' ow', ExR g' e e' → FR n st' a' w' g' sv' ow' → Fut w g ow w' g' ow' → Q e' a' w') → c.wpIn F 0 P Q a w
  | _ => True

section
variable {F : Fence} {n : Nat} {st : St} {a : Act} {w w' : World} {g : Gh} {sv : Nat → Option Nat} {ow : Ow} {C : Cfg} {call : Call} {h : Hint} {ops : Array Oper}

theorem FR.world (hF : FR n st a w g sv ow) (hw : w'.heap = w.heap) : FR n st a w' g sv ow := by
  have hk : Keeps (fun _ => True) w g ow w' g ow := ⟨Gh.le.refl g, fun B r q _ h => ⟨h, by rw [hw], fun _ _ h => h⟩⟩
  refine ⟨hF.sz, fun B o y hy => ?_, fun t => SR.keeps hk trivial (fun _ _ h => h) (hF.tm t), hF.lk, fun s cs h => (hF.lc s cs h).keeps hk trivial (fun _ => trivial) (fun _ h => h), ⟨fun r o h => (hF.hr.ob r o h).keeps hk trivial (fun _ => trivial) (fun _ h => h) (fun _ _ h => h), hF.hr.nf⟩, DR.keeps hk trivial _ _ hF.df, fun B h hB => by rw [hw]; exact hF.bd B h hB, hF.gv⟩
  obtain ⟨v, h1, h2⟩ := hF.gc B o y hy
  exact ⟨v, (cell_of_heap (by rw [hw])).trans h1, h2⟩

theorem FR.frees (hF : FR n st a w g sv ow) (k : Nat) : FR n { st with heap := st.heap ++ List.replicate k .free, ht := true } a w g sv ow := by
  refine ⟨hF.sz, hF.gc, hF.tm, hF.lk, hF.lc, ⟨fun r o h => ?_, fun r h => hF.hr.nf r (by simp at h; omega)⟩, hF.df, hF.bd, hF.gv⟩
  have h : (st.heap ++ List.replicate k HO.free)[r]? = some o := h
  rcases Nat.lt_or_ge r st.heap.length with hr | hr
  · rw [List.getElem?_append_left hr] at h; exact hF.hr.ob r o h
  · rw [List.getElem?_append_right hr] at h
    have : o = .free := by
      rw [List.getElem?_replicate] at h
      split at h
      · cases h; rfl
      · cases h
    subst this
    exact hF.hr.nf r hr

theorem draw0_wp {id : Nat} (hC : CallOK C.P call) (hW : Wide F) (hrnd : F.round = none ∨ h.rnd = true) (hZ : ZeroOk C.P) (hmix : C.P.follows .mixedOrders = true) (hF : FR n st a w g sv ow) (hd : dstsOk n ops.toList) :
    CWp F C.P n (.region id ops true) a w g ow (regionEnd ops.toList st (evDraw0 C call h ops st)) := by
  have main : ∀ (lay : Bool) (b0 : Nat) (st1 : St) (R : Res St), evDrawn C call h ops lay 0 b0 ops.toList (masks ops.toList []) st1 [] none = R → afterOk 0 ops.toList = true → (lay = false → countLays h ops.toList = 0) → (∀ c, c < countLays h ops.toList → st1.heap[b0 + c]? = some HO.free) →
      FR n st1 a w g sv ow → st1.defs = st.defs → st1.tmps = st.tmps → CWp F C.P n (.region id ops true) a w g ow (regionEnd ops.toList st R) := by
    intro lay b0 st1 R hR hafter h0 hfree hF1 hdefs htmps
    have hF1' : FR n st1 a { w with drawn := w.drawn + 1 } g sv ow := hF1.world rfl
    have hfut : Fut w g ow { w with drawn := w.drawn + 1 } g ow := ⟨Gh.le.refl g, Nat.le_refl _, fun _ _ h => ⟨h, rfl, fun _ _ h => h⟩, rfl, rfl, rfl⟩
    have run := fun hRk => drawn_run (C := C) (call := call) (h := h) (ops := ops) (lay := lay) (M := masks ops.toList []) (b0 := b0) ops.toList 0 b0 (masks ops.toList []) st1 [] none R (by simp) (by simp) (by simp [countLays]) (by omega) (by simp) hR hRk
    have fin : ((∃ st', R = .ok st') ∨ ∃ v H, R = .panic v H) → ∀ Q : Exit → Act → World → Prop,
        (∀ st', R = .ok st' → ∀ a' w' g' sv' ow', FR n st' a' w' g' sv' ow' → Fut w g ow w' g' ow' → Q .normal a' w') →
        (∀ v H, R = .panic v H → ∀ u a' w' g' sv' ow', VR g' v u → PFR n ops.toList st1 H a a' w' g' sv' ow' → Fut w g ow w' g' ow' → Q (.panic [{ v := u, recovered := false }]) a' w') → (Code.region id ops true).wpIn F 0 C.P Q a w := by
      intro hRk Q q1 q2
      obtain ⟨P, s, δ, Fo, e1, _, e2, hrun, _, e3, e4⟩ := run hRk
      subst e1
      refine wpIn_region_any hmix ?_
      refine drawn_wp hC hW hrnd hZ hrun masks_ok (afterOk_spec ops.toList 0 (by simp) hafter) h0 hfree (fun p v H hP => (e2 p v H hP rfl).2) hd (w0 := w) (g0 := g) (ow0 := ow) (a0 := a)
        (fun hP a' w' g' sv' ow' f1 f2 => q1 _ (e3 hP) a' w' g' sv' ow' f1 f2) (fun p v H hP u a' w' g' sv' ow' f1 f2 f3 => q2 v H (e4 p v H hP) u a' w' g' sv' ow' f1 f2 f3)
        ops.size (fun _ => false) (Array.replicate ops.size false) (s 0) a _ g sv ow (by simp) (fun i hi => by simp [Array.getD, hi]) (fun i o _ hi => by cases hi) (fun i hi => by cases hi) (Nat.le_trans (List.length_filter_le _ _) (by simp)) hF1' (fun x => ?_) hfut (fun _ => rfl) (fun _ _ => rfl)
      have : ∀ k, fold δ (fun _ => false) (rd (s 0)) k x = rd (s 0) x := by
        intro k
        induction k with
        | zero => rfl
        | succ k ih => simp only [fold]; exact ih
      exact (this _).symm
    cases hRR : R with
    | ok st' =>
      intro Q hQ
      exact fin (.inl ⟨st', hRR⟩) Q (fun st2 e a' w' g' sv' ow' f1 f2 => by rw [hRR] at e; cases e; exact hQ _ _ _ _ _ _ rfl f1 f2) (fun v H e => by rw [hRR] at e; cases e)
    | panic v H =>
      simp only [regionEnd]
      cases hn : noDefer ops.toList with
      | false => trivial
      | true =>
        intro Q hQ
        refine fin (.inr ⟨v, H, hRR⟩) Q (fun st2 e => by rw [hRR] at e; cases e) (fun v' H' e u a' w' g' sv' ow' f1 f2 f3 => ?_)
        rw [hRR] at e
        cases e
        have := PFR.end hF1 f3.le f2 hn
        rw [hdefs, htmps] at this
        exact hQ _ _ _ _ _ _ ⟨u, f1, rfl⟩ this f3
    | bad _ => trivial
    | oof => trivial
  unfold evDraw0
  cases hafter : afterOk 0 ops.toList with
  | false => trivial
  | true =>
    simp only [guardR]
    cases hc : countLays h ops.toList with
    | zero =>
      have full : CWp F C.P n (.region id ops true) a w g ow (regionEnd ops.toList st (evDrawn C call h ops false 0 0 ops.toList (masks ops.toList []) st [] none)) :=
        main false 0 st _ rfl hafter (fun _ => hc) (fun c hlt => by omega) hF rfl rfl
      simp only
      cases hs : sure h ops (masks ops.toList []) with
      | false => exact full
      | true =>
        cases hf : fastOps C call h ops 0 ops.toList (masks ops.toList []) st [] with
        | ok st' =>
          rw [fast_drawn ops.toList 0 (masks ops.toList []) st st' [] [] [] hc hs (fun _ hj => by simp at hj) hf] at full
          exact full
        | _ => exact full
    | succ k =>
      simp only
      refine main true st.heap.length _ _ rfl hafter (fun hh => by cases hh) (fun c hlt => ?_) (hF.frees (k + 1)) rfl rfl
      show (st.heap ++ List.replicate (k + 1) HO.free)[st.heap.length + c]? = some HO.free
      rw [List.getElem?_append_right (by omega), List.getElem?_replicate]
      simp
      omega

theorem draw_wp {id : Nat} (hC : CallOK C.P call) (hW : Wide F) (hrnd : F.round = none ∨ h.rnd = true) (hZ : ZeroOk C.P) (hmix : C.P.follows .mixedOrders = true) (hF : FR n st a w g sv ow) (hd : dstsOk n ops.toList) :
    CWp F C.P n (.region id ops true) a w g ow (regionEnd ops.toList st (evDraw C call h ops st)) := by
  unfold evDraw
  cases hi : isCoin C.P ops with
  | none => exact draw0_wp hC hW hrnd hZ hmix hF hd
  | some xd =>
    obtain ⟨x, d⟩ := xd
    simp only [regionEnd]
    obtain ⟨t, z, hI⟩ := coin_is hi
    intro Q hQ
    have hF1 : FR n st a { w with drawn := w.drawn + 1 } g sv ow := hF.world rfl
    have hfut : Fut w g ow { w with drawn := w.drawn + 1 } g ow := ⟨Gh.le.refl g, Nat.le_refl _, fun _ _ h => ⟨h, rfl, fun _ _ h => h⟩, rfl, rfl, rfl⟩
    refine wpIn_region_any hmix ?_
    exact coin_steps hC hW hrnd hZ hI hd (fun a' w' g' sv' ow' f1 f2 => hQ _ _ _ _ _ _ rfl f1 f2) ops.size (fun _ => false) (Array.replicate ops.size false) st a _ g sv ow (by simp) (fun i hi => by simp [Array.getD, hi]) (fun i o _ hi => by cases hi) (fun i hi => by cases hi)
      (Nat.le_trans (List.length_filter_le _ _) (by simp)) hF1 ⟨rfl, rfl, fun _ => ⟨rfl, rfl⟩, fun h => by cases h⟩ hfut

theorem region_wp {id : Nat} {dr : Bool} (hC : CallOK C.P call) (hW : Wide F) (hrnd : F.round = none ∨ h.rnd = true) (hZ : ZeroOk C.P) (hmix : C.P.follows .mixedOrders = true) (hF : FR n st a w g sv ow) (hd : dstsOk n ops.toList) :
    CWp F C.P n (.region id ops dr) a w g ow (regionEnd ops.toList st (match dr with | true => evDraw C call h ops st | false => evOpers C call h ops ops.toList st)) := by
  cases dr with
  | true => exact draw_wp hC hW hrnd hZ hmix hF hd
  | false =>
    simp only
    have hl := opers_all (ops := ops) (h := h) hC hW hrnd hZ ops.toList st a w g sv ow hF hd
    cases hr : evOpers C call h ops ops.toList st with
    | ok st' =>
      rw [hr] at hl
      intro Q hQ
      exact wpIn_region_list (hl Q (fun a' w' g' sv' ow' f1 f2 => hQ _ _ _ _ _ _ rfl f1 f2))
    | panic v H =>
      rw [hr] at hl
      simp only [regionEnd]
      cases hn : noDefer ops.toList with
      | false => trivial
      | true =>
        intro Q hQ
        exact wpIn_region_list (hl Q (fun u a' w' g' sv' ow' f1 f2 f3 => hQ _ _ _ _ _ _ ⟨u, f1, rfl⟩ (PFR.end hF f3.le f2 hn) f3))
    | bad _ => trivial
    | oof => trivial

end
end Go.Sw
/-! A range over a function: its record. -/
namespace Go.Sw
open Go

section
variable {P : Program} {n : Nat} {st : St} {a : Act} {w : World} {g : Gh} {sv : Nat → Option Nat} {ow : Ow}

theorem snap_get (ts : List (Nat × Slot)) (t : Nat) (x : AV) : ∀ (seen : List Nat), getA (snapT (tidyT seen ts)) t = some x → memN t seen = false ∧ toAV (view (getT ts t)) = some x := by
  induction ts with
  | nil => intro seen h; cases h
  | cons p l ih =>
    obtain ⟨k, s⟩ := p
    intro seen h
    unfold tidyT at h
    split at h
    · rename_i hk
      obtain ⟨h1, h2⟩ := ih seen h
      refine ⟨h1, ?_⟩
      rw [getT_cons]
      split
      · rename_i e; subst e; rw [h1] at hk; cases hk
      · exact h2
    · rename_i hk
      unfold snapT at h
      have rest : getA (snapT (tidyT (k :: seen) l)) t = some x → memN t seen = false ∧ toAV (view (getT ((k, s) :: l) t)) = some x := by
        intro h
        obtain ⟨h1, h2⟩ := ih (k :: seen) h
        simp only [memN] at h1
        rcases beq_cases t k with ⟨hb, e⟩ | ⟨hb, e⟩
        · rw [hb] at h1; cases h1
        · rw [hb] at h1
          rw [getT_cons, if_neg (Ne.symm e)]
          exact ⟨h1, h2⟩
      split at h
      · rename_i y hy
        unfold getA at h
        split at h
        · rename_i hb
          have e := Nat.eq_of_beq_eq_true hb
          cases h
          subst e
          rw [getT_cons, if_pos rfl]
          exact ⟨hk, hy⟩
        · exact rest h
      · exact rest h

theorem run_enterLoop (fn : FuncId) (tmps : Array Value) (ps : Array Tmp) (as bd : Code) :
    (Instr.enterLoop fn tmps ps as bd none).run P w = .ok (w.heap.size + 1, [{ target := .collected w.heap.size, args := #[] }])
      ((w.alloc (.deferred (some []))).alloc (.loop { state := .ready, pending := none, fn := fn, tmps := tmps, params := ps, assign := as, body := bd, defers := w.heap.size })) := by
  simp [Instr.enterLoop]

/-- a mark among the deferred calls. -/
theorem FR.mark (hF : FR n st a w g sv ow) : ∃ ow', FR n { st with defs := .mark :: st.defs } { a with defers := { target := .collected w.heap.size, args := #[] } :: a.defers } (w.alloc (.deferred (some []))) g sv ow' ∧ Fut w g ow (w.alloc (.deferred (some []))) g ow' := by
  have ht : Touch w.heap.size w (w.alloc (.deferred (some []))) := touch_alloc w rfl rfl rfl rfl _
  have hne : ∀ B h, ow B = some h → B ≠ w.heap.size := fun B h hB e => by have := hF.bd B h hB; omega
  have hk : Keeps (fun _ => True) w g ow (w.alloc (.deferred (some []))) g (fun B => if B = w.heap.size then some ⟨.dfr, [w.heap.size]⟩ else ow B) :=
    ⟨Gh.le.refl g, fun B r q _ h => ⟨by simp [hne B _ h, h], ht.oth _ (hne B _ h) (hF.bd _ _ h), fun _ _ h => h⟩⟩
  refine ⟨fun B => if B = w.heap.size then some ⟨.dfr, [w.heap.size]⟩ else ow B, ⟨hF.sz, ht.gc hF.gc (Gh.le.refl g) (fun o y h => absurd h (hF.fresh.2 o y)) (fun _ _ _ _ h => h), fun t => SR.keeps hk trivial (fun _ _ h => h) (hF.tm t), hF.lk,
    fun s cs h => (hF.lc s cs h).keeps hk trivial (fun _ => trivial) (fun _ h => h), ⟨fun r o h => (hF.hr.ob r o h).keeps hk trivial (fun _ => trivial) (fun _ h => h) (fun _ _ h => h), hF.hr.nf⟩,
    ⟨w.heap.size, _, a.defers, rfl, rfl, alloc_new w rfl _, by simp, fun d' hd' e => by have := DR.lt hF.bd _ _ hF.df d' hd' _ e; omega, DR.keeps hk trivial _ _ hF.df⟩, fun B h hB => ?_, hF.gv⟩, ⟨Gh.le.refl g, ht.sz, fun B p hB => hk.ow B .ctx p trivial hB, ht.tp, ht.os, ht.ot⟩⟩
  split at hB
  · rename_i e; subst e; exact ht.lt
  · exact Nat.lt_of_lt_of_le (hF.bd B h hB) ht.sz

/-- the record of a range over a function. -/
theorem FR.loopObj (hF : FR n st a w g sv ow) {f : Nat} {fn : FuncId} {ps : Array Tmp} {as bd : Code} {df : Nat} (hfn : fn < nFuncs) (hc1 : codeOkB n as = true) (hc2 : codeOkB n bd = true) (hps : ∀ p ∈ ps.toList, p < n) :
    ∃ g' ow', FR n { st with heap := st.heap ++ [.loop (loopOf f st ps.toList as bd)] } a (w.alloc (.loop { state := .ready, pending := none, fn := fn, tmps := a.tmps, params := ps, assign := as, body := bd, defers := df })) g' sv ow' ∧
      Fut w g ow (w.alloc (.loop { state := .ready, pending := none, fn := fn, tmps := a.tmps, params := ps, assign := as, body := bd, defers := df })) g' ow' ∧ g'.rf st.heap.length = some w.heap.size := by
  have ht : Touch w.heap.size w (w.alloc (.loop { state := .ready, pending := none, fn := fn, tmps := a.tmps, params := ps, assign := as, body := bd, defers := df })) := touch_alloc w rfl rfl rfl rfl _
  have hfree := hF.hr.nf st.heap.length (Nat.le_refl _)
  have hle : g.le (g.addRf st.heap.length w.heap.size) := Gh.le_addRf hfree.1
  have hrr : (g.addRf st.heap.length w.heap.size).rf st.heap.length = some w.heap.size := by simp [Gh.addRf]
  have hsn : ∀ t x, getA (snapT (tidyT [] st.tmps)) t = some x → VR (g.addRf st.heap.length w.heap.size) x (a.tmps.getD t undef) := fun t x hx => by
    obtain ⟨_, hx'⟩ := snap_get _ _ _ _ hx
    exact VR.mono hle _ _ (SR.toAV (h := ⟨.tmp t, []⟩) _ _ _ (SR.view (w' := w) (sv' := sv) (ow' := ow) (Gh.le.refl g) (fun _ _ h => h) _ _ (hF.tm t)) hx')
  obtain ⟨h3, h4⟩ := hF.lay_step (d := none) (by simp) (A := none) (x := .loop (loopOf f st ps.toList as bd)) (e := { dst := .undef, heap := some (st.heap ++ [.loop (loopOf f st ps.toList as bd)]) }) (v' := undef) (f := some) (r := st.heap.length)
    rfl rfl rfl hF.freshHold hF.fresh.2 ht hle (fun _ _ _ h => h) (fun r' h => by simp [Gh.addRf, h]) (fun _ _ => rfl) rfl rfl (fun _ _ _ => rfl) (fun _ _ _ _ => rfl) rfl
    ⟨w.heap.size, _, hrr, by simp, alloc_new w rfl _, ⟨hfn, by rw [hF.sz]; exact hc1, by rw [hF.sz]; exact hc2, fun p hp => by rw [hF.sz]; exact hps p hp⟩, rfl, rfl, rfl, rfl, rfl, hsn⟩ (by simp) (by simp) rfl
  exact ⟨_, _, ⟨h3.sz, h3.gc, h3.tm, h3.lk, h3.lc, h3.hr, h3.df, h3.bd, h3.gv⟩, h4, hrr⟩

/-- its end. -/
theorem FR.endLoop (hF : FR n st a w g sv ow) {r B : Nat} {L : LoopO} (hr : st.heap[r]? = some (HO.loop L)) (hB : g.rf r = some B) (hst : L.state ≠ 1) :
    ∃ w' ow', (Instr.endLoop B).run P w = .ok L.pending w' ∧ FR n { st with heap := st.heap.set r .dead } a w' g sv ow' ∧ Fut w g ow w' g ow' := by
  obtain ⟨B', lo, h1, h2, h3, h4⟩ := hF.hr.ob r _ hr
  rw [hB] at h1
  cases h1
  have hBlt := hF.bd B _ h2
  have hnb : (lo.state == LoopState.busy) = false := by
    have := h4.2.2.2.2.2.1
    rw [this]
    split
    · rfl
    · rename_i h; exact absurd h hst
    · rfl
  have hrun : (Instr.endLoop B).run P w = .ok L.pending { w with heap := w.heap.setIfInBounds B (.loop { lo with state := .exhausted }) } := by
    have hnb' : ¬ lo.state = .busy := fun e => by rw [e] at hnb; cases hnb
    simp only [Instr.endLoop, Instr.getLoop, getObj, setObj, Sem.run_bind, Sem.run, h3, Result.andThen]
    simp [h3, Sem.run, h4.2.2.2.2.1, hnb']
  have ht : Touch B w { w with heap := w.heap.setIfInBounds B (.loop { lo with state := .exhausted }) } :=
    ⟨fun B' hne hlt => by simp [Ne.symm hne], by simp, by simpa using hBlt, rfl, rfl, rfl⟩
  have hno : ∀ o y, ¬ g.im B o y := fun o y h => by
    obtain ⟨v, hv, _⟩ := hF.gc B o y h
    simp [World.cell?, h3] at hv
  obtain ⟨q1, q2⟩ := hF.obj_step (d := none) (by simp) (r := r) (B := B) (x' := .dead) (len_of_get hr) (fun h hh => by rw [h2] at hh; cases hh; rfl) hno (w' := { w with heap := w.heap.setIfInBounds B (.loop { lo with state := .exhausted }) }) (g' := g) (ow' := ow)
    (e := { dst := .undef, heap := some (st.heap.set r .dead) }) (v' := undef) ht (Gh.le.refl g) (fun _ _ _ h => h) rfl (fun _ _ => rfl) rfl rfl (fun B' k h => Nat.lt_of_lt_of_le (hF.bd B' k h) ht.sz) (fun _ _ h _ _ _ => h) (fun _ _ _ h _ _ => h) trivial (by simp) (by simp) rfl
  exact ⟨_, ow, hrun, ⟨q1.sz, q1.gc, q1.tm, q1.lk, q1.lc, q1.hr, q1.df, q1.bd, q1.gv⟩, q2⟩

end
end Go.Sw
/-! Code. -/
namespace Go.Sw
open Go

section
variable {F : Fence} {n : Nat} {a : Act} {w : World} {g : Gh} {sv : Nat → Option Nat} {ow : Ow} {C : Cfg} {call : Call} {h : Hint}

theorem keepT_get (ts : List (Nat × Slot)) (L : List (Nat × List Slot)) (t : Nat) : ∀ ks, getT (keepT ts L ks) t = .undef ∨ getT (keepT ts L ks) t = fixLoc L (getT ts t)
  | [] => .inl rfl
  | k :: l => by
    simp only [keepT, getT_cons]
    split
    · rename_i e; subst e; exact .inr rfl
    · exact keepT_get ts L t l

theorem keepL_get (ks : List Nat) (s : Nat) : ∀ (l : List (Nat × List Slot)) (cs : List Slot), assoc s (keepL ks l) = some cs → assoc s l = some cs
  | [], _, h => by cases h
  | (k, c) :: l, cs, h => by
    unfold keepL at h
    have ih := keepL_get ks s l cs
    rcases beq_cases k s with ⟨hb, e⟩ | ⟨hb, e⟩
    · subst e
      split at h
      · simpa [assoc] using h
      · rename_i hm
        exfalso
        have hnone : ∀ l : List (Nat × List Slot), assoc k (keepL ks l) = none := by
          intro l
          induction l with
          | nil => rfl
          | cons p l ih =>
            obtain ⟨k', c'⟩ := p
            unfold keepL
            split
            · rename_i hm'
              unfold assoc
              rcases beq_cases k' k with ⟨hb2, e2⟩ | ⟨hb2, e2⟩
              · subst e2; rw [hm'] at hm; cases hm
              · rw [hb2]; exact ih
            · exact ih
        rw [hnone] at h; cases h
    · have e2 : assoc s ((k, c) :: l) = assoc s l := by simp only [assoc, hb]
      rw [e2]
      split at h
      · rw [show assoc s ((k, c) :: keepL ks l) = assoc s (keepL ks l) by simp only [assoc, hb]] at h; exact ih h
      · exact ih h

theorem FR.keepAt {st : St} (hF : FR n st a w g sv ow) (b : Nat) : FR n (keepAt h b st) a w g sv ow := by
  unfold Sw.keepAt
  split
  · rename_i ks _
    have fix : ∀ t, fixLoc (keepL ks st.locs) (getT st.tmps t) = .undef ∨ (fixLoc (keepL ks st.locs) (getT st.tmps t) = getT st.tmps t ∧ ∀ s o, getT st.tmps t = .loc s o → (assoc s (keepL ks st.locs)).isSome = true) := by
      intro t
      unfold fixLoc
      split
      · rename_i b o hs
        split
        · rename_i x hx; right; refine ⟨hs.symm, fun s o' he => ?_⟩; rw [hs] at he; cases he; rw [hx]; rfl
        · exact .inl rfl
      · rename_i hs; exact .inr ⟨rfl, fun s o he => absurd he (hs s o)⟩
    refine ⟨hF.sz, hF.gc, fun t => ?_, fun t => ?_, fun s cs hs => hF.lc s cs (keepL_get _ _ _ _ hs), hF.hr, hF.df, hF.bd, hF.gv⟩
    · rcases keepT_get st.tmps (keepL ks st.locs) t ks with e | e
      · simp only [e]; trivial
      · rcases fix t with e2 | ⟨e2, _⟩
        · simp only [e, e2]; trivial
        · simp only [e, e2]; exact hF.tm t
    · rcases keepT_get st.tmps (keepL ks st.locs) t ks with e | e
      · simp only [e]; trivial
      · rcases fix t with e2 | ⟨e2, e3⟩
        · simp only [e, e2]; trivial
        · simp only [e, e2]
          have := hF.lk t
          cases hs : getT st.tmps t with
          | loc s o => exact e3 s o hs
          | _ => rw [hs] at this; exact this
  · exact hF

theorem run_rangeCall {P : Program} {gf : Operand} {k : Nat} {vs : Array Value} {l : Nat} {w : World} (hv : a.eval gf = .func (.func k) #[] vs) :
    (resolve a.eval (rangeCall gf l) 0).run P w = .ok { target := .fn (.func k) vs, args := #[.func (.yield l) #[] #[]] } w := by
  have h0 : ∀ v, a.eval (.const v) = v := fun _ => rfl
  simp [resolve, Deferred.ofValue, hv, h0]

theorem range_wp {st : St} {f : Nat} {gf : Operand} {ps : Array Tmp} {as bd : Code} (hC : CallOK C.P call) (hW : Wide F) (hro : F.round = none) (hF : FR n st a w g sv ow) (hc1 : codeOkB n as = true) (hc2 : codeOkB n bd = true) (hps : ∀ p ∈ ps.toList, p < n)
    {k : Nat} {cap : List AV} (hg : opd st gf = .v (.func k cap)) :
    CWp F C.P n (.rangeFunc gf ps as bd) a w g ow (rangeEnd st st.heap.length (call (.fn k) (.yield st.heap.length :: cap) (st.heap ++ [.loop (loopOf f st ps.toList as bd)]))) := by
  have hgf := hF.opnd gf
  rw [hg] at hgf
  obtain ⟨vs, hv, hvs⟩ := hgf
  obtain ⟨ow1, m1, m2⟩ := hF.mark
  -- whatever function the frame is of
  have main : ∀ (fn : FuncId), fn < nFuncs → ∃ g2 ow2, let w1 := (w.alloc (.deferred (some []))).alloc (.loop { state := .ready, pending := none, fn := fn, tmps := a.tmps, params := ps, assign := as, body := bd, defers := w.heap.size });
      FR n { st with heap := st.heap ++ [.loop (loopOf f st ps.toList as bd)], defs := .mark :: st.defs } { a with defers := [{ target := .collected w.heap.size, args := #[] }] ++ a.defers } w1 g2 sv ow2 ∧ Fut w g ow w1 g2 ow2 ∧ g2.rf st.heap.length = some (w.heap.size + 1) := by
    intro fn hfn
    obtain ⟨g2, ow2, l1, l2, l3⟩ := m1.loopObj (f := f) (fn := fn) (ps := ps) (df := w.heap.size) hfn hc1 hc2 hps
    refine ⟨g2, ow2, ?_, m2.trans l2, by simpa using l3⟩
    exact l1
  cases hr : call (.fn k) (.yield st.heap.length :: cap) (st.heap ++ [.loop (loopOf f st ps.toList as bd)]) with
  | ok rH =>
    obtain ⟨r, H'⟩ := rH
    unfold rangeEnd
    simp only
    split
    · rename_i L' hL
      have hnb : Nat.beq L'.state 1 = true ∨ L'.state ≠ 1 := by
        by_cases h : L'.state = 1
        · exact .inl (by rw [h]; rfl)
        · exact .inr h
      rcases hnb with hnb | hnb
      · rw [hnb]; trivial
      · have hb : Nat.beq L'.state 1 = false := by
          rcases beq_cases L'.state 1 with ⟨_, e⟩ | ⟨e, _⟩
          · exact absurd e hnb
          · exact e
        rw [hb]
        simp only
        -- the walk
        have walk : ∀ (e : Ex) (Q : Exit → Act → World → Prop), (match L'.pending with | none => e = .normal | some (.exit id) => e = .exit id | some .ret => e = .ret | some _ => False) →
            (∀ e' a' w' g' sv' ow', ExR g' e e' → FR n { st with heap := H'.set st.heap.length .dead, ht := true, defs := .mark :: st.defs } a' w' g' sv' ow' → Fut w g ow w' g' ow' → Q e' a' w') → (Code.rangeFunc gf ps as bd).wpIn F 0 C.P Q a w := by
          intro e Q he hQ
          refine wpIn_rangeFunc fun fn hfn => ?_
          obtain ⟨g2, ow2, f1, f2, f3⟩ := main fn (by rw [hW.fn] at hfn; exact hfn)
          obtain ⟨o1, o2, o3⟩ := f1.out
          have hvs2 : VRs g2 (.yield st.heap.length :: cap) (#[Value.func (.yield (w.heap.size + 1)) #[] #[]] ++ vs).toList := by
            refine ⟨_, vs.toList, by simp, ⟨_, f3, rfl⟩, VRs.mono f2.le _ _ hvs⟩
          obtain ⟨hfn, _⟩ := hC (.yield st.heap.length :: cap) _ _ g2 (owC ow2) (#[Value.func (.yield (w.heap.size + 1)) #[] #[]] ++ vs) hvs2 o1 o2 o3 f1.gv
          obtain ⟨hent, hcall⟩ := hfn k _ (by rw [hr]; rfl)
          refine ⟨w.heap.size + 1, _, _, _, _, k, #[Value.func (.yield (w.heap.size + 1)) #[] #[]] ++ vs, _, (by rw [hro]; exact run_enterLoop fn a.tmps ps as bd), run_rangeCall hv, (fun f' hf' => by rw [hW.fn]; simp [Target.leads] at hf'; subst hf'; exact hent.1), ?_, (by rw [hW.dp]; intro h; cases h), hW.calls (CallsIn.mono hcall fun en w3 hen => ?_)⟩
          · simp [invoke, hent.run]
          · cases en with
            | returned v =>
              obtain ⟨g3, ow3, h1, h2, h3, h4, h5, h6⟩ := hen
              obtain ⟨q1, q2⟩ := f1.back (d := none) (by simp) (v := v) h6 h3 h4 h5 h1 h2
              obtain ⟨w4, ow4, e1, e2, e3⟩ := q1.endLoop (P := C.P) (r := st.heap.length) (B := w.heap.size + 1) (L := L') hL (q2.le.rf _ _ f3) hnb
              refine ⟨L'.pending, w4, e1, ?_⟩
              have hfr : FR n { st with heap := H'.set st.heap.length .dead, ht := true, defs := .mark :: st.defs } { a with defers := [{ target := .collected w.heap.size, args := #[] }] ++ a.defers } w4 g3 sv ow4 := ⟨e2.sz, e2.gc, e2.tm, e2.lk, e2.lc, e2.hr, e2.df, e2.bd, e2.gv⟩
              have hfu := (f2.trans q2).trans e3
              cases hp : L'.pending with
              | none =>
                rw [hp] at he
                simp only at he
                exact hQ _ _ _ _ _ _ (by subst he; exact rfl) hfr hfu
              | some c =>
                rw [hp] at he
                cases c with
                | exit id => simp only at he; subst he; exact wpIn_exit (hQ _ _ _ _ _ _ rfl hfr hfu)
                | ret => simp only at he; subst he; exact wpIn_ret (hQ _ _ _ _ _ _ rfl hfr hfu)
                | _ => exact he.elim
            | panicked c => exact hen.elim
            | outgrown => exact hen.elim
        split
        · rename_i hp; intro Q hQ; exact walk .normal Q (by rw [hp]) hQ
        · rename_i id hp; intro Q hQ; exact walk (.exit id) Q (by rw [hp]) hQ
        · rename_i hp; intro Q hQ; exact walk .ret Q (by rw [hp]) hQ
        · trivial
    · trivial
  | panic x H' =>
    intro Q hQ
    refine wpIn_rangeFunc fun fn hfn => ?_
    obtain ⟨g2, ow2, f1, f2, f3⟩ := main fn (by rw [hW.fn] at hfn; exact hfn)
    obtain ⟨o1, o2, o3⟩ := f1.out
    have hvs2 : VRs g2 (.yield st.heap.length :: cap) (#[Value.func (.yield (w.heap.size + 1)) #[] #[]] ++ vs).toList := by
      refine ⟨_, vs.toList, by simp, ⟨_, f3, rfl⟩, VRs.mono f2.le _ _ hvs⟩
    obtain ⟨hfn, _⟩ := hC (.yield st.heap.length :: cap) _ _ g2 (owC ow2) (#[Value.func (.yield (w.heap.size + 1)) #[] #[]] ++ vs) hvs2 o1 o2 o3 f1.gv
    obtain ⟨hent, hcall⟩ := hfn k _ (by rw [hr]; rfl)
    refine ⟨w.heap.size + 1, _, _, _, _, k, #[Value.func (.yield (w.heap.size + 1)) #[] #[]] ++ vs, _, (by rw [hro]; exact run_enterLoop fn a.tmps ps as bd), run_rangeCall hv, (fun f' hf' => by rw [hW.fn]; simp [Target.leads] at hf'; subst hf'; exact hent.1), ?_, (by rw [hW.dp]; intro h; cases h), hW.calls (CallsIn.mono hcall fun en w3 hen => ?_)⟩
    · simp [invoke, hent.run]
    · cases en with
      | panicked c =>
        obtain ⟨g3, ow3, u, rfl, h2, h3, h4, h5, h6⟩ := hen
        obtain ⟨q1, q2⟩ := f1.backPanic h6 h3 h4 h5
        exact hQ _ _ _ _ _ _ ⟨u, h2, rfl⟩ ⟨q1.sz, q1.gc, q1.tm, q1.lk, q1.lc, q1.hr, q1.df, q1.bd, q1.gv⟩ (f2.trans q2)
      | returned v => exact hen.elim
      | outgrown => exact hen.elim
  | bad _ => trivial
  | oof => trivial

end
end Go.Sw
/-! Code, whole. -/
namespace Go.Sw
open Go

theorem bothT_get (ts : List (Nat × Slot)) (t : Nat) : ∀ (ss : List (Nat × Slot)), getT (bothT ts ss) t = .undef ∨ (getT (bothT ts ss) t = getT ss t ∧ getT ts t = getT ss t)
  | [] => .inl rfl
  | (k, s) :: l => by
    simp only [bothT, getT_cons]
    split
    · rename_i hk
      subst hk
      cases he : eqS s (getT ts k) with
      | false => exact .inl rfl
      | true => exact .inr ⟨rfl, (eqS_eq _ _ he).symm⟩
    · exact bothT_get ts t l

/-- what is the same behind both ways. -/
structure Both (s s' st1 : St) : Prop where
  hp : s'.heap = s.heap
  lc : s'.locs = s.locs
  df : s'.defs = s.defs
  is : st1 = { s with tmps := bothT s'.tmps s.tmps }

theorem both_ok {r r' : Res (Ex × St)} {e : Ex} {st1 : St} (h : both r r' = .ok (e, st1)) : ∃ s s', e = .normal ∧ r = .ok (.normal, s) ∧ r' = .ok (.normal, s') ∧ Both s s' st1 := by
  unfold both at h
  split at h
  · rename_i s s'
    obtain ⟨hg, h2⟩ := guardR_ok h
    cases h2
    simp only [Bool.and_eq_true] at hg
    exact ⟨s, s', rfl, rfl, rfl, eqHs_eq _ _ hg.1.1, eqL_eq _ _ hg.1.2, eqD_eq _ _ hg.2, rfl⟩
  · cases h

theorem Both.left {n : Nat} {s s' st1 : St} {a : Act} {w : World} {g : Gh} {sv : Nat → Option Nat} {ow : Ow} (h : Both s s' st1) (hF : FR n s a w g sv ow) : FR n st1 a w g sv ow := by
  obtain ⟨_, _, _, rfl⟩ := h
  refine ⟨hF.sz, hF.gc, fun t => ?_, fun t => ?_, hF.lc, hF.hr, hF.df, hF.bd, hF.gv⟩
  · rcases bothT_get s'.tmps t s.tmps with e | ⟨e, _⟩
    · simp only [e]; trivial
    · simp only [e]; exact hF.tm t
  · rcases bothT_get s'.tmps t s.tmps with e | ⟨e, _⟩
    · simp only [e]; trivial
    · simp only [e]; exact hF.lk t

theorem Both.right {n : Nat} {s s' st1 : St} {a : Act} {w : World} {g : Gh} {sv : Nat → Option Nat} {ow : Ow} (h : Both s s' st1) (hF : FR n s' a w g sv ow) : FR n st1 a w g sv ow := by
  obtain ⟨h1, h2, h3, rfl⟩ := h
  refine ⟨hF.sz, hF.gc, fun t => ?_, fun t => ?_, fun x cs hs => hF.lc x cs (by rw [h2]; exact hs), by have := hF.hr; rw [h1] at this; exact this, by have := hF.df; rw [h3] at this; exact this, hF.bd, hF.gv⟩
  · rcases bothT_get s'.tmps t s.tmps with e | ⟨e, e'⟩
    · simp only [e]; trivial
    · have := hF.tm t; rw [e'] at this; simp only [e]; exact this
  · rcases bothT_get s'.tmps t s.tmps with e | ⟨e, e'⟩
    · simp only [e]; trivial
    · have := hF.lk t; rw [e', h2] at this; simp only [e]; exact this

section
variable {F : Fence} {n : Nat} {C : Cfg} {call : Call} {h : Hint}

theorem stepR_scope {P : Program} {b : Frame} {a : Act} {k : List Item} {cs : List Frame} {w : World} {c : Code} : step P (lone (b.atR a (.code (.scope c) :: k)) cs w) = .next (lone (b.atR a (.code c :: .inScope c :: k)) cs w) :=
  step_lone_go (by simp [stepG, stepG.exec, Frame.atR])
theorem stepR_inScope {P : Program} {b : Frame} {a : Act} {k : List Item} {cs : List Frame} {w : World} {c : Code} : step P (lone (b.atR a (.inScope c :: k)) cs w) = .next (lone (b.atR a k) cs w) :=
  step_lone_go (by simp [stepG, stepG.exec, Frame.atR])

/-- a scope in which nothing jumps to a label. -/
theorem wpIn_scope_straight {F : Fence} {n : Nat} {P : Program} {c : Code} {Q : Exit → Act → World → Prop} {a : Act} {w : World} (h : c.wpIn F n P (Exit.noGoto Q) a w) : (Code.scope c).wpIn F n P Q a w := by
  intro b k cs hro hb hr
  have h0 : (lone (b.atR a (.code (.scope c) :: k)) cs w).fenced P F := fenced_calm hb hr rfl
  obtain ⟨e, a₁, w₁, hq, harr⟩ := h b (.inScope c :: k) cs hro hb hr
  cases e with
  | normal => exact ⟨.normal, a₁, w₁, hq, .head h0 stepR_scope (StepsIn.trans harr (.one (fenced_calm hb hr rfl) stepR_inScope))⟩
  | exit id =>
    have hx : exitTo id (.inScope c :: k) = exitTo id k := by simp [exitTo]
    exact ⟨.exit id, a₁, w₁, hq, fun k' hk => .head h0 stepR_scope (harr.1 k' (by rw [hx]; exact hk)), fun hr' hk => let ⟨k₁, h1, h2⟩ := harr.2 hr' (by rw [hx]; exact hk); ⟨k₁, h1, .head h0 stepR_scope h2⟩⟩
  | goto l => exact hq.elim
  | ret => exact ⟨_, a₁, w₁, hq, .of_steps (.one h0 stepR_scope) harr⟩
  | panic ch => exact ⟨_, a₁, w₁, hq, .of_steps (.one h0 stepR_scope) harr⟩
  | outgrown => exact ⟨_, a₁, w₁, hq, .of_steps (.one h0 stepR_scope) harr⟩

/-- what walks of code rest on. -/
structure Base (F : Fence) (C : Cfg) (call : Call) (h : Hint) : Prop where
  calls : CallOK C.P call
  wide : Wide F
  rnd : F.round = none ∨ h.rnd = true
  zero : ZeroOk C.P
  mix : C.P.follows .mixedOrders = true

theorem loop_wp {c : Code} {body : St → Res (Ex × St)} (hb : ∀ (st : St) (a : Act) (w : World) (g : Gh) (sv : Nat → Option Nat) (ow : Ow), FR n st a w g sv ow → CWp F C.P n c a w g ow (body st)) :
    ∀ (m : Nat) (st : St) (a : Act) (w : World) (g : Gh) (sv : Nat → Option Nat) (ow : Ow) (e : Ex) (st' : St), FR n st a w g sv ow → iter m body st = .ok (e, st') → ∀ Q : Exit → Act → World → Prop,
      (∀ e' a' w' g' sv' ow', ExR g' e e' → FR n st' a' w' g' sv' ow' → Fut w g ow w' g' ow' → Q e' a' w') → Code.roundsIn F 0 C.P c Q m a w
  | 0, st, a, w, g, sv, ow, e, st', _, he, _, _ => by cases he
  | m + 1, st, a, w, g, sv, ow, e, st', hF, he, Q, hQ => by
    unfold iter at he
    obtain ⟨⟨e1, st1⟩, h1, h2⟩ := Res.bind_ok he
    have hbb := hb st a w g sv ow hF
    rw [h1] at hbb
    rw [roundsIn_succ]
    refine hbb _ (fun e' a' w' g' sv' ow' f1 f2 f3 => ?_)
    cases e1 with
    | normal =>
      cases f1
      exact loop_wp hb m st1 a' w' g' sv' ow' e st' f2 h2 Q (fun e2 a2 w2 g2 sv2 ow2 k1 k2 k3 => hQ _ _ _ _ _ _ k1 k2 (f3.trans k3))
    | exit id =>
      cases f1
      cases h2
      exact hQ _ _ _ _ _ _ rfl f2 f3
    | ret =>
      cases f1
      cases h2
      exact hQ _ _ _ _ _ _ rfl f2 f3
    | panic v =>
      obtain ⟨u, hu, rfl⟩ := f1
      cases h2
      exact hQ _ _ _ _ _ _ ⟨u, hu, rfl⟩ f2 f3

theorem dstsOk_of {ops : Array Oper} (hd : codeOkB n (.region 0 ops true) = true) : dstsOk n ops.toList := by
  intro o ho t ht
  have := (List.all_eq_true.mp (show ops.toList.all (fun o => match o.dst with | some t => Nat.blt t n | none => true) = true from hd)) o ho
  rw [ht] at this
  exact Nat.blt_eq.mp this

theorem code_wp (hB : Base F C call h) {m f : Nat} : ∀ (c : Code) (blk : Nat) (st : St) (a : Act) (w : World) (g : Gh) (sv : Nat → Option Nat) (ow : Ow), codeOkB n c = true → FR n st a w g sv ow →
    CWp F C.P n c a w g ow (evCode C call (iter m) f h blk c st)
  | .skip, _, st, a, w, g, sv, ow, _, hF => by
    unfold evCode
    exact fun Q hQ => wpIn_skip (hQ _ _ _ _ _ _ rfl hF (Fut.refl _ _ _))
  | .label l, _, st, a, w, g, sv, ow, _, hF => by
    unfold evCode
    exact fun Q hQ => wpIn_label (hQ _ _ _ _ _ _ rfl hF (Fut.refl _ _ _))
  | .region id ops dr, _, st, a, w, g, sv, ow, hd, hF => by
    unfold evCode
    exact region_wp hB.calls hB.wide hB.rnd hB.zero hB.mix hF (dstsOk_of hd)
  | .seq x y, blk, st, a, w, g, sv, ow, hd, hF => by
    unfold evCode
    have hdx : codeOkB n x = true ∧ codeOkB n y = true := by
      unfold codeOkB at hd
      split at hd
      · rename_i h1; exact ⟨h1, hd⟩
      · cases hd
    have ihx := code_wp hB (m := m) (f := f) x blk st a w g sv ow hdx.1 hF
    cases hr : evCode C call (iter m) f h blk x st with
    | ok p =>
      obtain ⟨e, st1⟩ := p
      rw [hr] at ihx
      simp only [Res.bind]
      cases e with
      | normal =>
        simp only
        cases hr2 : evCode C call (iter m) f h blk y st1 with
        | ok p2 =>
          obtain ⟨e2, st2⟩ := p2
          intro Q hQ
          refine wpIn_seq (ihx _ fun e' a' w' g' sv' ow' f1 f2 f3 => ?_)
          cases f1
          have ihy := code_wp hB (m := m) (f := f) y blk st1 a' w' g' sv' ow' hdx.2 f2
          rw [hr2] at ihy
          exact ihy _ (fun e2 a2 w2 g2 sv2 ow2 k1 k2 k3 => hQ _ _ _ _ _ _ k1 k2 (f3.trans k3))
        | _ => trivial
      | exit id =>
        intro Q hQ
        refine wpIn_seq (ihx _ fun e' a' w' g' sv' ow' f1 f2 f3 => ?_)
        cases f1
        exact hQ _ _ _ _ _ _ rfl f2 f3
      | ret =>
        intro Q hQ
        refine wpIn_seq (ihx _ fun e' a' w' g' sv' ow' f1 f2 f3 => ?_)
        cases f1
        exact hQ _ _ _ _ _ _ rfl f2 f3
      | panic v =>
        intro Q hQ
        refine wpIn_seq (ihx _ fun e' a' w' g' sv' ow' f1 f2 f3 => ?_)
        obtain ⟨u, hu, rfl⟩ := f1
        exact hQ _ _ _ _ _ _ ⟨u, hu, rfl⟩ f2 f3
    | _ => trivial
  | .cond c x y, blk, st, a, w, g, sv, ow, hd, hF => by
    unfold evCode
    have hdx : codeOkB n x = true ∧ codeOkB n y = true := by
      unfold codeOkB at hd
      split at hd
      · rename_i h1; exact ⟨h1, hd⟩
      · cases hd
    have hc := hF.opnd c
    split
    · rename_i b hcv
      rw [hcv] at hc
      have hc' : a.eval c = .bool b := hc
      cases b with
      | true =>
        have ih := code_wp hB (m := m) (f := f) x blk st a w g sv ow hdx.1 hF
        simp only
        cases hr : evCode C call (iter m) f h blk x st with
        | ok p => rw [hr] at ih; obtain ⟨e, st1⟩ := p; exact fun Q hQ => wpIn_cond_true hc' (ih Q hQ)
        | _ => trivial
      | false =>
        have ih := code_wp hB (m := m) (f := f) y blk st a w g sv ow hdx.2 hF
        simp only
        cases hr : evCode C call (iter m) f h blk y st with
        | ok p => rw [hr] at ih; obtain ⟨e, st1⟩ := p; exact fun Q hQ => wpIn_cond_false hc' (ih Q hQ)
        | _ => trivial
    · rename_i hcv
      rw [hcv] at hc
      obtain ⟨b, hc'⟩ := hc
      cases hr : both (evCode C call (iter m) f h blk x st) (evCode C call (iter m) f h blk y st) with
      | ok p =>
        obtain ⟨e, st1⟩ := p
        obtain ⟨s, s', rfl, h1, h2, hb⟩ := both_ok hr
        cases b with
        | true =>
          have ih := code_wp hB (m := m) (f := f) x blk st a w g sv ow hdx.1 hF
          rw [h1] at ih
          exact fun Q hQ => wpIn_cond_true hc' (ih Q fun e' a' w' g' sv' ow' f1 f2 f3 => hQ _ _ _ _ _ _ f1 (hb.left f2) f3)
        | false =>
          have ih := code_wp hB (m := m) (f := f) y blk st a w g sv ow hdx.2 hF
          rw [h2] at ih
          exact fun Q hQ => wpIn_cond_false hc' (ih Q fun e' a' w' g' sv' ow' f1 f2 f3 => hQ _ _ _ _ _ _ f1 (hb.right f2) f3)
      | _ => trivial
    · trivial
  | .block id c, blk, st, a, w, g, sv, ow, hd, hF => by
    unfold evCode
    have ih := code_wp hB (m := m) (f := f) c id st a w g sv ow (by simpa only [codeOkB] using hd) hF
    cases hr : evCode C call (iter m) f h id c st with
    | ok p =>
      obtain ⟨e, st1⟩ := p
      rw [hr] at ih
      simp only [Res.bind]
      cases e with
      | normal =>
        intro Q hQ
        refine wpIn_block (ih _ fun e' a' w' g' sv' ow' f1 f2 f3 => ?_)
        cases f1
        exact hQ _ _ _ _ _ _ rfl f2 f3
      | exit i =>
        simp only
        rcases beq_cases i id with ⟨hb, e⟩ | ⟨hb, e⟩
        · rw [hb]
          intro Q hQ
          refine wpIn_block (ih _ fun e' a' w' g' sv' ow' f1 f2 f3 => ?_)
          cases f1
          simp only [Exit.inBlock, e, if_true]
          exact hQ _ _ _ _ _ _ rfl f2 f3
        · rw [hb]
          intro Q hQ
          refine wpIn_block (ih _ fun e' a' w' g' sv' ow' f1 f2 f3 => ?_)
          cases f1
          simp only [Exit.inBlock, e, if_false]
          exact hQ _ _ _ _ _ _ rfl f2 f3
      | ret =>
        intro Q hQ
        refine wpIn_block (ih _ fun e' a' w' g' sv' ow' f1 f2 f3 => ?_)
        cases f1
        exact hQ _ _ _ _ _ _ rfl f2 f3
      | panic v =>
        intro Q hQ
        refine wpIn_block (ih _ fun e' a' w' g' sv' ow' f1 f2 f3 => ?_)
        obtain ⟨u, hu, rfl⟩ := f1
        exact hQ _ _ _ _ _ _ ⟨u, hu, rfl⟩ f2 f3
    | _ => trivial
  | .loop c, blk, st, a, w, g, sv, ow, hd, hF => by
    unfold evCode
    have ih : ∀ (st : St) (a : Act) (w : World) (g : Gh) (sv : Nat → Option Nat) (ow : Ow), FR n st a w g sv ow → CWp F C.P n c a w g ow (evCode C call (iter m) f h blk c (keepAt h blk st)) :=
      fun st a w g sv ow hF => code_wp hB (m := m) (f := f) c blk (keepAt h blk st) a w g sv ow (by simpa only [codeOkB] using hd) (hF.keepAt blk)
    cases hr : iter m (fun st => evCode C call (iter m) f h blk c (keepAt h blk st)) st with
    | ok p =>
      obtain ⟨e, st1⟩ := p
      intro Q hQ
      exact wpIn_loop_rounds m (loop_wp ih m st a w g sv ow e st1 hF hr Q hQ)
    | _ => trivial
  | .rangeFunc gf ps as bd, blk, st, a, w, g, sv, ow, hd, hF => by
    unfold evCode
    have hdx : (∀ p ∈ ps.toList, p < n) ∧ codeOkB n as = true ∧ codeOkB n bd = true := by
      unfold codeOkB at hd
      split at hd
      · rename_i h1 h2
        exact ⟨fun p hp => Nat.blt_eq.mp ((List.all_eq_true.mp h1) p hp), h2, hd⟩
      · cases hd
    split
    · rename_i k cap hr hg
      have hro : F.round = none := by
        rcases hB.rnd with h | h
        · exact h
        · rw [hr] at h; cases h
      exact range_wp hB.calls hB.wide hro hF hdx.2.1 hdx.2.2 hdx.1 hg
    · trivial
  | .exit id, _, st, a, w, g, sv, ow, _, hF => by
    unfold evCode
    exact fun Q hQ => wpIn_exit (hQ _ _ _ _ _ _ rfl hF (Fut.refl _ _ _))
  | .scope c, blk, st, a, w, g, sv, ow, hd, hF => by
    unfold evCode
    have ih := code_wp hB (m := m) (f := f) c blk st a w g sv ow (by simpa only [codeOkB] using hd) hF
    cases hr : evCode C call (iter m) f h blk c st with
    | ok p =>
      obtain ⟨e, st1⟩ := p
      rw [hr] at ih
      intro Q hQ
      refine wpIn_scope_straight (ih _ fun e' a' w' g' sv' ow' f1 f2 f3 => ?_)
      have := hQ e' a' w' g' sv' ow' f1 f2 f3
      cases e with
      | normal => cases f1; exact this
      | exit i => cases f1; exact this
      | ret => cases f1; exact this
      | panic v => obtain ⟨u, hu, rfl⟩ := f1; exact this
    | _ => trivial
  | .goto l, _, st, a, w, g, sv, ow, _, hF => by
    unfold evCode
    trivial
  | .ret, _, st, a, w, g, sv, ow, _, hF => by
    unfold evCode
    exact fun Q hQ => wpIn_ret (hQ _ _ _ _ _ _ rfl hF (Fut.refl _ _ _))
  | .refuse _, _, st, a, w, g, sv, ow, _, hF => by
    unfold evCode
    trivial

/-- code ends with no panic of the evaluator's own: what panics is its end. -/
theorem code_np {m f : Nat} {x : AV} {H : Heap} : ∀ (c : Code) (blk : Nat) (st : St), evCode C call (iter m) f h blk c st ≠ .panic x H := by
  have hit : ∀ (body : St → Res (Ex × St)), (∀ st, body st ≠ .panic x H) → ∀ k st, iter k body st ≠ .panic x H := by
    intro body hb k
    induction k with
    | zero => intro st he; cases he
    | succ k ih =>
      intro st he
      unfold iter at he
      cases hr : body st with
      | ok p =>
        obtain ⟨e, st1⟩ := p
        rw [hr] at he
        simp only [Res.bind] at he
        cases e with
        | normal => exact ih st1 he
        | _ => cases he
      | panic y H' => rw [hr] at he; cases he; exact hb st hr
      | bad _ => rw [hr] at he; cases he
      | oof => rw [hr] at he; cases he
  have hre : ∀ (ops : List Oper) (st : St) (r : Res St), regionEnd ops st r ≠ .panic x H := by
    intro ops st r he
    unfold regionEnd at he
    split at he <;> (try cases he)
    unfold guardR at he
    split at he <;> cases he
  have hrg : ∀ (st : St) (l : Nat) (r : Res (Slot × Heap)), rangeEnd st l r ≠ .panic x H := by
    intro st l r he
    unfold rangeEnd at he
    split at he <;> (try cases he)
    split at he <;> (try cases he)
    split at he <;> (try cases he)
    split at he <;> cases he
  intro c
  induction c with
  | skip => intro _ st he; unfold evCode at he; cases he
  | label => intro _ st he; unfold evCode at he; cases he
  | region id ops dr => intro _ st he; unfold evCode at he; exact hre _ _ _ he
  | seq a b iha ihb =>
    intro blk st he
    unfold evCode at he
    cases hr : evCode C call (iter m) f h blk a st with
    | ok p =>
      obtain ⟨e, st1⟩ := p
      rw [hr] at he
      simp only [Res.bind] at he
      cases e with
      | normal => exact ihb blk st1 he
      | _ => cases he
    | panic y H' => rw [hr] at he; cases he; exact iha blk st hr
    | bad _ => rw [hr] at he; cases he
    | oof => rw [hr] at he; cases he
  | cond c a b iha ihb =>
    intro blk st he
    unfold evCode at he
    split at he
    · split at he
      · exact iha blk st he
      · exact ihb blk st he
    · unfold both at he
      split at he
      · unfold guardR at he
        split at he <;> cases he
      · cases he
    · cases he
  | block id c ih =>
    intro blk st he
    unfold evCode at he
    cases hr : evCode C call (iter m) f h id c st with
    | ok p =>
      obtain ⟨e, st1⟩ := p
      rw [hr] at he
      simp only [Res.bind] at he
      cases e with
      | exit i => simp only at he; split at he <;> cases he
      | _ => cases he
    | panic y H' => rw [hr] at he; cases he; exact ih id st hr
    | bad _ => rw [hr] at he; cases he
    | oof => rw [hr] at he; cases he
  | loop c ih => intro blk st he; unfold evCode at he; exact hit _ (fun st => ih blk _) m st he
  | rangeFunc g ps as bd _ _ => intro blk st he; unfold evCode at he; split at he <;> first | exact hrg _ _ _ he | cases he
  | exit => intro _ st he; unfold evCode at he; cases he
  | scope c ih => intro blk st he; unfold evCode at he; exact ih blk st he
  | goto => intro _ st he; unfold evCode at he; cases he
  | ret => intro _ st he; unfold evCode at he; cases he
  | refuse => intro _ st he; unfold evCode at he; cases he

end
end Go.Sw
/-! A function's start and its results. -/
namespace Go.Sw
open Go

section
variable {P : Program} {n : Nat} {st : St} {a : Act} {w : World} {g : Gh} {sv : Nat → Option Nat} {ow : Ow}

theorem startT_get (xs : List AV) (t : Nat) : ∀ (i : Nat), (getT (startT xs i) t = .undef) ∨ ∃ x, i ≤ t ∧ xs[t - i]? = some x ∧ ((x = .nils ∧ getT (startT xs i) t = .nil0) ∨ getT (startT xs i) t = .v x) := by
  induction xs with
  | nil => exact fun i => .inl rfl
  | cons y l ih =>
    intro i
    have hsh : ∃ s, startT (y :: l) i = (i, s) :: startT l (i + 1) ∧ ((y = .nils ∧ s = .nil0) ∨ s = .v y) := by
      cases y <;> exact ⟨_, rfl, by first | exact .inl ⟨rfl, rfl⟩ | exact .inr rfl⟩
    obtain ⟨s, h1, h2⟩ := hsh
    rw [h1, getT_cons]
    by_cases e : i = t
    · subst e
      right
      refine ⟨y, Nat.le_refl _, by simp, ?_⟩
      simp only [if_true]
      rcases h2 with ⟨h2, h3⟩ | h3
      · exact .inl ⟨h2, h3⟩
      · exact .inr h3
    · simp only [e, if_false]
      rcases ih (i + 1) with h | ⟨x, h3, h4, h5⟩
      · exact .inl h
      · right
        refine ⟨x, by omega, ?_, h5⟩
        have : t - i = (t - (i + 1)) + 1 := by omega
        rw [this]; simpa using h4

theorem view_mkAgg (l : List Slot) (h : ∀ s ∈ l, view s = s) : view (mkAgg l) = mkAgg l := by
  have hv : ∀ l : List Slot, (∀ s ∈ l, view s = s) → views l = l := by
    intro l
    induction l with
    | nil => intro _; rfl
    | cons s l ih => intro h; simp [views, h s (by simp), ih (fun s hs => h s (by simp [hs]))]
  unfold mkAgg
  split
  · rfl
  · simp only [view, hv l h]

mutual
theorem view_view : ∀ (s : Slot), view (view s) = view s
  | .undef | .skip | .v _ | .nil0 | .coin | .own _ _ | .loc _ _ | .imm _ | .er _ _ _ _ | .it _ _ => by simp [view]
  | .agg cs => by simp only [view, views_views cs]
  | .tup cs => by simp only [view, views_views cs]
theorem views_views : ∀ (l : List Slot), views (views l) = views l
  | [] => rfl
  | s :: l => by simp only [views, view_view s, views_views l]
end

/-- a frame's beginning. -/
theorem FR.start {xs : List AV} {H : Heap} {args : Array Value} (k : Nat) (hv : VRs g xs args.toList) (hr : HR w g ow H) (gc : GCons w g) (bd : BD w ow) (gv : GV g) :
    FR (args ++ Array.replicate k undef).size (startSt xs H) { tmps := args ++ Array.replicate k undef, defers := [] } w g (fun _ => none) ow := by
  refine ⟨rfl, gc, fun t => ?_, fun t => ?_, fun s cs h => (by cases h), hr, rfl, bd, gv⟩
  · rcases startT_get xs t 0 with h | ⟨x, _, h2, h3⟩
    · simp only [startSt, h]; trivial
    · obtain ⟨v, h4, h5⟩ := VRs_get _ _ hv _ _ h2
      have hget : (args ++ Array.replicate k undef).getD t undef = v := by
        have h4' : args[t]? = some v := by simpa using h4
        have hlt := (Array.getElem?_eq_some_iff.1 h4').1
        simp only [Array.getD_eq_getD_getElem?, Array.getElem?_append_left hlt, h4', Option.getD_some]
      simp only [startSt, hget]
      rcases h3 with ⟨rfl, h3⟩ | h3
      · rw [h3]; exact h5
      · rw [h3]; exact h5
  · rcases startT_get xs t 0 with h | ⟨x, _, _, h3⟩
    · simp only [startSt, h]; trivial
    · simp only [startSt]
      rcases h3 with ⟨_, h3⟩ | h3 <;> rw [h3] <;> trivial

/-- what a frame hands out: the heap's objects; what one temporary held, as the result's. -/
def outF (t : Option Nat) : Root → Option Root
  | .tmp k => match t with | some d => if k = d then some .ret else none | none => none
  | .hobj r => some (.hobj r)
  | .hcell r o => some (.hcell r o)
  | .ctx => some .ctx
  | _ => none

theorem plain_noLoc' {s : Slot} (h : retOk s = true) : noLoc s = true := by
  unfold retOk at h
  split at h
  · rfl
  · rfl
  · rfl
  · rename_i cs
    exact noLocs_of cs (fun c hc => plain_noLoc (List.all_eq_true.mp h c hc))
  · cases h

theorem FR.done (hF : FR n st a w g sv ow) (t : Option Nat) : HR w g (reown (outF t) ow) st.heap ∧ BD w (reown (outF t) ow) ∧ Fut w g ow w g (reown (outF t) ow) := by
  have hk : Keeps (fun r => isHeap r = true) w g ow w g (reown (outF t) ow) :=
    ⟨Gh.le.refl g, fun B r q hr h => reown_keeps.ow B r q (by cases r <;> first | rfl | cases hr) h⟩
  exact ⟨⟨fun r o h => (hF.hr.ob r o h).keeps hk rfl (fun _ => rfl) (fun _ h => h) (fun _ _ h => h), hF.hr.nf⟩, reown_bd hF.bd, reown_fut (f := outF t) rfl⟩


theorem loadAt_var {t B k : Nat} : (Instr.loadAt t (.pointer (some ⟨B, k, none⟩))).run P w = (loadVar t ⟨B, k, none⟩).run P w := by
  simp [Instr.loadAt, Instr.sureAddr]

/-- what the model makes of a result. -/
def resV (a : Act) : ResultVar → Sem Value
  | .tmp t => pure (a.tmps.getD t undef)
  | .cell x t => do loadVar t (← asAddr (a.tmps.getD x undef))

/-- one result. -/
theorem result_one {r : ResultVar} {s : Slot} {H : Heap} (hF : FR n st a w g sv ow) (hs : resultsS P st [r] = .ok ([s], H)) (hr : retOk s = true) (hlt : ∀ a t, r = .cell a t → a < n) :
    ∃ v ow', (resV a r).run P w = .ok v w ∧
      SR w g (fun _ => none) ow' ⟨.ret, []⟩ s v ∧ noLoc s = true ∧ HR w g ow' H ∧ BD w ow' ∧ Fut w g ow w g ow' := by
  have hnl := plain_noLoc' hr
  cases r with
  | tmp t =>
    simp only [resultsS, Res.ok.injEq, Prod.mk.injEq, List.cons.injEq, and_true] at hs
    obtain ⟨rfl, rfl⟩ := hs
    obtain ⟨h1, h2, h3⟩ := hF.done (some t)
    refine ⟨_, reown (outF (some t)) ow, rfl, ?_, hnl, h1, h2, h3⟩
    exact SR_sv (sv := sv) _ _ hnl (SR.keep (root := .tmp t) (root' := .ret) ⟨Gh.le.refl g, fun _ _ h => h, fun B q h => ⟨by simp [reown, h, outF], rfl, fun _ _ h => h⟩⟩ _ _ _ (hF.tm t))
  | cell x t =>
    simp only [resultsS] at hs
    obtain ⟨e, he, hs⟩ := Res.bind_ok hs
    cases hs
    have hxn := hlt x t rfl
    obtain ⟨B, k, u, ow1, h1, h2, h3, h4⟩ := load_ok (x := .tmp x) (A := none) hF (d := some x) (fun y hy => by cases hy; exact hxn) he
    have h1' : a.tmps.getD x undef = .pointer (some ⟨B, k, none⟩) := h1
    -- what lies in the temporary
    have hx := h3.tm x
    have hgx : getT (applyEff st (some x) e).tmps x = e.dst := by simp [applyEff, putT, getT_cons]
    have hvx : (a.put (some x) u).tmps.getD x undef = u := by
      have : x < a.tmps.size := by rw [hF.sz]; exact hxn
      simp only [Act.put, getD_put, this, and_self, if_true]
    rw [hgx, hvx] at hx
    obtain ⟨k1, k2, k3⟩ := h3.done (some x)
    refine ⟨u, reown (outF (some x)) ow1, ?_, ?_, hnl, k1, k2, h4.trans k3⟩
    · rw [loadAt_var] at h2
      simp only [resV, h1']
      simpa [asAddr] using h2
    · exact SR_sv (sv := sv) _ _ hnl (SR.keep (root := .tmp x) (root' := .ret) ⟨Gh.le.refl g, fun _ _ h => h, fun B q h => ⟨by simp [reown, h, outF], rfl, fun _ _ h => h⟩⟩ _ _ _ hx)

theorem SRs_nilV {sv : Nat → Option Nat} {h : Hold} : ∀ (l : List Slot) (i : Nat) (vs : List Value), SRs w g sv ow h i l vs → SRs w g sv ow h i (l.map nilV) vs
  | [], _, _, e => e
  | s :: l, i, _, ⟨v, vs', a, b, c⟩ => by
    refine ⟨v, vs', a, ?_, SRs_nilV l (i + 1) vs' c⟩
    cases s <;> first | exact b | skip
    have hb : v = .slice none 0 0 := b
    subst hb
    exact VR.nil

theorem plainR_F {sv : Nat → Option Nat} {s : Slot} {v : Value} (h : FreeR w g sv s v) : FreeR w g sv (plainR s) v := by
  cases s with
  | agg cs =>
    have hs : ∀ ow k, ∃ vs, v = .agg vs ∧ SRs w g sv ow k 0 (cs.map nilV) vs.toList := fun ow k => by
      obtain ⟨vs, h1, h2⟩ := h ow k
      exact ⟨vs, h1, SRs_nilV _ _ _ h2⟩
    intro ow k
    obtain ⟨vs, h1, h2⟩ := hs ow k
    subst h1
    simp only [plainR]
    unfold mkAgg
    split
    · rename_i xs hxs
      exact ⟨vs, rfl, allV_SRs _ _ _ _ hxs h2⟩
    · exact ⟨vs, rfl, h2⟩
  | _ => exact h

/-- a result beside others. -/
theorem result_view {r : ResultVar} {s : Slot} (hF : FR n st a w g sv ow) (hs : resultV P st r = .ok s) (hr : retOk s = true) (hlt : ∀ a t, r = .cell a t → a < n) :
    ∃ v, (resV a r).run P w = .ok v w ∧ FreeR w g (fun _ => none) s v := by
  have hnl := plain_noLoc' hr
  cases r with
  | tmp t =>
    simp only [resultV] at hs
    cases hs
    exact ⟨_, rfl, fun ow' h => SR_sv (sv := sv) _ _ hnl (plainR_F (hF.viewFree (.tmp t)) ow' h)⟩
  | cell x t =>
    simp only [resultV] at hs
    obtain ⟨e, he, hs⟩ := Res.bind_ok hs
    cases hs
    have hxn := hlt x t rfl
    obtain ⟨B, k, u, ow1, h1, h2, h3, h4⟩ := load_ok (x := .tmp x) (A := none) hF (d := some x) (fun y hy => by cases hy; exact hxn) he
    have h1' : a.tmps.getD x undef = .pointer (some ⟨B, k, none⟩) := h1
    have hx := h3.tm x
    have hgx : getT (applyEff st (some x) e).tmps x = e.dst := by simp [applyEff, putT, getT_cons]
    have hvx : (a.put (some x) u).tmps.getD x undef = u := by
      have : x < a.tmps.size := by rw [hF.sz]; exact hxn
      simp only [Act.put, getD_put, this, and_self, if_true]
    rw [hgx, hvx] at hx
    have hview : view e.dst = e.dst := by
      unfold evLoad at he
      obtain ⟨⟨cs, off⟩, _, h2⟩ := Res.mbind_ok he
      obtain ⟨ag, _, h3⟩ := Res.mbind_ok h2
      obtain ⟨m, _, h4⟩ := Res.mbind_ok h3
      cases ag with
      | true =>
        obtain ⟨l, _, h5⟩ := Res.mbind_ok h4
        cases h5
        exact view_mkAgg (views l) (fun s hs => by
          obtain ⟨i, hi⟩ := List.getElem?_of_mem hs
          rw [views_get] at hi
          cases hl : l[i]? with
          | none => rw [hl] at hi; cases hi
          | some c => rw [hl] at hi; cases hi; exact view_view c)
      | false =>
        obtain ⟨c, _, h5⟩ := Res.mbind_ok h4
        cases h5
        exact view_view c
    refine ⟨u, ?_, fun ow' h => ?_⟩
    · rw [loadAt_var] at h2
      simp only [resV, h1']
      simpa [asAddr] using h2
    · have : FreeR w g sv e.dst u := fun ow' h => by
        have : SR w g sv ow' h (view e.dst) u := SR.view (Gh.le.refl g) (fun _ _ h => h) _ _ hx
        rw [hview] at this
        exact this
      exact SR_sv (sv := sv) _ _ hnl (plainR_F this ow' h)

theorem results_view : ∀ (l : List ResultVar) (ss : List Slot), FR n st a w g sv ow → resultsL P st l = .ok ss → ss.all retOk = true → (∀ r ∈ l, ∀ a t, r = .cell a t → a < n) →
    ∃ vs, (l.mapM (resV a)).run P w = .ok vs w ∧ vs.length = ss.length ∧ ∀ (i : Nat) s v, ss[i]? = some s → vs[i]? = some v → FreeR w g (fun _ => none) s v
  | [], ss, _, hs, _, _ => by cases hs; exact ⟨[], rfl, rfl, fun i s v h => by simp at h⟩
  | r :: l, ss, hF, hs, hr, hlt => by
    unfold resultsL at hs
    obtain ⟨s, h1, h2⟩ := Res.bind_ok hs
    obtain ⟨ss', h3, h4⟩ := Res.bind_ok h2
    cases h4
    simp only [List.all_cons, Bool.and_eq_true] at hr
    obtain ⟨v, k1, k2⟩ := result_view hF h1 hr.1 (hlt r (by simp))
    obtain ⟨vs, k3, k4, k5⟩ := results_view l ss' hF h3 hr.2 (fun r hr => hlt r (by simp [hr]))
    refine ⟨v :: vs, ?_, by simp [k4], fun i s' v' h5 h6 => ?_⟩
    · simp [List.mapM_cons, k1, k3, Result.andThen]
    · cases i with
      | zero => simp at h5 h6; subst h5; subst h6; exact k2
      | succ i => exact k5 i s' v' (by simpa using h5) (by simpa using h6)

/-- what a function hands out. -/
def tupV : List Value → Value
  | [v] => v
  | vs => .tuple vs.toArray

theorem results_run (fn : Func) (tmps : Array Value) {w' : World} {vs : List Value} (h : (fn.results.toList.mapM (resV { tmps := tmps, defers := [] })).run P w = .ok vs w') :
    (results fn tmps).run P w = .ok (tupV vs) w' := by
  have hm : ∀ f : ResultVar → Sem Value, (∀ r, f r = resV { tmps := tmps, defers := [] } r) → fn.results.mapM f = List.toArray <$> fn.results.toList.mapM (resV { tmps := tmps, defers := [] }) := by
    intro f hf
    have : f = resV { tmps := tmps, defers := [] } := funext hf
    subst this
    exact Array.mapM_eq_mapM_toList
  unfold results
  rw [hm _ (fun r => by cases r <;> rfl)]
  simp only [map_eq_pure_bind, Sem.run_bind, h, Result.andThen]
  match vs with
  | [] => rfl
  | [v] => rfl
  | v :: u :: l => rfl

end
end Go.Sw

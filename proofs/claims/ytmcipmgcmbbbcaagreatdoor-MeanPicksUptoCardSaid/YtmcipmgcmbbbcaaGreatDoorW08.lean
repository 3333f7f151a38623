/- A reflective evaluator over the code of a program, and the proof that what it finds is what the machine of the model does. It asks of the program what ProgOK says; nothing of a law is said here. -/
import Derived.Test.YtmcipmgcmbbbcaaGreatDoorW07
import Derived.ChangeSame
import Derived.Lib.LaidTab
import Derived.Calls
/-! How a function leaves. -/
namespace Go.Sw
open Go

section
variable {P : Program} {n : Nat} {st : St} {a : Act} {w : World} {g : Gh} {sv : Nat → Option Nat} {ow : Ow}

theorem resV_tmps (a : Act) : resV { tmps := a.tmps, defers := [] } = resV a := by
  funext r
  cases r <;> rfl

theorem results_ok {fn : Func} {l : List Slot} {H : Heap} (hF : FR n st a w g sv ow) (hs : resultsS P st fn.results.toList = .ok (l, H)) (hr : l.all retOk = true) (hlt : ∀ r ∈ fn.results.toList, ∀ x t, r = .cell x t → x < n) :
    ∃ v ow', (results fn a.tmps).run P w = .ok v w ∧ SR w g (fun _ => none) ow' ⟨.ret, []⟩ (retSlot l) v ∧ noLoc (retSlot l) = true ∧ HR w g ow' H ∧ BD w ow' ∧ Fut w g ow w g ow' := by
  have many : (resultsL P st fn.results.toList).bind (fun ss => Res.ok (ss, st.heap)) = .ok (l, H) → l.length ≠ 1 → ∃ v ow', (results fn a.tmps).run P w = .ok v w ∧ SR w g (fun _ => none) ow' ⟨.ret, []⟩ (retSlot l) v ∧ noLoc (retSlot l) = true ∧ HR w g ow' H ∧ BD w ow' ∧ Fut w g ow w g ow' := by
    intro h1 hlen
    obtain ⟨ss, h2, h3⟩ := Res.bind_ok h1
    cases h3
    obtain ⟨vs, k1, k2, k3⟩ := results_view _ _ hF h2 hr hlt
    have hrun := results_run (P := P) fn a.tmps (vs := vs) (w := w) (w' := w) (by rw [resV_tmps]; exact k1)
    obtain ⟨q1, q2, q3⟩ := hF.done none
    have hret : retSlot l = .tup l := by
      unfold retSlot
      split
      · rename_i s; exact absurd rfl hlen
      · rfl
    have htup : tupV vs = .tuple vs.toArray := by
      unfold tupV
      split
      · rename_i v; rw [← k2] at hlen; exact absurd rfl hlen
      · rfl
    refine ⟨_, reown (outF none) ow, hrun, ?_, ?_, q1, q2, q3⟩
    · rw [hret, htup]
      refine ⟨vs.toArray, rfl, SRs_of _ _ _ (by simp [k2]) (fun i s hi => ?_)⟩
      have hi' : i < vs.length := by rw [k2]; exact len_of_get hi
      exact ⟨vs[i], by simp [hi'], k3 i s _ hi (List.getElem?_eq_getElem hi') _ _⟩
    · rw [hret]
      exact noLocs_of _ (fun c hc => plain_noLoc' (List.all_eq_true.mp hr c hc))
  cases hrs : fn.results.toList with
  | nil =>
    rw [hrs] at hs many
    refine many hs ?_
    simp only [resultsS, resultsL, Res.bind] at hs
    cases hs
    simp
  | cons r rs =>
    cases rs with
    | nil =>
      rw [hrs] at hs hlt
      have hl : ∃ s, l = [s] := by
        cases r with
        | tmp t => simp only [resultsS] at hs; cases hs; exact ⟨_, rfl⟩
        | cell x t => simp only [resultsS] at hs; obtain ⟨e, _, hs⟩ := Res.bind_ok hs; cases hs; exact ⟨_, rfl⟩
      obtain ⟨s, rfl⟩ := hl
      simp only [List.all_cons, List.all_nil, Bool.and_true] at hr
      obtain ⟨v, ow', k1, k2, k3, k4, k5, k6⟩ := result_one hF hs hr (fun x t e => hlt r (by simp) x t e)
      refine ⟨v, ow', ?_, k2, k3, k4, k5, k6⟩
      have := results_run (P := P) fn a.tmps (vs := [v]) (w := w) (w' := w) (by rw [hrs, resV_tmps]; simp [List.mapM_cons, k1, Result.andThen])
      exact this
    | cons r2 rs =>
      rw [hrs] at hs many
      have hs' : (resultsL P st (r :: r2 :: rs)).bind (fun ss => Res.ok (ss, st.heap)) = .ok (l, H) := by
        cases r <;> exact hs
      refine many hs' ?_
      obtain ⟨ss, h2, h3⟩ := Res.bind_ok hs'
      cases h3
      unfold resultsL at h2
      obtain ⟨s1, _, h2⟩ := Res.bind_ok h2
      obtain ⟨ss1, h4, h2⟩ := Res.bind_ok h2
      cases h2
      unfold resultsL at h4
      obtain ⟨s2, _, h4⟩ := Res.bind_ok h4
      obtain ⟨ss2, _, h4⟩ := Res.bind_ok h4
      cases h4
      simp

/-- the mark is taken. -/
theorem FR.takeMark {l : List Dfr} (hF : FR n { st with defs := .mark :: l } a w g sv ow) : ∃ r d ds w' ow', a.defers = d :: ds ∧ d.target = .collected r ∧ (Instr.takeDeferred r).run P w = .ok [] w' ∧
    FR n { st with defs := l } { a with defers := ds } w' g sv ow' ∧ Fut w g ow w' g ow' := by
  obtain ⟨r, d, ds, h1, h2, h3, h4, h4d, h5⟩ := hF.df
  have hlt := hF.bd r _ h4
  have hrun : (Instr.takeDeferred r).run P w = .ok [] { w with heap := w.heap.setIfInBounds r (.deferred none) } := by
    simp [Instr.takeDeferred, getObj, setObj, Sem.run, h3, Result.andThen]
  have ht : Touch r w { w with heap := w.heap.setIfInBounds r (.deferred none) } :=
    ⟨fun B' hne _ => by simp [Ne.symm hne], by simp, by simpa using hlt, rfl, rfl, rfl⟩
  have hno : ∀ o y, ¬ g.im r o y := fun o y h => by
    obtain ⟨v, hv, _⟩ := hF.gc r o y h
    simp [World.cell?, h3] at hv
  have hne : ∀ B' r' q, ow B' = some ⟨r', q⟩ → r' ≠ .dfr ∨ q ≠ [r] → B' ≠ r := by
    intro B' r' q hB' hh e
    subst e
    rw [h4] at hB'
    cases hB'
    rcases hh with h | h <;> exact h rfl
  have hk : Keeps (fun r' => r' ≠ .dfr) w g ow { w with heap := w.heap.setIfInBounds r (.deferred none) } g (fun B => if B = r then none else ow B) :=
    ⟨Gh.le.refl g, fun B' r' q hp hB' => ⟨by simp [hne B' r' q hB' (.inl hp), hB'], ht.oth _ (hne B' r' q hB' (.inl hp)) (hF.bd _ _ hB'), fun _ _ h => h⟩⟩
  have hdr : ∀ (l : List Dfr) (ds : List Deferred), DR w g ow l ds → (∀ d ∈ ds, d.target ≠ .collected r) → DR { w with heap := w.heap.setIfInBounds r (.deferred none) } g (fun B => if B = r then none else ow B) l ds := by
    intro l
    induction l with
    | nil => intro ds h _; exact h
    | cons d l ih =>
      intro ds h hd
      cases d with
      | mark =>
        obtain ⟨r2, d2, ds2, rfl, k2, k3, k4, kd, k5⟩ := h
        have hr : r2 ≠ r := fun e => hd d2 (by simp) (by rw [k2, e])
        exact ⟨r2, d2, ds2, rfl, k2, (ht.oth _ hr (hF.bd _ _ k4)).trans k3, by simp [hr, k4], kd, ih ds2 k5 (fun d hd' => hd d (by simp [hd']))⟩
      | clo f cap =>
        obtain ⟨vs, ds2, rfl, k2, k3⟩ := h
        exact ⟨vs, ds2, rfl, k2, ih ds2 k3 (fun d hd' => hd d (by simp [hd']))⟩
  refine ⟨r, d, ds, _, _, h1, h2, hrun, ⟨hF.sz, ht.gc hF.gc (Gh.le.refl g) (fun o y h => absurd h (hno o y)) (fun _ _ _ _ h => h), fun t => SR.keeps hk (by simp) (fun _ _ h => h) (hF.tm t), hF.lk,
    fun s cs h => (hF.lc s cs h).keeps hk (by simp) (by simp) (fun _ h => h), ⟨fun r' o h => (hF.hr.ob r' o h).keeps hk (by simp) (by simp) (fun _ h => h) (fun _ _ h => h), hF.hr.nf⟩, hdr l ds h5 h4d, fun B h hB => ?_, hF.gv⟩, ⟨Gh.le.refl g, ht.sz, fun B p hB => hk.ow B .ctx p (by simp) hB, ht.tp, ht.os, ht.ot⟩⟩
  split at hB
  · cases hB
  · exact Nat.lt_of_lt_of_le (hF.bd B h hB) ht.sz

end
end Go.Sw
/-! Deferred calls. -/
namespace Go.Sw
open Go

theorem wideWide : Wide fw := ⟨rfl, rfl, rfl⟩

/-- while a panic goes on, or none. -/
def ModeR (g : Gh) : Option AV → FrameMode → Prop
  | none, u => u = .returning
  | some v, u => ∃ x, VR g v x ∧ u = .panicking [{ v := x, recovered := false }]

theorem ModeR.mono {g g' : Gh} (hle : g.le g') {pn : Option AV} {u : FrameMode} (h : ModeR g pn u) : ModeR g' pn u := by
  cases pn with
  | none => exact h
  | some v => obtain ⟨x, h1, h2⟩ := h; exact ⟨x, VR.mono hle _ _ h1, h2⟩

theorem ModeR.run {g : Gh} {pn : Option AV} {u : FrameMode} (h : ModeR g pn u) : u ≠ .run := by
  cases pn with
  | none => rw [show u = _ from h]; simp
  | some v => obtain ⟨x, h1, rfl⟩ := h; simp

theorem ModeR.settle {g : Gh} {pn : Option AV} {u : FrameMode} (h : ModeR g pn u) : settle u = u := by
  cases pn with
  | none => rw [show u = _ from h]; rfl
  | some v => obtain ⟨x, h1, rfl⟩ := h; rfl

/-- what a program is to be, for walks. -/
structure ProgOK (P : Program) : Prop where
  zero : ZeroOk P
  size : P.funcs.size = nFuncs
  mix : P.follows .mixedOrders = true
  code : ∀ (f : Nat) (fn : Func) (c : Code), P.funcs[f]? = some fn → fn.body = some c → codeOkB fn.ntmps c = true
  res : ∀ (f : Nat) (fn : Func), P.funcs[f]? = some fn → ∀ r ∈ fn.results.toList, ∀ a t, r = ResultVar.cell a t → a < fn.ntmps
  name : ∀ (f : Nat) (fn : Func), P.funcs[f]? = some fn → fn.body.isNone = false → (fn.name == "runtime.NumGoroutine") = false

theorem codeOkB_mono {n m : Nat} (h : n ≤ m) : ∀ (c : Code), codeOkB n c = true → codeOkB m c = true := by
  intro c
  induction c with
  | region id ops dr =>
    intro hc
    refine List.all_eq_true.mpr fun o ho => ?_
    have := (List.all_eq_true.mp (show ops.toList.all (fun o => match o.dst with | some t => Nat.blt t n | none => true) = true from hc)) o ho
    cases hd : o.dst with
    | none => rfl
    | some t => rw [hd] at this; exact Nat.blt_eq.mpr (by have := Nat.blt_eq.mp this; omega)
  | seq a b iha ihb =>
    intro hc
    unfold codeOkB at hc ⊢
    split at hc
    · rename_i h1; rw [iha h1]; exact ihb hc
    · cases hc
  | cond c a b iha ihb =>
    intro hc
    unfold codeOkB at hc ⊢
    split at hc
    · rename_i h1; rw [iha h1]; exact ihb hc
    · cases hc
  | block id c ih => intro hc; unfold codeOkB at hc ⊢; exact ih hc
  | loop c ih => intro hc; unfold codeOkB at hc ⊢; exact ih hc
  | scope c ih => intro hc; unfold codeOkB at hc ⊢; exact ih hc
  | rangeFunc g ps a b iha ihb =>
    intro hc
    unfold codeOkB at hc ⊢
    split at hc
    · rename_i h1 h2
      have : ps.toList.all (fun p => Nat.blt p m) = true := List.all_eq_true.mpr fun p hp => Nat.blt_eq.mpr (by have := Nat.blt_eq.mp ((List.all_eq_true.mp h1) p hp); omega)
      rw [this, iha h2]
      exact ihb hc
    · cases hc
  | _ => intro _; rfl

section
variable {C : Cfg} {call : Call}

theorem base_wide (hP : ProgOK C.P) (hC : CallOK C.P call) (h : Hint) : Base fw C call h := ⟨hC, wideWide, .inl rfl, hP.zero, hP.mix⟩

theorem isRecover_spec {ops : Array Oper} {d : Option Nat} (h : isRecover ops = some d) : ∃ o c, ops = #[o] ∧ o.op = .call c ∧ c.callee = .builtin .recover ∧ o.guard = none ∧ o.dst = d := by
  unfold isRecover at h
  split at h
  · rename_i o hops
    split at h
    · rename_i as ts ho hg
      cases h
      exact ⟨o, _, arr1 hops, ho, rfl, hg, rfl⟩
    · cases h
  · cases h

def afterU (rc : Bool) (u : FrameMode) : FrameMode := match rc with | true => .returning | false => u

/-- what a deferred call leaves. -/
def DfrPost (w : World) (g : Gh) (ow : Ow) (u : FrameMode) (rc : Bool) (H' : Heap) (e : Ending) (u' : FrameMode) (w' : World) : Prop :=
  (∃ v, e = .returned v) ∧ ∃ g' ow', HR w' g' ow' H' ∧ GCons w' g' ∧ BD w' ow' ∧ Fut w g ow w' g' ow' ∧ settle u' = afterU rc u

theorem deferred_ok (hP : ProgOK C.P) (hC : CallOK C.P call) {m f : Nat} {pn : Option AV} {cap : List AV} {H H' : Heap} {rc : Bool} (he : evDeferred C call (iter m) pn f cap H = .ok (rc, H')) {vargs : Array Value} {w : World} {g : Gh} {ow : Ow} {u : FrameMode}
    (hv : VRs g cap vargs.toList) (hr : HR w g ow H) (gc : GCons w g) (bd : BD w ow) (gv : GV g) (hu : ModeR g pn u) :
    Enters C.P f ∧ CallsDIn fw 0 C.P f vargs u w (DfrPost w g ow u rc H') := by
  unfold evDeferred at he
  cases hf : C.P.funcs[f]? with
  | none => rw [hf] at he; cases he
  | some fn =>
    rw [hf] at he
    simp only at he
    obtain ⟨hres, he1⟩ := guardR_ok he
    clear he
    have hres' : fn.results.toList = [] := by
      have : fn.results = #[] := by simpa using hres
      rw [this]
    have hF0 := FR.start (fn.ntmps - vargs.size) hv hr gc bd gv
    have hlt : f < nFuncs := by rw [← hP.size]; exact (Array.getElem?_eq_some_iff.1 hf).1
    -- the end of the code
    have fin : ∀ (rc' : Bool) (u' : FrameMode) (c₀ : Frame) (cs : List Frame) (e : Ex) (st' : St) (g0 : Gh) (ow0 : Ow) (w0 : World), (e = .normal ∨ e = .ret) → st'.defs = [] → st'.heap = H' → rc' = rc → settle u' = afterU rc u → Fut w g ow w0 g0 ow0 →
        ∀ e' a' w' g' sv' ow', ExR g' e e' → FR (vargs ++ Array.replicate (fn.ntmps - vargs.size) undef).size st' a' w' g' sv' ow' → Fut w0 g0 ow0 w' g' ow' → bodyPostS C.P fn c₀ cs (DfrPost w g ow u rc H') e' a' ({ c₀ with mode := u' } :: cs) w' := by
      intro rc' u' c₀ cs e st' g0 ow0 w0 he hdefs hheap hrc hset hfut0 e' a' w' g' sv' ow' f1 f2 f3
      have hd : a'.defers = [] := by have := f2.df; rw [hdefs] at this; exact this
      obtain ⟨q1, q2, q3⟩ := f2.done none
      rw [hheap] at q1
      have hrun := results_run (P := C.P) fn a'.tmps (vs := []) (w := w') (w' := w') (by rw [hres']; rfl)
      have hpost : DfrPost w g ow u rc H' (.returned (tupV [])) u' w' := ⟨⟨_, rfl⟩, g', _, q1, f2.gc, q2, (hfut0.trans f3).trans q3, hset⟩
      rcases he with rfl | rfl
      · cases f1; exact ⟨hd, u', rfl, _, hrun, hpost⟩
      · cases f1; exact ⟨hd, u', rfl, _, hrun, hpost⟩
    -- code that recovers nothing
    have plain : ∀ c, fn.body = some c → dfrEnd false (evCode C call (iter m) f (C.hint f) 0 c (startSt cap H)) = .ok (rc, H') → Enters C.P f ∧ CallsDIn fw 0 C.P f vargs u w (DfrPost w g ow u rc H') := by
      intro c hb hdf
      refine ⟨⟨hlt, fn, hf, by rw [hb]; rfl, hP.name f fn hf (by rw [hb]; rfl)⟩, callsDIn_of_wpSIn hf hb hlt fun c₀ cs hm => ?_⟩
      unfold dfrEnd at hdf
      obtain ⟨⟨e, st'⟩, h1, h2⟩ := Res.bind_ok hdf
      clear hdf
      have hcode := code_wp (base_wide hP hC (C.hint f)) (m := m) (f := f) c 0 (startSt cap H) _ w g _ ow (codeOkB_mono (by simp; omega) c (hP.code f fn c hf hb)) hF0
      rw [h1] at hcode
      have hc₀ : ({ c₀ with mode := u } : Frame) = c₀ := by subst hm; rfl
      refine wpSIn_of_wpIn rfl (hcode _ fun e' a' w' g' sv' ow' f1 f2 f3 => ?_)
      rw [← hc₀]
      have hs : (e = .normal ∨ e = .ret) ∧ st'.defs = [] ∧ st'.heap = H' ∧ false = rc := by
        simp only at h2
        split at h2
        · rename_i hd; cases h2; exact ⟨.inl rfl, hd, rfl, rfl⟩
        · rename_i hd; cases h2; exact ⟨.inr rfl, hd, rfl, rfl⟩
        · cases h2
      have := fin rc u c₀ cs e st' g ow w hs.1 hs.2.1 hs.2.2.1 rfl (by rw [← hs.2.2.2]; exact hu.settle) (Fut.refl _ _ _) e' a' w' g' sv' ow' f1 f2 f3
      exact this
    split at he1
    · rename_i id ops c hb
      cases hrec : isRecover ops with
      | none => rw [hrec] at he1; exact plain _ hb he1
      | some d =>
        rw [hrec] at he1
        simp only at he1
        obtain ⟨o, cl, hops, ho, hcl, hgd, hdst⟩ := isRecover_spec hrec
        subst hops
        refine ⟨⟨hlt, fn, hf, by rw [hb]; rfl, hP.name f fn hf (by rw [hb]; rfl)⟩, callsDIn_of_wpSIn hf hb hlt fun c₀ cs hm => ?_⟩
        unfold dfrEnd at he1
        obtain ⟨⟨e, st'⟩, h1, h2⟩ := Res.bind_ok he1
        clear he1
        have hcok := hP.code f fn _ hf hb
        have hcok2 : codeOkB fn.ntmps (.region id #[o] false) = true ∧ codeOkB fn.ntmps c = true := by
          unfold codeOkB at hcok
          split at hcok
          · rename_i h3; exact ⟨h3, hcok⟩
          · cases hcok
        have hsz : fn.ntmps ≤ (vargs ++ Array.replicate (fn.ntmps - vargs.size) undef).size := by simp; omega
        have hdlt : ∀ t, d = some t → t < (vargs ++ Array.replicate (fn.ntmps - vargs.size) undef).size := by
          intro t ht
          have := (List.all_eq_true.mp hcok2.1) o (by simp)
          rw [hdst, ht] at this
          have := Nat.blt_eq.mp this
          omega
        have hrun : (execOp ({ tmps := vargs ++ Array.replicate (fn.ntmps - vargs.size) undef, defers := [] } : Act).eval o).run C.P w = .ok .recover w := by
          simp [execOp, ho, resolve, hcl, invoke, builtin]
        have hs : (e = .normal ∨ e = .ret) ∧ st'.defs = [] ∧ st'.heap = H' ∧ pn.isSome = rc := by
          simp only at h2
          split at h2
          · rename_i hd; cases h2; exact ⟨.inl rfl, hd, rfl, rfl⟩
          · rename_i hd; cases h2; exact ⟨.inr rfl, hd, rfl, rfl⟩
          · cases h2
        -- behind recover
        have rest : ∀ (x : AV) (v : Value) (u' : FrameMode), VR g x v → x = recV pn → settle u' = afterU rc u →
            Code.wpSIn fw 0 C.P c (bodyPostS C.P fn c₀ cs (DfrPost w g ow u rc H')) (({ tmps := vargs ++ Array.replicate (fn.ntmps - vargs.size) undef, defers := [] } : Act).put d v) ({ c₀ with mode := u' } :: cs) w := by
          intro x v u' hxv hx hset
          obtain ⟨ow1, k1, k2⟩ := hF0.free (d := d) hdlt (VR.free hxv) trivial
          have hcode := code_wp (base_wide hP hC (C.hint f)) (m := m) (f := f) c 0 (applyEff (startSt cap H) d { dst := .v x }) _ w g _ ow1 (codeOkB_mono hsz c hcok2.2) k1
          have hst : applyEff (startSt cap H) d { dst := .v x } = { startSt cap H with tmps := putT (startT cap 0) d (.v (recV pn)) } := by
            rw [hx]; rfl
          rw [hst, h1] at hcode
          refine wpSIn_of_wpIn rfl (hcode _ fun e' a' w' g' sv' ow' f1 f2 f3 => ?_)
          exact fin rc u' c₀ cs e st' g ow1 w hs.1 hs.2.1 hs.2.2.1 rfl hset k2 e' a' w' g' sv' ow' f1 f2 f3
        refine wpSIn_seq (wpSIn_region ?_)
        show wpOpsSIn fw 0 C.P #[o] _ [0] _ (c₀ :: cs) w
        unfold wpOpsSIn
        simp only [List.getElem?_toArray, List.getElem?_cons_zero]
        refine ⟨about_none (about_local (by simp [isLocal, ho, hcl])), ?_⟩
        have hwant : Region.wanted o (yielded #[o] ({ tmps := vargs ++ Array.replicate (fn.ntmps - vargs.size) undef, defers := [] } : Act).tmps) = true := by simp [Region.wanted, hgd]
        rw [if_pos hwant, hrun]
        simp only
        cases hpn : pn with
        | none =>
          rw [hpn] at hu hs rest
          have hu' : u = .returning := hu
          have hrd : recoverD (c₀ :: cs) = none := by
            simp only [recoverD, hm, hu']
          rw [hrd, hdst]
          have hc₀ : ({ c₀ with mode := u } : Frame) = c₀ := by subst hm; rfl
          have := rest .nili .nilIface u rfl rfl (by rw [← hs.2.2.2]; exact hu.settle)
          rw [hc₀] at this
          exact this
        | some v =>
          rw [hpn] at hu hs rest
          obtain ⟨x, hx, hu'⟩ := hu
          have hrd : recoverD (c₀ :: cs) = some (x, { c₀ with mode := .panicking [{ v := x, recovered := true }] } :: cs) := by
            simp only [recoverD, hm, hu']
          rw [hrd, hdst]
          exact rest v x _ hx rfl (by rw [← hs.2.2.2]; rfl)
    · rename_i c hb _
      exact plain c (by assumption) he1
    · cases he1

end
end Go.Sw
/-! Functions. -/
namespace Go.Sw
open Go

section
variable {C : Cfg} {call : Call}

theorem leave_ok (hP : ProgOK C.P) (hC : CallOK C.P call) {m n : Nat} {fn : Func} {R : Ending → World → Prop} {st : St} : ∀ (l : List Dfr) (pn : Option AV) (H : Heap) (a : Act) (w : World) (g : Gh) (sv : Nat → Option Nat) (ow : Ow) (u : FrameMode) (pn' : Option AV) (H' : Heap),
    evLeave C call (iter m) l pn H = .ok (pn', H') → FR n { st with heap := H, defs := l } a w g sv ow → ModeR g pn u →
    (∀ a' w' g' sv' ow' u', FR n { st with heap := H', defs := [] } a' w' g' sv' ow' → a'.tmps = a.tmps → ModeR g' pn' u' → Fut w g ow w' g' ow' → LeavesInM fw 0 C.P fn a.tmps R [] u' w') → LeavesInM fw 0 C.P fn a.tmps R a.defers u w
  | [], pn, H, a, w, g, sv, ow, u, pn', H', he, hF, hu, hR => by
    unfold evLeave at he
    cases he
    have hd : a.defers = [] := hF.df
    rw [hd]
    exact hR a w g sv ow u hF rfl hu (Fut.refl _ _ _)
  | .mark :: l, pn, H, a, w, g, sv, ow, u, pn', H', he, hF, hu, hR => by
    unfold evLeave at he
    obtain ⟨r, d, ds, w1, ow1, h1, h2, h3, h4, h5⟩ := FR.takeMark (P := C.P) (st := { st with heap := H }) hF
    rw [h1]
    refine ⟨hu.run, .inl ⟨r, w1, h2, h3, ?_⟩⟩
    exact leave_ok hP hC l pn H { a with defers := ds } w1 g sv ow1 u pn' H' he h4 hu (fun a' w' g' sv' ow' u' k1 k2 k3 k4 => hR a' w' g' sv' ow' u' k1 k2 k3 (h5.trans k4))
  | .clo f cap :: l, pn, H, a, w, g, sv, ow, u, pn', H', he, hF, hu, hR => by
    unfold evLeave at he
    obtain ⟨⟨rc, H1⟩, h1, h2⟩ := Res.bind_ok he
    clear he
    obtain ⟨vs, ds, e1, e2, e3⟩ := hF.df
    rw [e1]
    have hF1 : FR n { st with heap := H, defs := l } { a with defers := ds } w g sv ow := ⟨hF.sz, hF.gc, hF.tm, hF.lk, hF.lc, hF.hr, e3, hF.bd, hF.gv⟩
    obtain ⟨o1, o2, o3⟩ := hF1.out
    obtain ⟨k1, k2⟩ := deferred_ok hP hC h1 (vargs := #[] ++ vs) (by simpa using e2) o1 o2 o3 hF1.gv hu
    refine ⟨hu.run, .inr ⟨(fun h => by cases h), .func f, vs, f, #[] ++ vs, rfl, ?_, (fun f' hf' => by simp [Target.leads] at hf'; subst hf'; exact k1.1), CallsDIn.mono k2 fun e u' w' hpost => ?_⟩⟩
    · simp [invoke, k1.run]
    · obtain ⟨⟨v, rfl⟩, g', ow', q1, q2, q3, q4, q5⟩ := hpost
      obtain ⟨b1, b2⟩ := hF1.back (d := none) (by simp) (v := undef) (r := .undef) q4 q1 q2 q3 trivial rfl
      have b1' : FR n { st with heap := H1, defs := l } { a with defers := ds } w' g' sv (owB none ow ow') := ⟨b1.sz, b1.gc, b1.tm, b1.lk, b1.lc, b1.hr, b1.df, b1.bd, b1.gv⟩
      show LeavesInM fw 0 C.P fn a.tmps R ds (settle u') w'
      rw [q5]
      refine leave_ok hP hC l _ H1 { a with defers := ds } w' g' sv _ _ pn' H' h2 b1' ?_ (fun a' w'' g'' sv'' ow'' u'' k1 k2 k3 k4 => hR a' w'' g'' sv'' ow'' u'' k1 k2 k3 (b2.trans k4))
      cases rc with
      | true => exact rfl
      | false => exact hu.mono b2.le

theorem resultsS_two {P : Program} {st : St} (r r2 : ResultVar) (rs : List ResultVar) : resultsS P st (r :: r2 :: rs) = (resultsL P st (r :: r2 :: rs)).bind fun ss => .ok (ss, st.heap) := by
  cases r <;> rfl

theorem resultsS_defs {P : Program} {st : St} {l : List Dfr} (rs : List ResultVar) : resultsS P { st with defs := l } rs = resultsS P st rs := by
  have hL : ∀ rs, resultsL P { st with defs := l } rs = resultsL P st rs := by
    intro rs
    induction rs with
    | nil => rfl
    | cons r rs ih =>
      unfold resultsL
      rw [ih]
      have : resultV P { st with defs := l } r = resultV P st r := by cases r <;> rfl
      rw [this]
  match rs with
  | [] => rfl
  | [.tmp t] => rfl
  | [.cell a t] => rfl
  | r :: r2 :: rs =>
    rw [resultsS_two, resultsS_two, hL]

theorem fun_ok (hP : ProgOK C.P) (hC : CallOK C.P call) {m f : Nat} {xs : List AV} {H : Heap} {args : Array Value} {w : World} {g : Gh} {ow : Ow} {R : Ending → World → Prop}
    (hv : VRs g xs args.toList) (hr : HR w g ow H) (gc : GCons w g) (bd : BD w ow) (gv : GV g) (hR : ResPost w g ow (evFun C call (iter m) f xs H) = some R) : Enters C.P f ∧ CallsIn fw 0 C.P f args w R := by
  unfold evFun at hR
  cases hf : C.P.funcs[f]? with
  | none => rw [hf] at hR; cases hR
  | some fn =>
    rw [hf] at hR
    simp only at hR
    cases hb : fn.body with
    | none => rw [hb] at hR; cases hR
    | some c =>
      rw [hb] at hR
      simp only at hR
      have hF0 := FR.start (fn.ntmps - args.size) hv hr gc bd gv
      have hsz : fn.ntmps ≤ (args ++ Array.replicate (fn.ntmps - args.size) undef).size := by simp; omega
      have hcode := code_wp (base_wide hP hC (C.hint f)) (m := m) (f := f) c 0 (startSt xs H) _ w g _ ow (codeOkB_mono hsz c (hP.code f fn c hf hb)) hF0
      have hlt : f < nFuncs := by rw [← hP.size]; exact (Array.getElem?_eq_some_iff.1 hf).1
      refine ⟨⟨hlt, fn, hf, by rw [hb]; rfl, hP.name f fn hf (by rw [hb]; rfl)⟩, callsIn_of_wp_marks hf hb hlt ?_⟩
      cases hr1 : evCode C call (iter m) f (C.hint f) 0 c (startSt xs H) with
      | panic x H1 => exact absurd hr1 (code_np c 0 _)
      | bad _ => rw [hr1] at hR; cases hR
      | oof => rw [hr1] at hR; cases hR
      | ok p =>
        obtain ⟨e, st⟩ := p
        rw [hr1] at hR hcode
        simp only [Res.bind] at hR
        -- the end
        have fin : ∀ (pn : Option AV), ResPost w g ow (funEnd C call (iter m) fn.results.toList st pn) = some R → ∀ (a' : Act) (w' : World) (g' : Gh) (sv' : Nat → Option Nat) (ow' : Ow) (u : FrameMode), FR (args ++ Array.replicate (fn.ntmps - args.size) undef).size st a' w' g' sv' ow' → Fut w g ow w' g' ow' → ModeR g' pn u →
            LeavesInM fw 0 C.P fn a'.tmps R a'.defers u w' := by
          intro pn hR a' w' g' sv' ow' u f1 f2 f3
          unfold funEnd at hR
          cases hl : evLeave C call (iter m) st.defs pn st.heap with
          | bad _ => rw [hl] at hR; cases hR
          | oof => rw [hl] at hR; cases hR
          | panic x H1 =>
            exfalso
            have nolv : ∀ (l : List Dfr) (pn : Option AV) (H : Heap), evLeave C call (iter m) l pn H ≠ .panic x H1 := by
              intro l
              induction l with
              | nil => intro pn H h; unfold evLeave at h; cases h
              | cons d l ih =>
                intro pn H h
                cases d with
                | mark => unfold evLeave at h; exact ih pn H h
                | clo f cap =>
                  unfold evLeave at h
                  cases hd : evDeferred C call (iter m) pn f cap H with
                  | ok p => rw [hd] at h; exact ih _ _ h
                  | bad _ => rw [hd] at h; cases h
                  | oof => rw [hd] at h; cases h
                  | panic y H2 =>
                    have dnp : ∀ (b : Bool) (r : Res (Ex × St)), (∀ y H, r ≠ .panic y H) → ∀ y H, dfrEnd b r ≠ .panic y H := by
                      intro b r hr y H h
                      unfold dfrEnd at h
                      cases hrr : r with
                      | ok p =>
                        obtain ⟨e, st⟩ := p
                        rw [hrr] at h
                        simp only [Res.bind] at h
                        split at h <;> cases h
                      | panic y H => exact hr _ _ hrr
                      | bad _ => rw [hrr] at h; cases h
                      | oof => rw [hrr] at h; cases h
                    unfold evDeferred at hd
                    split at hd
                    · cases hd
                    · unfold guardR at hd
                      split at hd
                      · split at hd
                        · split at hd
                          · exact dnp _ _ (fun _ _ => code_np _ _ _) _ _ hd
                          · exact dnp _ _ (fun _ _ => code_np _ _ _) _ _ hd
                        · exact dnp _ _ (fun _ _ => code_np _ _ _) _ _ hd
                        · cases hd
                      · cases hd
            exact nolv _ _ _ hl
          | ok p =>
            obtain ⟨pn', H1⟩ := p
            rw [hl] at hR
            simp only [Res.bind] at hR
            have f1' : FR (args ++ Array.replicate (fn.ntmps - args.size) undef).size { st with heap := st.heap, defs := st.defs } a' w' g' sv' ow' := f1
            refine leave_ok hP hC (st := st) st.defs pn st.heap a' w' g' sv' ow' u pn' H1 hl f1' f3 (fun a2 w2 g2 sv2 ow2 u2 k1 k2 k3 k4 => ?_)
            rw [← k2]
            show LeavesIn fw 0 C.P fn a2.tmps R [] u2 w2
            cases hpn : pn' with
            | some v =>
              rw [hpn] at hR k3
              simp only [ResPost, Option.some.injEq] at hR
              obtain ⟨x, hx, rfl⟩ := k3
              obtain ⟨q1, q2, q3⟩ := k1.done none
              show R (.panicked _) w2
              rw [← hR]
              exact ⟨g2, _, x, rfl, hx, q1, k1.gc, q2, (f2.trans k4).trans q3⟩
            | none =>
              rw [hpn] at hR k3
              have hu2 : u2 = .returning := k3
              subst hu2
              simp only at hR
              cases hrs : resultsS C.P { st with heap := H1 } fn.results.toList with
              | ok q =>
                obtain ⟨l, H2⟩ := q
                rw [hrs] at hR
                simp only [guardR] at hR
                cases hall : l.all retOk with
                | false => rw [hall] at hR; cases hR
                | true =>
                  rw [hall] at hR
                  simp only [ResPost, Option.some.injEq] at hR
                  have hrs' : resultsS C.P { st with heap := H1, defs := [] } fn.results.toList = .ok (l, H2) := by
                    rw [← hrs]; exact resultsS_defs (st := { st with heap := H1 }) _
                  obtain ⟨v, ow3, z1, z2, z3, z4, z5, z6⟩ := results_ok k1 hrs' hall (fun r hr x t e => Nat.lt_of_lt_of_le (hP.res f fn hf r hr x t e) hsz)
                  refine ⟨v, z1, ?_⟩
                  rw [← hR]
                  exact ⟨g2, ow3, z2, z3, z4, k1.gc, z5, (f2.trans k4).trans z6⟩
              | panic y H2 =>
                exfalso
                have lnp : ∀ (tk : Bool) (t : Nat) (p : Slot) (E : Env), NP (evLoad C.P tk t p E) := by intro tk t p E; unfold evLoad; (repeat (first | exact NP.ok | exact NP.bad | exact NP.opt | exact NP.av | exact NP.args | refine NP.guard ?_ | refine NP.bind ?_ (fun _ => ?_) | refine NP.bind' ?_ (fun _ => ?_) | split))
                have vnp : ∀ r, NP (resultV C.P { st with heap := H1 } r) := by
                  intro r
                  cases r with
                  | tmp t => exact NP.ok
                  | cell a t => exact NP.bind' (lnp _ _ _ _) fun _ => NP.ok
                have rnp : ∀ rs, NP (resultsL C.P { st with heap := H1 } rs) := by
                  intro rs
                  induction rs with
                  | nil => exact NP.ok
                  | cons r rs ih => exact NP.bind' (vnp r) fun _ => NP.bind' ih fun _ => NP.ok
                have snp : NP (resultsS C.P { st with heap := H1 } fn.results.toList) := by
                  match fn.results.toList with
                  | [] => exact NP.ok
                  | [.tmp t] => exact NP.ok
                  | [.cell a t] => exact NP.bind' (lnp _ _ _ _) fun _ => NP.ok
                  | r :: r2 :: rs => rw [resultsS_two]; exact NP.bind' (rnp _) fun _ => NP.ok
                exact snp _ _ hrs
              | bad _ => rw [hrs] at hR; cases hR
              | oof => rw [hrs] at hR; cases hR
        refine hcode _ fun e' a' w' g' sv' ow' f1 f2 f3 => ?_
        cases e with
        | normal => cases f1; exact fin none hR a' w' g' sv' ow' _ f2 f3 rfl
        | exit id => cases hR
        | ret => cases f1; exact fin none hR a' w' g' sv' ow' _ f2 f3 rfl
        | panic v =>
          obtain ⟨x, hx, rfl⟩ := f1
          exact fin (some v) hR a' w' g' sv' ow' _ f2 f3 ⟨x, hx, rfl⟩

end
end Go.Sw
/-! Rounds of a range over a function. -/
namespace Go.Sw
open Go

/-- what is asked at a round's end; a panic goes up. -/
def roundPostP (P : Program) (l : Nat) (R : Ending → World → Prop) : Exit → Act → World → Prop
  | .panic chain, a, w => a.defers = [] ∧ R (.panicked chain) w
  | e, a, w => roundPost P l R e a w

theorem roundIn_of_wpInP {F : Fence} {n : Nat} {P : Program} {l : Nat} {f : FuncId} {tmps : Array Value} {assign body : Code} {w : World} {R : Ending → World → Prop} (hF : F.fn f) (hfn : ∃ fn, P.funcs[f]? = some fn)
    (h : assign.wpIn (F.inRound l) n P (Exit.then (fun a₁ w₁ => ∃ w₂, (Instr.beginRound l).run P w₁ = .ok () w₂ ∧ body.wpIn (F.inRound l) n P (roundPostP P l R) a₁ w₂) (fun _ _ _ => False))
      { tmps := tmps, defers := [] } w) :
    RoundIn F n P l f tmps assign body w R := by
  refine ⟨hF, fun c cs hr => ?_⟩
  let b : Frame := { (default : Frame) with fn := f, kind := .normal, roundOf := some l }
  have hb0 : Frame.round l f tmps assign body .normal = b.atR { tmps := tmps, defers := [] } [.code assign, .beginRound, .code body] := by
    simp [Frame.round, Frame.atR, b]
  have hr' : (F.inRound l).room ((c :: cs).length + 1 + n) := hr
  have hF' : (F.inRound l).fn b.fn := hF
  obtain ⟨e, a₁, w₁, hq, harr⟩ := h b [.beginRound, .code body] (c :: cs) rfl hF' hr'
  rw [← hb0] at harr
  cases e with
  | normal =>
    obtain ⟨w₂, hbr, hbody⟩ := hq
    have s1 : StepsIn (Machine.fenced P (F.inRound l)) P (lone (b.atR a₁ [.beginRound, .code body]) (c :: cs) w₁) (lone (b.atR a₁ [.code body]) (c :: cs) w₂) :=
      .one (fenced_calm (fr := b.atR a₁ [.beginRound, .code body]) hF' hr' rfl) (stepR_beginRound rfl hbr)
    obtain ⟨e₂, a₂, w₃, hq₂, harr₂⟩ := hbody b [] (c :: cs) rfl hF' hr'
    cases e₂ with
    | normal =>
      obtain ⟨v, w₄, hend, hR⟩ := hq₂
      exact ⟨.returned v, w₄, hR, (StepsIn.trans harr s1).trans (StepsIn.trans harr₂ (.one (fenced_calm (fr := b.atR a₂ []) hF' hr' rfl) (stepR_round_end rfl rfl hend)))⟩
    | ret =>
      obtain ⟨v, w₄, hend, hR⟩ := hq₂
      obtain ⟨k₁, hs⟩ := harr₂.2 rfl
      exact ⟨.returned v, w₄, hR, (StepsIn.trans harr s1).trans (StepsIn.trans hs (.one (fenced_calm (fr := b.atR a₂ (.code .ret :: k₁)) hF' hr' rfl) (stepR_round_ret rfl rfl hend)))⟩
    | exit id =>
      obtain ⟨v, w₄, hend, hR⟩ := hq₂
      obtain ⟨k₁, hk, hs⟩ := harr₂.2 rfl rfl
      exact ⟨.returned v, w₄, hR, (StepsIn.trans harr s1).trans (StepsIn.trans hs (.one (fenced_calm (fr := b.atR a₂ (.code (.exit id) :: k₁)) hF' hr' rfl) (stepR_round_exit rfl rfl hk hend)))⟩
    | goto t =>
      obtain ⟨v, w₄, hend, hR⟩ := hq₂
      obtain ⟨k₁, hk, hs⟩ := harr₂.2 rfl rfl
      exact ⟨.returned v, w₄, hR, (StepsIn.trans harr s1).trans (StepsIn.trans hs (.one (fenced_calm (fr := b.atR a₂ (.code (.goto t) :: k₁)) hF' hr' rfl) (stepR_round_goto rfl rfl hk hend)))⟩
    | panic chain =>
      obtain ⟨hd, hR⟩ := hq₂
      obtain ⟨todo, hs⟩ := harr₂
      refine ⟨.panicked chain, w₃, hR, (StepsIn.trans harr s1).trans (StepsIn.trans hs (.one (fenced_calm (fr := { b.atR a₂ todo with mode := .panicking chain }) hF' hr' ?_) (step_leave_panicked ⟨rfl, hd, hfn⟩)))⟩
      simp [Frame.about, Frame.atR, hd]
    | outgrown => exact hq₂.elim
  | exit id => exact hq.elim
  | goto t => exact hq.elim
  | ret => exact hq.elim
  | panic chain => exact hq.elim
  | outgrown => exact hq.elim

section
variable {C : Cfg} {call : Call} {w : World} {g : Gh} {ow : Ow}

theorem getA_map (ts : List (Nat × AV)) (t : Nat) : getT (ts.map fun p => (p.1, Slot.v p.2)) t = match getA ts t with | some x => .v x | none => .undef := by
  induction ts with
  | nil => rfl
  | cons p l ih =>
    obtain ⟨k, x⟩ := p
    simp only [List.map_cons, getT_cons, getA]
    rcases beq_cases k t with ⟨hb, e⟩ | ⟨hb, e⟩
    · rw [if_pos e, hb]
    · rw [if_neg e, hb]
      exact ih

theorem setParams_get : ∀ (ps : List Nat) (xs : List AV) (ts : List (Nat × AV)) (tmps : Array Value) (vs : List Value), VRs g xs vs → xs.length = ps.length → (∀ p ∈ ps, p < tmps.size) →
    (∀ t x, getA ts t = some x → VR g x (tmps.getD t undef)) →
    ((ps.zip vs).foldl (fun (tmps : Array Value) (p : Nat × Value) => tmps.setIfInBounds p.1 p.2) tmps).size = tmps.size ∧
    ∀ t x, getA (setParams ps xs ts) t = some x → VR g x (((ps.zip vs).foldl (fun (tmps : Array Value) (p : Nat × Value) => tmps.setIfInBounds p.1 p.2) tmps).getD t undef)
  | [], xs, ts, tmps, vs, hv, hl, hp, h => by
    have : xs = [] := List.length_eq_zero_iff.mp (by simpa using hl)
    subst this
    exact ⟨rfl, h⟩
  | p :: ps, xs, ts, tmps, vs, hv, hl, hp, h => by
    cases xs with
    | nil => simp at hl
    | cons x xs =>
      obtain ⟨v, vs', rfl, h1, h2⟩ := hv
      have ih := setParams_get ps xs ((p, x) :: ts) (tmps.setIfInBounds p v) vs' h2 (by simpa using hl) (fun q hq => by simpa using hp q (by simp [hq])) (fun t y hy => by
        unfold getA at hy
        rcases beq_cases p t with ⟨hb, e⟩ | ⟨hb, e⟩
        · rw [hb] at hy
          cases hy
          subst e
          rw [getD_put, if_pos ⟨rfl, hp p (by simp)⟩]
          exact h1
        · rw [hb] at hy
          rw [getD_put, if_neg (fun hh => e hh.1)]
          exact h t y hy)
      simp only [List.zip_cons_cons, List.foldl_cons, setParams]
      exact ⟨by rw [ih.1]; simp, ih.2⟩

/-- a round begins: the loop's record is nobody's while it lasts. -/
theorem FR.toBusy {n : Nat} {st : St} {a : Act} {sv : Nat → Option Nat} (hF : FR n st a w g sv ow) {r B : Nat} {L : LoopO} (hr : st.heap[r]? = some (HO.loop L)) (hB : g.rf r = some B) {lo : Loop} (hw : w.heap[B]? = some (.loop lo)) (lo' : Loop) :
    FR n { st with heap := st.heap.set r .busy } a { w with heap := w.heap.setIfInBounds B (.loop lo') } g sv (fun x => if x = B then some ⟨.ctx, []⟩ else ow x) ∧
      Fut w g ow { w with heap := w.heap.setIfInBounds B (.loop lo') } g (fun x => if x = B then some ⟨.ctx, []⟩ else ow x) := by
  obtain ⟨B', lo0, h1, h2, h3, h4⟩ := hF.hr.ob r _ hr
  rw [hB] at h1
  cases h1
  have hBlt := hF.bd B _ h2
  have ht : Touch B w { w with heap := w.heap.setIfInBounds B (.loop lo') } :=
    ⟨fun B' hne hlt => by simp [Ne.symm hne], by simp, by simpa using hBlt, rfl, rfl, rfl⟩
  have hno : ∀ o y, ¬ g.im B o y := fun o y h => by
    obtain ⟨v, hv, _⟩ := hF.gc B o y h
    simp [World.cell?, h3] at hv
  have hne : ∀ B' h, ow B' = some h → h.root ≠ .hobj r → B' ≠ B := fun B' h hh hr e => by subst e; rw [h2] at hh; cases hh; exact hr rfl
  obtain ⟨q1, q2⟩ := hF.obj_step (d := none) (by simp) (r := r) (B := B) (x' := .busy) (len_of_get hr) (fun h hh => by rw [h2] at hh; cases hh; rfl) hno (w' := { w with heap := w.heap.setIfInBounds B (.loop lo') }) (g' := g)
    (ow' := fun x => if x = B then some ⟨.ctx, []⟩ else ow x)
    (e := { dst := .undef, heap := some (st.heap.set r .busy) }) (v' := undef) ht (Gh.le.refl g) (fun _ _ _ h => h) rfl (fun _ _ => rfl) rfl rfl
    (fun B' k h => by
      split at h
      · rename_i e; subst e; exact ht.lt
      · exact Nat.lt_of_lt_of_le (hF.bd B' k h) ht.sz)
    (fun B' h hh _ _ hr => by simp only [if_neg (hne B' h hh hr)]; exact hh) (fun B' t p hh _ _ => by simp only [if_neg (hne B' _ hh (by simp))]; exact hh)
    trivial (by simp) (by simp) rfl
  exact ⟨⟨q1.sz, q1.gc, q1.tm, q1.lk, q1.lc, q1.hr, q1.df, q1.bd, q1.gv⟩, q2⟩

/-- a round ends: the record is the heap's again. -/
theorem FR.fromBusy {n : Nat} {st : St} {a : Act} {sv : Nat → Option Nat} (hF : FR n st a w g sv ow) {r B : Nat} {L' : LoopO} {lo lo' : Loop} (hr : st.heap[r]? = some HO.busy) (hB : g.rf r = some B) (hBo : ow B = some ⟨.ctx, []⟩)
    (hw : w.heap[B]? = some (.loop lo)) (hL : LoopR g L' lo') :
    FR n { st with heap := st.heap.set r (.loop L') } a { w with heap := w.heap.setIfInBounds B (.loop lo') } g sv (fun x => if x = B then some ⟨.hobj r, []⟩ else ow x) := by
  have hBlt := hF.bd B _ hBo
  have ht : Touch B w { w with heap := w.heap.setIfInBounds B (.loop lo') } :=
    ⟨fun B' hne hlt => by simp [Ne.symm hne], by simp, by simpa using hBlt, rfl, rfl, rfl⟩
  have hno : ∀ o y, ¬ g.im B o y := fun o y h => by
    obtain ⟨v, hv, _⟩ := hF.gc B o y h
    simp [World.cell?, hw] at hv
  have hne : ∀ B' r' q, ow B' = some ⟨r', q⟩ → r' ≠ .ctx → B' ≠ B := fun B' r' q hh hr e => by subst e; rw [hBo] at hh; cases hh; exact hr rfl
  have hk : Keeps (fun r' => r' ≠ .ctx) w g ow { w with heap := w.heap.setIfInBounds B (.loop lo') } g (fun x => if x = B then some ⟨.hobj r, []⟩ else ow x) :=
    ⟨Gh.le.refl g, fun B' r' q hp hh => ⟨by simp only [if_neg (hne B' r' q hh hp)]; exact hh, ht.oth _ (hne B' r' q hh hp) (hF.bd _ _ hh), fun _ _ h => h⟩⟩
  refine ⟨hF.sz, ht.gc hF.gc (Gh.le.refl g) (fun o y h => absurd h (hno o y)) (fun _ _ _ _ h => h), fun t => SR.keeps hk (by simp) (fun _ _ h => h) (hF.tm t), hF.lk, fun s cs h => (hF.lc s cs h).keeps hk (by simp) (fun o => by simp) (fun _ h => h),
    ⟨fun r' o h => ?_, fun r' h => hF.hr.nf r' (by simpa using h)⟩, DR.keeps hk (by simp) _ _ hF.df, fun B' k h => ?_, hF.gv⟩
  · by_cases hr' : r' = r
    · subst hr'
      rw [List.getElem?_set_self (len_of_get hr)] at h
      cases h
      exact ⟨B, lo', hB, by simp, by simp [hBlt], hL⟩
    · rw [List.getElem?_set_ne (fun e => hr' e.symm)] at h
      exact (hF.hr.ob r' o h).keeps hk (by simp) (fun o => by simp) (fun _ h => h) (fun _ _ h => h)
  · split at h
    · rename_i e; subst e; exact ht.lt
    · exact Nat.lt_of_lt_of_le (hF.bd B' k h) ht.sz

theorem run_beginRound {P : Program} {B : Nat} {lo : Loop} (h : w.heap[B]? = some (.loop lo)) (hs : lo.state = .ready) :
    (Instr.beginRound B).run P w = .ok () { w with heap := w.heap.setIfInBounds B (.loop { lo with state := .busy }) } := by
  simp [Instr.beginRound, Instr.getLoop, getObj, setObj, Sem.run, h, Result.andThen, hs]

theorem run_endRound {P : Program} {B : Nat} {lo : Loop} (h : w.heap[B]? = some (.loop lo)) (j : Option Code) :
    (Instr.endRound B j).run P w = .ok (.bool j.isNone) { w with heap := w.heap.setIfInBounds B (.loop { lo with state := if j.isNone then .ready else .done, pending := j }) } := by
  simp [Instr.endRound, Instr.getLoop, getObj, setObj, Sem.run, h, Result.andThen]

theorem wide_inRound (B : Nat) : Wide (fw.inRound B) := ⟨rfl, rfl, rfl⟩

theorem base_round (hP : ProgOK C.P) (hC : CallOK C.P call) (h : Hint) (B : Nat) : Base (fw.inRound B) C call { h with rnd := true } := ⟨hC, wide_inRound B, .inr rfl, hP.zero, hP.mix⟩

theorem round_ok (hP : ProgOK C.P) (hC : CallOK C.P call) {m l B : Nat} {xs : List AV} {H : Heap} {args : Array Value} {R : Ending → World → Prop}
    (hv : VRs g xs args.toList) (hr : HR w g ow H) (gc : GCons w g) (bd : BD w ow) (gv : GV g) (hB : g.rf l = some B) (hR : ResPost w g ow (evRound C call (iter m) l xs H) = some R) :
    ∃ f tmps as bd w1, (Instr.yield B args).run C.P w = .ok (.round B f tmps as bd) w1 ∧ RoundIn fw 0 C.P B f tmps as bd w1 R := by
  unfold evRound at hR
  cases hH : H[l]? with
  | none => rw [hH] at hR; cases hR
  | some ob =>
    rw [hH] at hR
    cases ob with
    | loop L =>
      simp only at hR
      cases hg : (Nat.beq L.state 0 && Nat.beq xs.length L.params.length) with
      | false => rw [hg] at hR; cases hR
      | true =>
        rw [hg] at hR
        simp only [guardR] at hR
        simp only [Bool.and_eq_true] at hg
        have hst := Nat.eq_of_beq_eq_true hg.1
        have hlen := Nat.eq_of_beq_eq_true hg.2
        obtain ⟨B', lo, h1, h2, h3, h4⟩ := hr.ob l _ hH
        rw [hB] at h1
        cases h1
        obtain ⟨⟨l0, l1, l2, l3⟩, l4, l5, l6, l7, l8, l9⟩ := h4
        have hargs : args.size = lo.params.size := by
          have e1 : args.toList.length = xs.length := by
            have : ∀ (l : List AV) (vs : List Value), VRs g l vs → vs.length = l.length := by
              intro l
              induction l with
              | nil => intro vs h; cases h; rfl
              | cons x l ih => intro vs h; obtain ⟨v, vs', rfl, _, h⟩ := h; simp [ih vs' h]
            exact this _ _ hv
          have e2 : lo.params.toList.length = L.params.length := by rw [l4]
          simp at e1 e2
          omega
        have hyield : (Instr.yield B args).run C.P w = .ok (.round B lo.fn ((lo.params.zip args).foldl (fun tmps (p : Nat × Value) => tmps.setIfInBounds p.1 p.2) lo.tmps) lo.assign lo.body) w := by
          simp [Instr.yield, Instr.getLoop, getObj, Sem.run, h3, Result.andThen, hargs]
        refine ⟨_, _, _, _, _, hyield, ?_⟩
        -- the round's frame
        have hfold : (lo.params.zip args).foldl (fun tmps (p : Nat × Value) => tmps.setIfInBounds p.1 p.2) lo.tmps = (L.params.zip args.toList).foldl (fun tmps (p : Nat × Value) => tmps.setIfInBounds p.1 p.2) lo.tmps := by
          rw [← Array.foldl_toList, Array.toList_zip, l4]
        obtain ⟨s1, s2⟩ := setParams_get L.params xs L.tmps lo.tmps args.toList hv hlen l3 l9
        rw [← hfold] at s1 s2
        have hF0 : FR lo.tmps.size { tmps := (setParams L.params xs L.tmps).map (fun p => (p.1, .v p.2)), locs := [], heap := H, wl := [], ht := false, defs := [] }
            { tmps := (lo.params.zip args).foldl (fun tmps (p : Nat × Value) => tmps.setIfInBounds p.1 p.2) lo.tmps, defers := [] } w g (fun _ => none) ow := by
          refine ⟨s1, gc, fun t => ?_, fun t => ?_, fun s cs h => (by cases h), hr, rfl, bd, gv⟩
          · simp only [getA_map]
            cases hx : getA (setParams L.params xs L.tmps) t with
            | none => trivial
            | some x => exact s2 t x hx
          · simp only [getA_map]
            cases hx : getA (setParams L.params xs L.tmps) t <;> trivial
        have hfn : ∃ fn, C.P.funcs[lo.fn]? = some fn := by
          have : lo.fn < C.P.funcs.size := by rw [hP.size]; exact l0
          exact ⟨_, Array.getElem?_eq_getElem this⟩
        refine roundIn_of_wpInP l0 hfn ?_
        rw [l5, l6]
        have hassign := code_wp (base_round hP hC (C.hint L.fn) B) (m := m) (f := L.fn) L.assign 0 _ _ w g _ ow l1 hF0
        cases hr1 : evCode C call (iter m) L.fn { C.hint L.fn with rnd := true } 0 L.assign { tmps := (setParams L.params xs L.tmps).map (fun p => (p.1, .v p.2)), locs := [], heap := H, wl := [], ht := false, defs := [] } with
        | panic x H1 => exact absurd hr1 (code_np _ 0 _)
        | bad _ => rw [hr1] at hR; cases hR
        | oof => rw [hr1] at hR; cases hR
        | ok p =>
          obtain ⟨e, st1⟩ := p
          rw [hr1] at hR hassign
          simp only [Res.bind] at hR
          cases e with
          | exit _ => cases hR
          | ret => cases hR
          | panic _ => cases hR
          | normal =>
            simp only at hR
            refine hassign _ fun e' a1 w1 g1 sv1 ow1 f1 f2 f3 => ?_
            cases f1
            cases hH1 : st1.heap[l]? with
            | none => rw [hH1] at hR; cases hR
            | some ob1 =>
              rw [hH1] at hR
              cases ob1 with
              | loop L1 =>
                simp only at hR
                cases hg1 : Nat.beq L1.state 0 with
                | false => rw [hg1] at hR; cases hR
                | true =>
                  rw [hg1] at hR
                  simp only at hR
                  have hst1 := Nat.eq_of_beq_eq_true hg1
                  have hB1 := f3.le.rf _ _ hB
                  -- the round begins
                  obtain ⟨_, lo1', hx1, _, hx3, hx4⟩ := f2.hr.ob l _ hH1
                  rw [hB1] at hx1
                  cases hx1
                  obtain ⟨k3, k4⟩ := f2.toBusy hH1 hB1 hx3 { lo1' with state := .busy }
                  have hBlt1 : B < w1.heap.size := by
                    rcases Nat.lt_or_ge B w1.heap.size with hh | hh
                    · exact hh
                    · rw [Array.getElem?_eq_none hh] at hx3; cases hx3
                  have hready : lo1'.state = .ready := by
                    have hh := hx4.2.2.2.2.2.1
                    rw [hst1] at hh
                    exact hh
                  refine ⟨_, run_beginRound hx3 hready, ?_⟩
                  have hbody := code_wp (base_round hP hC (C.hint L.fn) B) (m := m) (f := L.fn) L.body 0 _ _ _ g1 _ _ l2 k3
                  cases hr2 : evCode C call (iter m) L.fn { C.hint L.fn with rnd := true } 0 L.body { st1 with heap := st1.heap.set l .busy } with
                  | panic x H2 => exact absurd hr2 (code_np _ 0 _)
                  | bad _ => rw [hr2] at hR; cases hR
                  | oof => rw [hr2] at hR; cases hR
                  | ok p2 =>
                    obtain ⟨e2, st2⟩ := p2
                    rw [hr2] at hR hbody
                    simp only at hR
                    -- the round's end
                    have fin : ∀ (j : Option Code), ResPost w g ow (roundEnd l L1 st2 j) = some R → ∀ (a2 : Act) (w2 : World) (g2 : Gh) (sv2 : Nat → Option Nat) (ow2 : Ow), FR lo.tmps.size st2 a2 w2 g2 sv2 ow2 → Fut w g ow w2 g2 ow2 →
                        ow2 B = some ⟨.ctx, []⟩ → w2.heap[B]? = some (.loop { lo1' with state := .busy }) → g1.le g2 →
                        ∃ v w3, (Instr.endRound B j).run C.P w2 = .ok v w3 ∧ R (.returned v) w3 := by
                      intro j hj a2 w2 g2 sv2 ow2 z1 z2 z4 z5 z6
                      unfold roundEnd at hj
                      cases hH2 : st2.heap[l]? with
                      | none => rw [hH2] at hj; cases hj
                      | some ob2 =>
                        rw [hH2] at hj
                        cases ob2 with
                        | busy =>
                          cases hd2 : st2.defs with
                          | cons _ _ => rw [hd2] at hj; cases hj
                          | nil =>
                            rw [hd2] at hj
                            simp only [ResPost, Option.some.injEq] at hj
                            have hB2 := z2.le.rf _ _ hB
                            have hL2 := LoopR.mono z6 hx4
                            have q3 := z1.fromBusy (L' := { L1 with state := jumpState j, pending := j }) (lo' := { lo1' with state := if j.isNone then .ready else .done, pending := j }) hH2 hB2 z4 z5
                              ⟨hL2.1, hL2.2.1, hL2.2.2.1, hL2.2.2.2.1, rfl, by cases j <;> rfl, hL2.2.2.2.2.2.2⟩
                            obtain ⟨d1, d2, d3⟩ := q3.done none
                            refine ⟨_, _, run_endRound z5 j, ?_⟩
                            rw [← hj]
                            refine ⟨g2, _, rfl, rfl, d1, q3.gc, d2, Fut.trans (w' := { w2 with heap := w2.heap.setIfInBounds B (.loop { lo1' with state := if j.isNone then .ready else .done, pending := j }) }) ⟨z2.le, by simpa using z2.sz, fun B0 p hB0 => ?_, z2.tp, z2.os, z2.ot⟩ d3⟩
                            obtain ⟨y1, y2, y3⟩ := z2.cx B0 p hB0
                            have hne : B0 ≠ B := fun e => by subst e; rw [h2] at hB0; cases hB0
                            exact ⟨by simp only [if_neg hne]; exact y1, by simp [Ne.symm hne, y2], y3⟩
                        | _ => cases hj
                    refine hbody _ fun e' a2 w2 g2 sv2 ow2 z1 z2 z3 => ?_
                    have hfut2 := (f3.trans k4).trans z3
                    obtain ⟨y1, y2, _⟩ := z3.cx B [] (by simp)
                    have y2' : w2.heap[B]? = some (.loop { lo1' with state := .busy }) := by rw [y2]; simp [hBlt1]
                    cases e2 with
                    | normal => cases z1; exact fin none hR a2 w2 g2 sv2 ow2 z2 hfut2 y1 y2' z3.le
                    | exit id => cases z1; exact fin (some (.exit id)) hR a2 w2 g2 sv2 ow2 z2 hfut2 y1 y2' z3.le
                    | ret => cases z1; exact fin (some .ret) hR a2 w2 g2 sv2 ow2 z2 hfut2 y1 y2' z3.le
                    | panic v =>
                      obtain ⟨x, hx, rfl⟩ := z1
                      simp only at hR
                      cases hd2 : st2.defs with
                      | cons _ _ => rw [hd2] at hR; cases hR
                      | nil =>
                        rw [hd2] at hR
                        simp only [ResPost, Option.some.injEq] at hR
                        have hdef : a2.defers = [] := by have := z2.df; rw [hd2] at this; exact this
                        obtain ⟨d1, d2, d3⟩ := z2.done none
                        refine ⟨hdef, ?_⟩
                        rw [← hR]
                        exact ⟨g2, _, x, rfl, hx, d1, z2.gc, d2, hfut2.trans d3⟩
              | _ => cases hR
    | _ => cases hR

end
end Go.Sw
/-! The evaluator is sound. -/
namespace Go.Sw
open Go

/-- a contract that is given. -/
def OrcOK (P : Program) (f : Nat) (F : Call → List AV → Heap → Res (Slot × Heap)) : Prop := ∀ call, CallOK P call → ∀ xs H w g ow (args : Array Value), VRs g xs args.toList → HR w g ow H → GCons w g → BD w ow → GV g →
  ∀ R, ResPost w g ow (F call xs H) = some R → Enters P f ∧ CallsIn fw 0 P f args w R

/-- a call whose result is known: with an empty heap. -/
def PureOK (P : Program) (f : Nat) (xs : List AV) (r : Slot) : Prop := noRefs xs = true ∧ noRefS r = true ∧ ∀ w g ow (args : Array Value), VRs g xs args.toList → HR w g ow [] → GCons w g → BD w ow → GV g →
  Enters P f ∧ CallsIn fw 0 P f args w fun e w' => ∃ H', OkPost w g ow r H' e w'

/-- with any heap. -/
theorem PureOK.lift {P : Program} {f : Nat} {xs : List AV} {r : Slot} (h : PureOK P f xs r) {H : Heap} {w : World} {g : Gh} {ow : Ow} {args : Array Value} (hv : VRs g xs args.toList) (hr : HR w g ow H) (gc : GCons w g) (bd : BD w ow) (gv : GV g) :
    Enters P f ∧ CallsIn fw 0 P f args w (OkPost w g ow r H) := by
  obtain ⟨h1, h2, h3⟩ := h
  -- a frame with nothing in it
  have hF : FR 1 { tmps := [], locs := [], heap := H, wl := [], ht := false, defs := [] } { tmps := #[undef], defers := [] } w g (fun _ => none) ow :=
    ⟨rfl, gc, fun t => trivial, fun t => trivial, fun s cs h => (by cases h), hr, rfl, bd, gv⟩
  obtain ⟨o1, o2, o3⟩ := hF.outPure
  obtain ⟨he, hc⟩ := h3 w g.pure (owP w) args (VRs_pure h1 hv) o1 o2 o3 gv.pure
  refine ⟨he, CallsIn.mono hc fun e w' hp => ?_⟩
  obtain ⟨H', hp⟩ := hp
  cases e with
  | returned v =>
    obtain ⟨g', ow', k1, k2, k3, k4, k5, k6⟩ := hp
    obtain ⟨q1, q2, _⟩ := hF.backPure (d := some 0) (fun t ht => by cases ht; exact Nat.lt_one_iff.mpr rfl) (v := v) k6 k4 k5 k1 k2 h2
    obtain ⟨d1, d2, d3⟩ := q1.done (some 0)
    have hx := q1.tm 0
    have hgx : getT (applyEff { tmps := [], locs := [], heap := H, wl := [], ht := false, defs := [] } (some 0) { dst := r }).tmps 0 = r := by simp [applyEff, putT, getT_cons]
    have hvx : (Act.put { tmps := #[undef], defers := [] } (some 0) v).tmps.getD 0 undef = v := by simp [Act.put]
    rw [hgx, hvx] at hx
    refine ⟨_, reown (outF (some 0)) _, SR_sv (sv := fun _ => none) _ _ k2 (SR.keep (root := .tmp 0) (root' := .ret) ⟨Gh.le.refl _, fun _ _ h => h, fun B q h => ⟨by simp [reown, h, outF], rfl, fun _ _ h => h⟩⟩ _ _ _ hx), k2, d1, q1.gc, d2, q2.trans d3⟩
  | panicked c => exact hp.elim
  | outgrown => exact hp.elim

/-- what a configuration is to be. -/
structure CfgOK (C : Cfg) : Prop where
  prog : ProgOK C.P
  orc : ∀ f F, C.orc f = some F → OrcOK C.P f F
  tbl : ∀ f xs r, C.tbl f xs = some r → PureOK C.P f xs r

theorem step_ok {C : Cfg} {call : Call} (hO : CfgOK C) (hC : CallOK C.P call) (m : Nat) : CallOK C.P (evStep C call (iter m)) := by
  intro xs H w g ow args hv hr gc bd gv
  refine ⟨fun f R hR => ?_, fun l B R hB hR => round_ok hO.prog hC hv hr gc bd gv hB hR⟩
  unfold evStep at hR
  simp only at hR
  cases ht : C.tbl f xs with
  | some r =>
    rw [ht] at hR
    simp only [ResPost, Option.some.injEq] at hR
    subst hR
    exact (hO.tbl f xs r ht).lift hv hr gc bd gv
  | none =>
    rw [ht] at hR
    simp only at hR
    cases hf : C.orc f with
    | some F => rw [hf] at hR; exact hO.orc f F hf call hC xs H w g ow args hv hr gc bd gv R hR
    | none => rw [hf] at hR; exact fun_ok hO.prog hC hv hr gc bd gv hR

theorem ev_ok {C : Cfg} (hO : CfgOK C) : ∀ k, CallOK C.P (ev C k)
  | 0 => fun xs H w g ow args _ _ _ _ _ => ⟨(fun f R hR => by cases hR), (fun l B R _ hR => by cases hR)⟩
  | k + 1 => step_ok hO (ev_ok hO k) k

/-- what the evaluator finds becomes known. -/
theorem PureOK.of {C : Cfg} (hO : CfgOK C) {k f : Nat} {xs : List AV} {r : Slot} {H' : Heap} (he : ev C k (.fn f) xs [] = .ok (r, H')) (h1 : noRefs xs = true) (h2 : noRefS r = true) : PureOK C.P f xs r := by
  refine ⟨h1, h2, fun w g ow args hv hr gc bd gv => ?_⟩
  obtain ⟨q, _⟩ := ev_ok hO k xs [] w g ow args hv hr gc bd gv
  obtain ⟨q1, q2⟩ := q f _ (by rw [he]; rfl)
  exact ⟨q1, CallsIn.mono q2 fun e w' h => ⟨H', h⟩⟩

end Go.Sw
/-! From what the evaluator finds to what a row asks: in a world that holds the package's tables, a call returns, and all that was there is as it was. -/
namespace Go.Sw
open Go

/-- all that was there is as it was. -/
structure Kept (W W' : World) : Prop where
  kept : W.keptBut W' (fun _ => False)
  frozen : ∀ a : Addr, a.block < W.heap.size → W'.frozen? a = W.frozen? a
  size : W.heap.size ≤ W'.heap.size

theorem Fut.kept {W W' : World} {g g' : Gh} {ow' : Ow} (h : Fut W g (owP W) W' g' ow') : Kept W W' := by
  have hb : ∀ B, B < W.heap.size → W'.heap[B]? = W.heap[B]? := fun B hB => (h.cx B [] (by simp [owP, hB])).2.1
  refine ⟨⟨h.os, h.ot, fun i hi => ?_⟩, fun a ha => ?_, h.sz⟩
  · rw [hb i hi]
    split
    · rename_i h1 h2
      rw [h1] at h2
      cases h2
      exact ⟨rfl, rfl, rfl, fun _ _ => rfl⟩
    · rename_i h1 h2
      rw [h1] at h2
      cases h2
      exact .inr ⟨rfl, rfl⟩
    · rename_i o o' _ _
      first | rfl | trivial
  · unfold World.frozen?
    rw [hb _ ha]

/-- what a value reads as in a world: the values that a row's data may be. -/
inductive Rd (W : World) : AV → Value → Prop where
  | bool (b : Bool) : Rd W (.bool b) (.bool b)
  | int (k : IntKind) (n : Int) : Rd W (.int k n) (.int k n)
  | str (b : ByteArray) : Rd W (.str b.data.toList) (.string b)
  | nil (p : Option Addr) (c : Nat) : Rd W (.list []) (.slice p 0 c)
  | list (l : List AV) (B off sz c : Nat) (at_ : Nat → Nat → Value) (hc : l.length ≤ c) (hs : ∀ (i : Nat) x, l[i]? = some x → (cellsOfAV x).length = sz)
      (hw : ∀ (i : Nat) x, l[i]? = some x → ∀ (j : Nat) y, (cellsOfAV x)[j]? = some y → W.cell? ⟨B, off + (i * sz + j), none⟩ = some (at_ i j) ∧ Cell1 (at_ i j))
      (hr : ∀ (i : Nat) x, l[i]? = some x → ∀ (j : Nat) y, (cellsOfAV x)[j]? = some y → Rd W y (at_ i j)) : Rd W (.list l) (.slice (some ⟨B, off, none⟩) l.length c)

/-- the ghost of a world of such data. -/
def ghW (W : World) : Gh := { im := fun B o y => ∃ v, W.cell? ⟨B, o, none⟩ = some v ∧ Cell1 v ∧ Rd W y v, rf := fun _ => none, rw := fun _ _ => none }

theorem Rd.vr {W : World} {y : AV} {v : Value} (h : Rd W y v) : VR (ghW W) y v := by
  cases h with
  | bool b => rfl
  | int k n => rfl
  | str b => exact ⟨b, rfl, rfl⟩
  | nil p c => exact ⟨p, c, rfl, Nat.zero_le _, .inl rfl⟩
  | list l B off sz c at_ hc hs hw hr =>
    exact ⟨_, c, rfl, hc, .inr ⟨B, off, sz, rfl, fun i x hx => ⟨hs i x hx, fun j y hy => ⟨at_ i j, (hw i x hx j y hy).1, (hw i x hx j y hy).2, hr i x hx j y hy⟩⟩⟩⟩

theorem ghW_gc (W : World) : GCons W (ghW W) := fun _ _ _ ⟨v, h1, h2, h3⟩ => ⟨v, h1, h3.vr, h2⟩

/-- the tables are there. -/
def Tabs (W : World) : Prop := ∀ b cs, globs b = some cs → ∀ (j : Nat) y, cs[j]? = some y → ∃ k n, y = AV.int k n ∧ W.cell? ⟨b, j, none⟩ = some (.int k n)

theorem Tabs.gv {W : World} (h : Tabs W) : GV (ghW W) := fun b cs hb j y hy => by
  obtain ⟨k, n, rfl, hw⟩ := h b cs hb j y hy
  exact ⟨_, hw, rfl, .int k n⟩

/-- a table of a row. -/
theorem tab_cells {P : Program} {W : World} {name : String} {k : IntKind} {zs : List Int} {g : Nat} (h : Lib.TabIs P W name k zs) (hg : P.globalNamed name = some g) {cs : List AV} (hcs : cs = zs.map fun z => AV.int k z) :
    ∀ (j : Nat) y, cs[j]? = some y → ∃ k n, y = AV.int k n ∧ W.cell? ⟨g, j, none⟩ = some (.int k n) := by
  subst hcs
  intro j y hy
  rw [List.getElem?_map] at hy
  cases hz : zs[j]? with
  | none => rw [hz] at hy; cases hy
  | some z =>
    rw [hz] at hy
    cases hy
    have hlt : j < zs.length := (List.getElem?_eq_some_iff.1 hz).1
    refine ⟨k, z, rfl, ?_⟩
    have := h.cell hg j hlt
    simpa [List.getD, hz] using this

/-- what is found is what a call does. -/
theorem ev_calls {C : Cfg} (hC : CfgOK C) {k f : Nat} {xs : List AV} {b : Bool} {H' : Heap} (he : ev C k (.fn f) xs [] = .ok (.v (.bool b), H')) {W : World} (ht : Tabs W) {args : Array Value} (hv : VRs (ghW W) xs args.toList) :
    Calls C.P f args W fun e W' => e = .returned (.bool b) ∧ Kept W W' := by
  have hq := (ev_ok hC k xs [] W (ghW W) (owP W) args hv ⟨fun r o h => (by cases h), fun r _ => ⟨rfl, fun _ => rfl⟩⟩ (ghW_gc W)
    (fun B h hB => by simp only [owP] at hB; split at hB <;> first | assumption | cases hB) ht.gv).1 f _ (by rw [he]; rfl)
  refine CallsIn.calls (CallsIn.mono hq.2 fun e W' h => ?_) (fun k => room_fw k)
  cases e with
  | returned v =>
    obtain ⟨g', ow', h1, _, _, _, _, h6⟩ := h
    have h1' : v = .bool b := h1
    subst h1'
    exact ⟨rfl, h6.kept⟩
  | panicked c => exact h.elim
  | outgrown => exact h.elim

/-- the same, of what is known. -/
theorem PureOK.calls {P : Program} {f : Nat} {xs : List AV} {b : Bool} (h : PureOK P f xs (.v (.bool b))) {W : World} (ht : Tabs W) {args : Array Value} (hv : VRs (ghW W) xs args.toList) :
    Calls P f args W fun e W' => e = .returned (.bool b) ∧ Kept W W' := by
  obtain ⟨_, hq⟩ := h.lift (H := []) (w := W) (g := ghW W) (ow := owP W) (args := args) hv ⟨fun r o h => (by cases h), fun r _ => ⟨rfl, fun _ => rfl⟩⟩ (ghW_gc W)
    (fun B h hB => by simp only [owP] at hB; split at hB <;> first | assumption | cases hB) ht.gv
  refine CallsIn.calls (CallsIn.mono hq fun e W' h => ?_) (fun k => room_fw k)
  cases e with
  | returned v =>
    obtain ⟨g', ow', h1, _, _, _, _, h6⟩ := h
    have h1' : v = .bool b := h1
    subst h1'
    exact ⟨rfl, h6.kept⟩
  | panicked c => exact h.elim
  | outgrown => exact h.elim
end Go.Sw
/-! Tables of calls whose results are known. -/
namespace Go.Sw
open Go

def tblOf : List (Nat × List AV × Slot) → Nat → List AV → Option Slot
  | [], _, _ => none
  | (k, a, r) :: l, f, xs => match Nat.beq k f with
    | true => match eqAs a xs with | true => some r | false => tblOf l f xs
    | false => tblOf l f xs

theorem tblOf_ok {P : Program} : ∀ (l : List (Nat × List AV × Slot)), (∀ e ∈ l, PureOK P e.1 e.2.1 e.2.2) → ∀ f xs r, tblOf l f xs = some r → PureOK P f xs r
  | [], _, _, _, _, h => by cases h
  | (k, a, r0) :: l, hl, f, xs, r, h => by
    unfold tblOf at h
    have hrest : tblOf l f xs = some r → PureOK P f xs r := tblOf_ok l (fun e he => hl e (by simp [he])) f xs r
    cases hk : Nat.beq k f with
    | false => rw [hk] at h; exact hrest h
    | true =>
      rw [hk] at h
      simp only at h
      cases ha : eqAs a xs with
      | false => rw [ha] at h; exact hrest h
      | true =>
        rw [ha] at h
        simp only [Option.some.injEq] at h
        subst h
        have h1 := Nat.eq_of_beq_eq_true hk
        have h2 := eqAs_eq _ _ ha
        subst h1; subst h2
        exact hl (k, a, r0) (by simp)

/-- whether a call comes to this. -/
def okIs (r : Slot) : Res (Slot × Heap) → Bool
  | .ok (s, _) => eqS s r
  | _ => false

theorem okIs_ok {r : Slot} {x : Res (Slot × Heap)} (h : okIs r x = true) : ∃ H, x = .ok (r, H) := by
  unfold okIs at h
  split at h
  · rename_i s H
    exact ⟨H, by rw [eqS_eq _ _ h]⟩
  · cases h

/-- a configuration with a table. -/
def Cfg.with (C : Cfg) (l : List (Nat × List AV × Slot)) : Cfg := { C with tbl := tblOf l }

theorem CfgOK.with {C : Cfg} (hC : CfgOK C) {l : List (Nat × List AV × Slot)} (hl : ∀ e ∈ l, PureOK C.P e.1 e.2.1 e.2.2) : CfgOK (C.with l) :=
  ⟨hC.prog, hC.orc, tblOf_ok l hl⟩

/-- what is found becomes known. -/
theorem known_of {C : Cfg} (hC : CfgOK C) {l : List (Nat × List AV × Slot)} (hl : ∀ e ∈ l, PureOK C.P e.1 e.2.1 e.2.2) {k f : Nat} {xs : List AV} {r : Slot} (h : okIs r (ev (C.with l) k (.fn f) xs []) = true) (h1 : noRefs xs = true) (h2 : noRefS r = true) :
    PureOK C.P f xs r := by
  obtain ⟨H, he⟩ := okIs_ok h
  exact PureOK.of (hC.with hl) he h1 h2
end Go.Sw
/-! What is asked of a program, as one truth. -/
namespace Go.Sw
open Go

def typB (i : TypeInfo) : Bool := match i.zero with | some z => Nat.beq z.cells.size i.size | none => false
def funB (fn : Func) : Bool :=
  (match fn.body with | some c => codeOkB fn.ntmps c | none => true) && fn.results.toList.all (fun r => match r with | .cell a _ => Nat.blt a fn.ntmps | _ => true)
def namB (fn : Func) : Bool := !(fn.name == "runtime.NumGoroutine")

theorem progOK_of {P : Program} (h1 : P.types.toList.all typB = true) (h2 : P.funcs.toList.all funB = true) (h3 : P.funcs.toList.all namB = true) (hs : P.funcs.size = nFuncs) (hm : P.follows .mixedOrders = true) : ProgOK P := by
  have hf : ∀ (f : Nat) (fn : Func), P.funcs[f]? = some fn → fn ∈ P.funcs.toList := fun f fn hf => by
    have : P.funcs.toList[f]? = some fn := by simpa using hf
    exact List.mem_of_getElem? this
  refine ⟨fun t i hlt hi => ?_, hs, hm, fun f fn c h hc => ?_, fun f fn h r hr a t hrt => ?_, fun f fn h _ => ?_⟩
  · have hi' : P.types[t]? = some i := by
      unfold Tables.info? at hi
      rw [if_pos hlt] at hi
      exact hi
    have hm : i ∈ P.types.toList := by
      have : P.types.toList[t]? = some i := by simpa using hi'
      exact List.mem_of_getElem? this
    have := List.all_eq_true.mp h1 i hm
    unfold typB at this
    split at this
    · rename_i z hz
      exact ⟨z, hz, Nat.eq_of_beq_eq_true this⟩
    · cases this
  · have := List.all_eq_true.mp h2 fn (hf f fn h)
    unfold funB at this
    rw [hc] at this
    simp only [Bool.and_eq_true] at this
    exact this.1
  · have := List.all_eq_true.mp h2 fn (hf f fn h)
    unfold funB at this
    simp only [Bool.and_eq_true] at this
    have := List.all_eq_true.mp this.2 r hr
    subst hrt
    exact Nat.blt_eq.mp this
  · have := List.all_eq_true.mp h3 fn (hf f fn h)
    simpa [namB] using this
end Go.Sw

/- A reflective evaluator over the code of a program, and the proof that what it finds is what the machine of the model does. It asks of the program what ProgOK says; nothing of a law is said here. -/
import Derived.Test.YtmcipmgcmbbbcaaGreatDoorW04
import Derived.TacticsIn
/-! Calls of methods and of the rounds of a range; panics; all operations. -/
namespace Go.Sw
open Go

section
variable {F : Fence} {n : Nat} {o : Oper} {st : St} {a : Act} {w : World} {g : Gh} {sv : Nat → Option Nat} {ow : Ow} {C : Cfg} {call : Call}

theorem method_run {P : Program} {t f m : Nat} {v : Value} {name : String} (h : methodOf P t name = some f) : (method (m + 1) t v name).run P w = .ok (f, v) w := by
  unfold methodOf at h
  split at h
  · cases h
  · rename_i i hi
    split at h
    · rename_i mt hm
      split at h
      · rename_i f' e hp hf hu
        cases h
        have hp' : mt.path = #[] := by simpa using hp
        simp [method, typeInfo_run hi, hm, hp', follow, hf, receiverAt, run_und hu, Place.get]
      · cases h
      · rename_i f' d hnp hp hf hu
        cases h
        have hp' : mt.path = #[] := by simpa using hp
        cases d <;> first
          | exact (hnp _ rfl).elim
          | simp [method, typeInfo_run hi, hm, hp', follow, hf, receiverAt, run_und hu, Place.get]
      · cases h
    · cases h

theorem call_yld (hC : CallOK C.P call) (hW : Wide F) (hF : FR n st a w g sv ow) (hd : ∀ t, o.dst = some t → t < n) (hnd : ∀ c, o.op ≠ .defer c) {l B : Nat} {args : List Slot} {xs : List AV} {vargs : Array Value}
    (hxs : argsR args = .ok xs) (hv : VRs g xs vargs.toList) (hB : g.rf l = some B) (hrun : (execOp a.eval o).run C.P w = (Instr.yield B vargs).run C.P w) (hab : o.about C.P w a.eval = none) :
    OpWp F C.P n o st a w g ow (doCall C call (.yld l) args [] st.heap) := by
  have hdp : F.depth.isSome = true → 1 ≤ 0 := by rw [hW.dp]; intro h; cases h
  obtain ⟨o1, o2, o3⟩ := hF.out
  obtain ⟨_, hfn⟩ := hC xs st.heap w g (owC ow) vargs hv o1 o2 o3 hF.gv
  unfold doCall
  rw [hxs]
  simp only [Res.bind, isPure, isRo, Bool.false_and, List.append_nil]
  unfold openCall
  cases hr : call (.yld l) xs st.heap with
  | ok rH =>
    obtain ⟨r, H'⟩ := rH
    intro K Q hK
    obtain ⟨f, tmps, as, bd, w1, he, hc⟩ := hfn l B _ hB (by rw [hr]; rfl)
    refine ⟨about_none hab, ?_⟩
    rw [Oper.semAt_eq _ _ _ hnd, hrun, he, Oper.uponIn_round]
    refine ⟨hdp, hW.round (RoundIn.mono hc fun e w' h => ?_)⟩
    cases e with
    | returned v =>
      obtain ⟨g', ow', h1, h2, h3, h4, h5, h6⟩ := h
      obtain ⟨q1, q2⟩ := hF.back hd (v := v) h6 h3 h4 h5 h1 h2
      exact hK v _ _ _ _ q1 q2
    | panicked c => exact h.elim
    | outgrown => exact h.elim
  | panic x H' =>
    intro K Q hQ
    obtain ⟨f, tmps, as, bd, w1, he, hc⟩ := hfn l B _ hB (by rw [hr]; rfl)
    refine ⟨about_none hab, ?_⟩
    rw [Oper.semAt_eq _ _ _ hnd, hrun, he, Oper.uponIn_round]
    refine ⟨hdp, hW.round (RoundIn.mono hc fun e w' h => ?_)⟩
    cases e with
    | panicked c =>
      obtain ⟨g', ow', u, rfl, h2, h3, h4, h5, h6⟩ := h
      obtain ⟨q1, q2⟩ := hF.backPanic h6 h3 h4 h5
      exact hQ u _ _ _ _ h2 q1 q2
    | returned v => exact h.elim
    | outgrown => exact h.elim
  | bad _ => trivial
  | oof => trivial

theorem argsR_bad {C : Cfg} {f : Fnv} {args : List Slot} {cap : List AV} {H : Heap} {P : Program} (h : ∀ xs, argsR args ≠ .ok xs) (hp : ∀ x H', argsR args ≠ .panic x H') : OpWp F P n o st a w g ow (doCall C call f args cap H) := by
  unfold doCall
  cases hr : argsR args with
  | ok xs => exact absurd hr (h xs)
  | panic x H' => exact absurd hr (hp x H')
  | bad _ => trivial
  | oof => trivial

theorem argsR_noPanic : ∀ (l : List Slot) (x : AV) (H' : Heap), argsR l ≠ .panic x H'
  | [], _, _ => by simp [argsR]
  | s :: l, x, H' => by
    intro h
    simp only [argsR] at h
    cases hs : toArg s with
    | ok y =>
      rw [hs] at h
      cases hl : argsR l with
      | ok ys => rw [hl] at h; cases h
      | panic x' H'' => exact argsR_noPanic l x' H'' hl
      | bad _ => rw [hl] at h; cases h
      | oof => rw [hl] at h; cases h
    | panic x' H'' =>
      unfold toArg at hs
      split at hs
      · cases hs
      · unfold toAVR at hs
        cases ht : toAV s <;> rw [ht] at hs <;> cases hs
    | bad _ => rw [hs] at h; cases h
    | oof => rw [hs] at h; cases h

/-- what never panics. -/
def NP {α : Type} (r : Res α) : Prop := ∀ x H, r ≠ .panic x H
theorem NP.ok {α : Type} {x : α} : NP (.ok x) := fun _ _ h => by cases h
theorem NP.bad {α : Type} {s : String} : NP (.bad s : Res α) := fun _ _ h => by cases h
theorem NP.opt {α : Type} {s : String} {x : Option α} : NP (opt s x) := fun _ _ h => by cases x <;> cases h
theorem NP.guard {α : Type} {s : String} {b : Bool} {r : Res α} (h : NP r) : NP (guardR s b r) := by
  cases b
  · exact NP.bad
  · exact h
theorem NP.bind {α β : Type} {r : Res α} {f : α → Res β} (h : NP r) (hf : ∀ x, NP (f x)) : NP (r >>= f) := by
  intro x H e
  cases r with
  | ok y => exact hf y x H e
  | panic y H' => exact h y H' rfl
  | bad _ => cases e
  | oof => cases e
theorem NP.bind' {α β : Type} {r : Res α} {f : α → Res β} (h : NP r) (hf : ∀ x, NP (f x)) : NP (r.bind f) := NP.bind h hf
theorem NP.av {s : Slot} : NP (toAVR s) := NP.opt
theorem NP.args {l : List Slot} : NP (argsR l) := argsR_noPanic l

theorem NP.append {P : Program} {hp : Bool} {t : Nat} {x : Operand} {sx y : Slot} {E : Env} : NP (evAppend P hp t x sx y E) := by
  have ap : NP (appended E.H y) := by unfold appended; (repeat (first | exact NP.ok | exact NP.bad | exact NP.opt | exact NP.av | exact NP.args | refine NP.guard ?_ | refine NP.bind ?_ (fun _ => ?_) | refine NP.bind' ?_ (fun _ => ?_) | split))
  unfold evAppend
  split
  · refine NP.bind NP.opt fun _ => NP.bind NP.opt fun _ => NP.bind ap fun _ => NP.guard ?_
    (repeat (first | exact NP.ok | exact NP.bad | exact NP.opt | exact NP.av | exact NP.args | refine NP.guard ?_ | refine NP.bind ?_ (fun _ => ?_) | refine NP.bind' ?_ (fun _ => ?_) | split))
  · exact NP.bad

theorem NP.builtin {c : Go.Call} {b : Builtin} {h : Hint} {E : Env} (hc : c.callee = .builtin b) : NP (evCall C call h o c E) := by
  unfold evCall
  rw [hc]
  have hlen : ∀ t s H, NP (evLen C.P t s H) := by intro t s H; unfold evLen; (repeat (first | exact NP.ok | exact NP.bad | exact NP.opt | exact NP.av | exact NP.args | refine NP.guard ?_ | refine NP.bind ?_ (fun _ => ?_) | refine NP.bind' ?_ (fun _ => ?_) | split))
  cases b <;> simp only
  all_goals first
    | exact NP.bad
    | (unfold evAppendOp
       split
       · split
         · exact NP.append
         · exact NP.append
         · exact NP.bad
       · exact NP.bad)
    | (split
       · exact NP.bind' (hlen _ _ _) fun _ => NP.ok
       · exact NP.bad)
    | exact NP.bind' (NP.bind NP.args fun _ => NP.opt) fun _ => NP.ok

theorem argsR_front {l : List Slot} {xs : List AV} : ∀ (fs : List AV), argsR l = .ok xs → argsR (fs.map .v ++ l) = .ok (fs ++ xs)
  | [], h => h
  | x :: fs, h => by
    have := argsR_front fs h
    simp only [List.map_cons, List.cons_append, argsR, toArg, this]
    rfl

theorem argsR_back {l : List Slot} : ∀ (fs ys : List AV), argsR (fs.map .v ++ l) = .ok ys → ∃ zs, argsR l = .ok zs
  | [], _, h => ⟨_, h⟩
  | x :: fs, ys, h => by
    obtain ⟨y, _, h⟩ := Res.bind_ok h
    obtain ⟨zs, h, _⟩ := Res.bind_ok h
    exact argsR_back fs _ h

theorem VRs_app {g : Gh} : ∀ {l1 l2 : List AV} {v1 v2 : List Value}, VRs g l1 v1 → VRs g l2 v2 → VRs g (l1 ++ l2) (v1 ++ v2)
  | [], _, _, _, h1, h2 => by cases h1; exact h2
  | _ :: l1, _, _, _, ⟨v, vs', e, h3, h4⟩, h2 => ⟨v, vs' ++ _, by rw [e]; rfl, h3, VRs_app (l1 := l1) h4 h2⟩

theorem op_call {c : Go.Call} {h : Hint} {A : Option Nat} (hC : CallOK C.P call) (hW : Wide F) (hZ : ZeroOk C.P) (hF : FR n st a w g sv ow) (hd : ∀ t, o.dst = some t → t < n) (ho : o.op = .call c) :
    OpWp F C.P n o st a w g ow (evCall C call h o c (envOf A st)) := by
  have hnd : ∀ c, o.op ≠ .defer c := fun c' e => by rw [ho] at e; cases e
  cases hc : c.callee with
  | builtin b =>
    cases hr : evCall C call h o c (envOf A st) with
    | ok e => exact (op_builtin hF hZ hd ho hc hr).wp (by simp [isLocal, ho, hc]) hnd
    | panic x H' => exact absurd hr (NP.builtin hc x H')
    | bad _ => trivial
    | oof => trivial
  | value f =>
    unfold evCall
    rw [hc]
    have hf := hF.opnd f
    show OpWp F C.P n o st a w g ow (match opd st f with
    | .v (.func g cap) => doCall C call (.fn g) (c.args.toList.map (opd st)) cap st.heap
    | .v (.meth g first) => doCall C call (.fn g) (first.map .v ++ c.args.toList.map (opd st)) [] st.heap
    | .v (.yield l) => doCall C call (.yld l) (c.args.toList.map (opd st)) [] st.heap
    | _ => .bad "call: function")
    split
    · rename_i k cap hfv
      rw [hfv] at hf
      obtain ⟨vs, hv, hvs⟩ := hf
      cases hxs : argsR (c.args.toList.map (opd st)) with
      | ok xs =>
        refine call_fn hC hW hF hd hnd (vargs := c.args.map a.eval ++ vs) hxs (by simpa using args_VRs hF hxs hvs) (fun he => ?_) (fun he f' hf' => ?_)
        · simp [execOp, ho, resolve, hc, Deferred.ofValue, hv, invoke, he.run]
        · simp [Oper.about, ho, resolve, hc, Deferred.ofValue, hv, Target.leads] at hf'
          exact hf'.symm
      | _ => exact argsR_bad (fun xs h => by rw [hxs] at h; cases h) (argsR_noPanic _)
    · rename_i k fs hfv
      rw [hfv] at hf
      obtain ⟨vs, hv, hvs⟩ := hf
      cases hxs : argsR (c.args.toList.map (opd st)) with
      | ok xs =>
        have hxs' : argsR (fs.map .v ++ c.args.toList.map (opd st)) = .ok (fs ++ xs) := argsR_front fs hxs
        refine call_fn hC hW hF hd hnd (vargs := vs ++ c.args.map a.eval) hxs' ?_ (fun he => ?_) (fun he f' hf' => ?_)
        · have := args_VRs hF hxs (cap := []) (vs := []) rfl
          simp only [List.append_nil] at this ⊢
          simpa using VRs_app hvs this
        · simp [execOp, ho, resolve, hc, Deferred.ofValue, hv, invoke, he.run]
        · simp [Oper.about, ho, resolve, hc, Deferred.ofValue, hv, Target.leads] at hf'
          exact hf'.symm
      | _ => exact argsR_bad (fun ys h => by
          obtain ⟨zs, h⟩ := argsR_back fs ys h
          rw [hxs] at h
          cases h) (argsR_noPanic _)
    · rename_i l hfv
      rw [hfv] at hf
      obtain ⟨B, hB, hv⟩ := hf
      cases hxs : argsR (c.args.toList.map (opd st)) with
      | ok xs =>
        refine call_yld hC hW hF hd hnd (vargs := c.args.map a.eval) hxs (by simpa using args_VRs hF hxs (cap := []) (vs := []) rfl) hB ?_ ?_
        · simp [execOp, ho, resolve, hc, Deferred.ofValue, hv, invoke]
        · simp [Oper.about, ho, resolve, hc, Deferred.ofValue, hv, Target.leads]
      | _ => exact argsR_bad (fun xs h => by rw [hxs] at h; cases h) (argsR_noPanic _)
    · trivial
  | invoke x name =>
    unfold evCall
    rw [hc]
    have hx := hF.opnd x
    show OpWp F C.P n o st a w g ow (match opd st x with
    | .v (.iface t y) => match methodOf C.P t name with
      | some g => doCall C call (.fn g) (.v y :: c.args.toList.map (opd st)) [] st.heap
      | none => .bad "invoke: method"
    | _ => .bad "invoke: interface")
    split
    · rename_i t y hxv
      rw [hxv] at hx
      obtain ⟨u, hu, hur⟩ := hx
      split
      · rename_i k hk
        cases hxs : argsR (c.args.toList.map (opd st)) with
        | ok xs =>
          have hxs' : argsR (.v y :: c.args.toList.map (opd st)) = .ok (y :: xs) := by
            simp only [argsR, hxs]; rfl
          refine call_fn hC hW hF hd hnd (vargs := #[u] ++ c.args.map a.eval) hxs' ?_ (fun he => ?_) (fun he f' hf' => ?_)
          · have := args_VRs hF hxs (cap := []) (vs := []) rfl
            simp only [List.append_nil] at this ⊢
            exact ⟨u, c.args.toList.map a.eval, by simp, hur, this⟩
          · have hm := method_run (P := C.P) (w := w) (v := u) (m := C.P.types.size + 99) hk
            have hm' : (method (C.P.types.size + Made.depth) t u name).run C.P w = .ok (k, u) w := hm
            have h0 : (#[Value.iface t u] ++ c.args.map a.eval)[0]? = some (Value.iface t u) := by rw [Array.getElem?_append_left (Nat.lt_add_one 0)]; rfl
            have h1 : (c.args.map a.eval).extract 0 c.args.size = c.args.map a.eval := by
              simp
            simp [execOp, ho, resolve, hc, hu, invoke, h0, h1, callMethod, hm', he.run]
          · have hm := method_run (P := C.P) (w := w) (v := u) (m := C.P.types.size + 99) hk
            have hm' : (method (C.P.types.size + Made.depth) t u name).run C.P w = .ok (k, u) w := hm
            have h0 : (#[Value.iface t u] ++ c.args.map a.eval)[0]? = some (Value.iface t u) := by rw [Array.getElem?_append_left (Nat.lt_add_one 0)]; rfl
            simp [Oper.about, ho, resolve, hc, hu, Target.leads, h0, hm'] at hf'
            exact hf'.symm
        | _ => exact argsR_bad (fun ys h => by
            simp only [argsR, hxs] at h
            cases h) (argsR_noPanic _)
      · trivial
    · trivial

end
end Go.Sw
/-! All operations but 'defer'. -/
namespace Go.Sw
open Go

section
variable {F : Fence} {n : Nat} {o : Oper} {st : St} {a : Act} {w : World} {g : Gh} {sv : Nat → Option Nat} {ow : Ow} {C : Cfg} {call : Call}

theorem NP.newBox {h : Hint} {d : Option Nat} {cs : List Slot} {src : Option (Nat × Slot)} {E : Env} : NP (newBox h d cs src E) := by unfold Sw.newBox; (repeat (first | exact NP.ok | exact NP.bad | exact NP.opt | exact NP.av | exact NP.args | refine NP.guard ?_ | refine NP.bind ?_ (fun _ => ?_) | refine NP.bind' ?_ (fun _ => ?_) | split))


theorem NP.core {h : Hint} {E : Env} (hl : isLocal o = true) : NP (evCore C call h o E) := by
  unfold evCore
  split
  case h_28 x ho => simp [isLocal, ho] at hl
  case h_32 c ho =>
    simp only [isLocal, ho] at hl
    split at hl
    · rename_i b hc; exact NP.builtin hc
    · cases hl
  case h_2 => split <;> (try unfold evFreeze) <;> unfold evAssign <;> (repeat (first | exact NP.ok | exact NP.bad | exact NP.opt | exact NP.av | exact NP.args | refine NP.guard ?_ | refine NP.bind ?_ (fun _ => ?_) | refine NP.bind' ?_ (fun _ => ?_) | split))
  case h_4 => exact NP.bind NP.opt fun _ => NP.newBox
  case h_5 => exact NP.newBox
  case h_6 => unfold evLoad; (repeat (first | exact NP.ok | exact NP.bad | exact NP.opt | exact NP.av | exact NP.args | refine NP.guard ?_ | refine NP.bind ?_ (fun _ => ?_) | refine NP.bind' ?_ (fun _ => ?_) | split))
  case h_7 => unfold evStore; (repeat (first | exact NP.ok | exact NP.bad | exact NP.opt | exact NP.av | exact NP.args | refine NP.guard ?_ | refine NP.bind ?_ (fun _ => ?_) | refine NP.bind' ?_ (fun _ => ?_) | split))
  case h_3 => unfold evPick pureV; (repeat (first | exact NP.ok | exact NP.bad | exact NP.opt | exact NP.av | exact NP.args | refine NP.guard ?_ | refine NP.bind ?_ (fun _ => ?_) | refine NP.bind' ?_ (fun _ => ?_) | split))
  case h_8 => unfold evNilCheck; (repeat (first | exact NP.ok | exact NP.bad | exact NP.opt | exact NP.av | exact NP.args | refine NP.guard ?_ | refine NP.bind ?_ (fun _ => ?_) | refine NP.bind' ?_ (fun _ => ?_) | split))
  case h_9 => unfold evBinOp pureV; (repeat (first | exact NP.ok | exact NP.bad | exact NP.opt | exact NP.av | exact NP.args | refine NP.guard ?_ | refine NP.bind ?_ (fun _ => ?_) | refine NP.bind' ?_ (fun _ => ?_) | split))
  case h_12 => unfold pureV evMakeInterface; (repeat (first | exact NP.ok | exact NP.bad | exact NP.opt | exact NP.av | exact NP.args | refine NP.guard ?_ | refine NP.bind ?_ (fun _ => ?_) | refine NP.bind' ?_ (fun _ => ?_) | split))
  case h_13 => unfold pureV; (repeat (first | exact NP.ok | exact NP.bad | exact NP.opt | exact NP.av | exact NP.args | refine NP.guard ?_ | refine NP.bind ?_ (fun _ => ?_) | refine NP.bind' ?_ (fun _ => ?_) | split))
  case h_14 => unfold pureR evFieldAddr addOff; (repeat (first | exact NP.ok | exact NP.bad | exact NP.opt | exact NP.av | exact NP.args | refine NP.guard ?_ | refine NP.bind ?_ (fun _ => ?_) | refine NP.bind' ?_ (fun _ => ?_) | split))
  case h_15 => unfold pureV evField partV; (repeat (first | exact NP.ok | exact NP.bad | exact NP.opt | exact NP.av | exact NP.args | refine NP.guard ?_ | refine NP.bind ?_ (fun _ => ?_) | refine NP.bind' ?_ (fun _ => ?_) | split))
  case h_16 => unfold pureR evIndexAddr elemAddr addOff; (repeat (first | exact NP.ok | exact NP.bad | exact NP.opt | exact NP.av | exact NP.args | refine NP.guard ?_ | refine NP.bind ?_ (fun _ => ?_) | refine NP.bind' ?_ (fun _ => ?_) | split))
  case h_17 => unfold pureV evIndex partV; (repeat (first | exact NP.ok | exact NP.bad | exact NP.opt | exact NP.av | exact NP.args | refine NP.guard ?_ | refine NP.bind ?_ (fun _ => ?_) | refine NP.bind' ?_ (fun _ => ?_) | split))
  case h_18 => unfold pureR evBuild; (repeat (first | exact NP.ok | exact NP.bad | exact NP.opt | exact NP.av | exact NP.args | refine NP.guard ?_ | refine NP.bind ?_ (fun _ => ?_) | refine NP.bind' ?_ (fun _ => ?_) | split))
  case h_19 => unfold pureR evBuildSlice; (repeat (first | exact NP.ok | exact NP.bad | exact NP.opt | exact NP.av | exact NP.args | refine NP.guard ?_ | refine NP.bind ?_ (fun _ => ?_) | refine NP.bind' ?_ (fun _ => ?_) | split))
  case h_20 => unfold pureR evSlice; (repeat (first | exact NP.ok | exact NP.bad | exact NP.opt | exact NP.av | exact NP.args | refine NP.guard ?_ | refine NP.bind ?_ (fun _ => ?_) | refine NP.bind' ?_ (fun _ => ?_) | split))
  case h_21 => unfold pureR evSlice0; (repeat (first | exact NP.ok | exact NP.bad | exact NP.opt | exact NP.av | exact NP.args | refine NP.guard ?_ | refine NP.bind ?_ (fun _ => ?_) | refine NP.bind' ?_ (fun _ => ?_) | split))
  case h_22 => unfold evExtract; (repeat (first | exact NP.ok | exact NP.bad | exact NP.opt | exact NP.av | exact NP.args | refine NP.guard ?_ | refine NP.bind ?_ (fun _ => ?_) | refine NP.bind' ?_ (fun _ => ?_) | split))
  case h_23 => unfold pureR evTypeAssert assertFails; (repeat (first | exact NP.ok | exact NP.bad | exact NP.opt | exact NP.av | exact NP.args | refine NP.guard ?_ | refine NP.bind ?_ (fun _ => ?_) | refine NP.bind' ?_ (fun _ => ?_) | split))
  case h_25 => unfold pureR evLookup; (repeat (first | exact NP.ok | exact NP.bad | exact NP.opt | exact NP.av | exact NP.args | refine NP.guard ?_ | refine NP.bind ?_ (fun _ => ?_) | refine NP.bind' ?_ (fun _ => ?_) | split))
  case h_26 => unfold evMapUpdate; (repeat (first | exact NP.ok | exact NP.bad | exact NP.opt | exact NP.av | exact NP.args | refine NP.guard ?_ | refine NP.bind ?_ (fun _ => ?_) | refine NP.bind' ?_ (fun _ => ?_) | split))
  case h_27 => unfold evMapUpdate; (repeat (first | exact NP.ok | exact NP.bad | exact NP.opt | exact NP.av | exact NP.args | refine NP.guard ?_ | refine NP.bind ?_ (fun _ => ?_) | refine NP.bind' ?_ (fun _ => ?_) | split))
  case h_30 => unfold evNext; (repeat (first | exact NP.ok | exact NP.bad | exact NP.opt | exact NP.av | exact NP.args | refine NP.guard ?_ | refine NP.bind ?_ (fun _ => ?_) | refine NP.bind' ?_ (fun _ => ?_) | split))
  case h_31 => unfold evMakeSlice; (repeat (first | exact NP.ok | exact NP.bad | exact NP.opt | exact NP.av | exact NP.args | refine NP.guard ?_ | refine NP.bind ?_ (fun _ => ?_) | refine NP.bind' ?_ (fun _ => ?_) | split))
  all_goals (try unfold pureV); (try unfold pureR); (repeat (first | exact NP.ok | exact NP.bad | exact NP.opt | exact NP.av | exact NP.args | refine NP.guard ?_ | refine NP.bind ?_ (fun _ => ?_) | refine NP.bind' ?_ (fun _ => ?_) | split))

/-- all operations but 'defer'. -/
theorem core_all {h : Hint} {A : Option Nat} (hC : CallOK C.P call) (hW : Wide F) (hZ : ZeroOk C.P) (hF : FR n st a w g sv ow) (hd : ∀ t, o.dst = some t → t < n) (hnd : ∀ c, o.op ≠ .defer c) :
    OpWp F C.P n o st a w g ow (evCore C call h o (envOf A st)) := by
  cases hl : isLocal o with
  | true =>
    cases hr : evCore C call h o (envOf A st) with
    | ok e => exact (core_local hF hZ hd hl hr).wp hl hnd
    | panic x H' => exact absurd hr (NP.core hl x H')
    | bad _ => trivial
    | oof => trivial
  | false =>
    cases ho : o.op <;> simp only [isLocal, ho] at hl <;> first | (cases hl; done) | skip
    · rename_i c
      have : evCore C call h o (envOf A st) = evCall C call h o c (envOf A st) := by unfold evCore; rw [ho]
      rw [this]
      exact op_call hC hW hZ hF hd ho
    · rename_i x
      have hx := hF.opnd x
      have : evCore C call h o (envOf A st) = (match opd st x with | .v (.iface t y) => .panic (.iface t y) st.heap | _ => .bad "panic") := by unfold evCore; rw [ho]; rfl
      rw [this]
      split
      · rename_i t y hxv
        rw [hxv] at hx
        intro K Q hQ
        obtain ⟨u, hu, hur⟩ := hx
        refine ⟨about_none (by simp [Oper.about, ho]), ?_⟩
        rw [Oper.semAt_eq _ _ _ hnd]
        have hrun : (execOp a.eval o).run C.P w = .halt (.panic (.iface t u)) w := by simp [execOp, ho, hu, Instr.panic, goPanic]
        rw [hrun, Oper.uponIn_panic]
        exact hQ (.iface t u) w g sv ow ⟨u, rfl, hur⟩ ⟨hF.sz, hF.gc, hF.tm, hF.lk, hF.lc, hF.hr, hF.df, hF.bd, hF.gv⟩ (Fut.refl _ _ _)
      · trivial

end
end Go.Sw
/-! Operations with 'defer', and with guards. -/
namespace Go.Sw
open Go

/-- what an operation of a region comes to. -/
def StWp (n : Nat) (d : Option Nat) (run : (Act → World → Prop) → (Exit → Act → World → Prop) → Prop) (st : St) (a : Act) (w : World) (g : Gh) (ow : Ow) : Res St → Prop
  | .ok st' => ∀ (K : Act → World → Prop) (Q : Exit → Act → World → Prop), (∀ a' w' g' sv' ow', FR n st' a' w' g' sv' ow' → Fut w g ow w' g' ow' → (∀ t, d ≠ some t → a'.tmps.getD t undef = a.tmps.getD t undef) → K a' w') → run K Q
  | .panic x H' => ∀ (K : Act → World → Prop) (Q : Exit → Act → World → Prop), (∀ u w' g' sv' ow', VR g' x u → FR n { st with heap := H' } a w' g' sv' ow' → Fut w g ow w' g' ow' → Q (.panic [{ v := u, recovered := false }]) a w') → run K Q
  | _ => True

theorem put_other {a : Act} {d : Option Nat} {v : Value} {t : Nat} (h : d ≠ some t) : (a.put d v).tmps.getD t undef = a.tmps.getD t undef := by
  cases d with
  | none => rfl
  | some d =>
    have : ¬ d = t := fun e => h (by rw [e])
    simp only [Act.put, getD_put, this, false_and, if_false]

section
variable {F : Fence} {n : Nat} {o : Oper} {st : St} {a : Act} {w : World} {g : Gh} {sv : Nat → Option Nat} {ow : Ow} {C : Cfg} {call : Call}

theorem op_all {h : Hint} {A : Option Nat} (hC : CallOK C.P call) (hW : Wide F) (hrnd : F.round = none ∨ h.rnd = true) (hZ : ZeroOk C.P) (hF : FR n st a w g sv ow) (hd : ∀ t, o.dst = some t → t < n) :
    StWp n o.dst (fun K Q => o.wpIn F 0 C.P a w K Q) st a w g ow (evOp C call h A o st) := by
  have main : (∀ c, o.op ≠ .defer c) → StWp n o.dst (fun K Q => o.wpIn F 0 C.P a w K Q) st a w g ow ((evCore C call h o (envOf A st)).bind fun e => .ok (applyEff st o.dst e)) := by
    intro hnd
    have := core_all (h := h) (A := A) hC hW hZ hF hd hnd
    cases hr : evCore C call h o (envOf A st) with
    | ok e =>
      rw [hr] at this
      exact fun K Q hK => this K Q (fun v' w' g' sv' ow' h1 h2 => hK _ _ _ _ _ h1 h2 (fun t ht => put_other ht))
    | panic x H' => rw [hr] at this; exact this
    | bad _ => trivial
    | oof => trivial
  unfold evOp
  split
  · rename_i f aty ho hdst
    unfold evDefer
    split
    · rename_i k cap hr hfv
      have hro : F.round = none := by
        rcases hrnd with h | h
        · exact h
        · rw [hr] at h; cases h
      have hf := hF.opnd f
      rw [hfv] at hf
      obtain ⟨vs, hv, hvs⟩ := hf
      intro K Q hK
      refine ⟨about_none (by simp [Oper.about, ho]), ?_⟩
      rw [hro, Oper.semAt_none]
      have hrun : (execOp a.eval o).run C.P w = .ok (.defer { target := .fn (.func k) vs, args := #[] }) w := by
        simp [execOp, ho, resolve, Deferred.ofValue, hv]
      rw [hrun, Oper.uponIn_defer, hdst]
      exact hK _ _ g sv ow ⟨hF.sz, hF.gc, hF.tm, hF.lk, hF.lc, hF.hr, ⟨vs, a.defers, rfl, hvs, hF.df⟩, hF.bd, hF.gv⟩ (Fut.refl _ _ _) (fun _ _ => rfl)
    · trivial
  · trivial
  · rename_i h1 h2
    exact main (fun c hc => h1 c hc)

end
end Go.Sw
/-! Regions in their own order. -/
namespace Go.Sw
open Go

/-- an operation of a region, if its guard wants it. -/
def runOper (F : Fence) (P : Program) (ops : Array Oper) (o : Oper) (a : Act) (w : World) (K : Act → World → Prop) (Q : Exit → Act → World → Prop) : Prop :=
  if Region.wanted o (yielded ops a.tmps) then o.wpIn F 0 P a w K Q else (∀ f, o.about P w a.eval = some f → F.fn f) ∧ K (a.put o.dst undef) w

section
variable {F : Fence} {n : Nat} {o : Oper} {st : St} {a : Act} {w : World} {g : Gh} {sv : Nat → Option Nat} {ow : Ow} {C : Cfg} {call : Call} {ops : Array Oper}

theorem getD_some {ts : Array Value} {d : Nat} {v u : Value} (h : ts.getD d u = v) (hne : v ≠ u) : ts[d]? = some v := by
  by_cases hd : d < ts.size
  · simp [Array.getD, hd] at h
    simp [hd, h]
  · simp [Array.getD, hd] at h
    exact absurd h.symm hne

theorem yieldB_ok (hF : FR n st a w g sv ow) {j : Nat} {r : Option Bool} (h : yieldB ops st j = some r) : yielded ops a.tmps j = r := by
  unfold yieldB at h
  split at h
  · rename_i p hp
    split at h
    · rename_i d hdst
      have ht := hF.tm d
      split at h
      · rename_i b hs
        cases h
        rw [hs] at ht
        have ht' : a.tmps.getD d undef = .bool b := ht
        have := getD_some ht' (by simp [undef])
        simp [yielded, hp, hdst, this]
      · rename_i hs
        cases h
        rw [hs] at ht
        have ht' : a.tmps.getD d undef = undef := ht
        by_cases hd : d < a.tmps.size
        · have : a.tmps[d]? = some undef := by simp [Array.getD, hd] at ht'; simp [hd, ht']
          simp [yielded, hp, hdst, this, undef]
        · simp [yielded, hp, hdst, hd]
      · cases h
    · cases h
  · cases h

theorem skip_about (hF : FR n st a w g sv ow) (h : skipOk o st = true) : ∀ f, o.about C.P w a.eval = some f → f < nFuncs := by
  intro f hf
  unfold skipOk at h
  unfold Oper.about at hf
  split at hf
  · rename_i c ho
    rw [ho] at h
    simp only at h
    split at h
    · rename_i b hc
      simp [resolve, hc, Target.leads] at hf
    · rename_i x hc
      have hx := hF.opnd x
      split at h
      · rename_i hs
        rw [hs] at hx
        have hx' : a.eval x = undef := hx
        simp [resolve, hc, hx', Deferred.ofValue, undef] at hf
      · rename_i k cap hs
        rw [hs] at hx
        obtain ⟨vs, hv, _⟩ := hx
        simp [resolve, hc, hv, Deferred.ofValue, Target.leads] at hf
        subst hf
        exact Nat.blt_eq.mp h
      · rename_i k fs hs
        rw [hs] at hx
        obtain ⟨vs, hv, _⟩ := hx
        simp [resolve, hc, hv, Deferred.ofValue, Target.leads] at hf
        subst hf
        exact Nat.blt_eq.mp h
      · cases h
    · rename_i x name hc
      have hx := hF.opnd x
      split at h
      · rename_i hs
        rw [hs] at hx
        have hx' : a.eval x = undef := hx
        have h0 : (#[undef] ++ c.args.map a.eval)[0]? = some undef := by rw [Array.getElem?_append_left (Nat.lt_add_one 0)]; rfl
        simp [resolve, hc, hx', Target.leads, h0] at hf
        simp [undef] at hf
      · cases h
  · cases hf

theorem oper_all {h : Hint} {A : Option Nat} (hC : CallOK C.P call) (hW : Wide F) (hrnd : F.round = none ∨ h.rnd = true) (hZ : ZeroOk C.P) (hF : FR n st a w g sv ow) (hd : ∀ t, o.dst = some t → t < n) :
    StWp n o.dst (runOper F C.P ops o a w) st a w g ow (evOper C call h A ops o st) := by
  have hop := op_all (h := h) (A := A) hC hW hrnd hZ hF hd
  have yes : Region.wanted o (yielded ops a.tmps) = true → StWp n o.dst (runOper F C.P ops o a w) st a w g ow (evOp C call h A o st) := by
    intro hw
    cases hr : evOp C call h A o st with
    | ok st' => rw [hr] at hop; exact fun K Q hK => by unfold runOper; rw [if_pos hw]; exact hop K Q hK
    | panic x H' => rw [hr] at hop; exact fun K Q hK => by unfold runOper; rw [if_pos hw]; exact hop K Q hK
    | bad _ => trivial
    | oof => trivial
  have no : Region.wanted o (yielded ops a.tmps) = false → StWp n o.dst (runOper F C.P ops o a w) st a w g ow (guardR "skip" (skipOk o st) (.ok { st with tmps := putT st.tmps o.dst .skip })) := by
    intro hw
    cases hsk : skipOk o st with
    | false => trivial
    | true =>
    intro K Q hK
    unfold runOper
    rw [if_neg (by simp [hw])]
    obtain ⟨ow', h1, h2⟩ := hF.free hd (s := .skip) (v' := undef) (fun _ _ => rfl) trivial
    exact ⟨fun f hf => by rw [hW.fn]; exact skip_about hF hsk f hf, hK _ _ _ _ _ h1 h2 (fun t ht => put_other ht)⟩
  unfold evOper
  split
  · rename_i hg
    exact yes (by simp [Region.wanted, hg])
  · rename_i j want hg
    split
    · rename_i b hy
      have hy' := yieldB_ok hF hy
      split
      · rename_i hwb
        exact yes (by simp only [Region.wanted, hg, hy']; cases want <;> cases b <;> first | rfl | cases hwb)
      · rename_i hwb
        exact no (by simp only [Region.wanted, hg, hy']; cases want <;> cases b <;> first | rfl | cases hwb)
    · rename_i hy
      have hy' := yieldB_ok hF hy
      exact no (by simp [Region.wanted, hg, hy'])
    · trivial

end
end Go.Sw
/-! What operations leave of a frame's deferred calls. -/
namespace Go.Sw
open Go

section
variable {C : Cfg} {call : Call} {ops : Array Oper} {o : Oper} {st st' : St} {h : Hint} {A : Option Nat}

theorem evOp_defs (hnd : ∀ c, o.op ≠ .defer c) (he : evOp C call h A o st = .ok st') : st'.defs = st.defs := by
  unfold evOp at he
  split at he
  · rename_i ho _; exact absurd ho (hnd _)
  · rename_i ho _; exact absurd ‹o.op = _› (hnd _)
  · obtain ⟨e, _, he⟩ := Res.bind_ok he
    cases he
    rfl

theorem evOper_defs (hnd : ∀ c, o.op ≠ .defer c) (he : evOper C call h A ops o st = .ok st') : st'.defs = st.defs := by
  unfold evOper at he
  split at he
  · exact evOp_defs hnd he
  · split at he
    · split at he
      · exact evOp_defs hnd he
      · obtain ⟨_, he2⟩ := guardR_ok he; cases he2; rfl
    · obtain ⟨_, he2⟩ := guardR_ok he; cases he2; rfl
    · cases he

theorem noDefer_cons {l : List Oper} (hl : noDefer (o :: l) = true) : (∀ c, o.op ≠ .defer c) ∧ noDefer l = true := by
  simp only [noDefer, List.all_cons, Bool.and_eq_true] at hl
  refine ⟨fun c hc => ?_, hl.2⟩
  have := hl.1
  rw [hc] at this
  cases this

end
end Go.Sw
/-! What is worked out ahead is what is done. -/
namespace Go.Sw
open Go

theorem bindR_eq {α β : Type} (r : Res α) (f : α → Res β) : bindR r f = r.bind f := by cases r <;> rfl

theorem slF_eq (x : Operand) (st : St) : (slF x).fn st = opd st x := by
  cases x with
  | global g => simp only [slF, opd]; cases globs g <;> rfl
  | _ => rfl

section
variable {C : Cfg} {call : Call} {h : Hint} {ops : Array Oper} {o : Oper} {A : Option Nat} {st : St}

theorem load_plain {P : Program} {t : Nat} {p : Slot} {E : Env} {e : Eff} (he : evLoad P false t p E = .ok e) : e = { dst := e.dst } := by
  unfold evLoad at he
  obtain ⟨⟨cs, off⟩, _, h2⟩ := Res.mbind_ok he
  obtain ⟨ag, _, h3⟩ := Res.mbind_ok h2
  obtain ⟨m, _, h4⟩ := Res.mbind_ok h3
  cases ag with
  | true => obtain ⟨l, _, h5⟩ := Res.mbind_ok h4; cases h5; rfl
  | false => obtain ⟨l, _, h5⟩ := Res.mbind_ok h4; cases h5; rfl
theorem pureR_shape {r : Res Slot} {e : Eff} (he : pureR r = .ok e) : e = { dst := e.dst } := by
  obtain ⟨s, _, h2⟩ := Res.bind_ok he
  cases h2; rfl
theorem pureV_shape {r : Res AV} {e : Eff} (he : pureV r = .ok e) : e = { dst := e.dst } := by
  obtain ⟨s, _, h2⟩ := Res.bind_ok he
  cases h2; rfl
theorem pick_plain {c a b : Slot} {e : Eff} (he : evPick c a b = .ok e) : e = { dst := e.dst } := by
  unfold evPick at he
  split at he
  · split at he
    · cases he; rfl
    · split at he <;> exact pureV_shape he
  · cases he
theorem binOp_plain {P : Program} {op : BinOp} {t : Nat} {x y : Operand} {sx sy : Slot} {e : Eff} (he : evBinOp P op t x y sx sy = .ok e) : e = { dst := e.dst } := by
  unfold evBinOp at he
  split at he <;> exact pureV_shape he

theorem evLoad_env {P : Program} {t : Nat} {p : Slot} : evLoad P false t p (envOf A st) = evLoad P false t p (envOf none st) := by
  have : behind (envOf A st) p = behind (envOf none st) p := by unfold behind; rfl
  unfold evLoad
  rw [this]

theorem put_eq {r : Res Eff} {d : Nat} (hr : ∀ e, r = .ok e → e = { dst := e.dst }) : (bindR r fun e => .ok (putS st d e.dst)) = r.bind fun e => .ok (applyEff st (some d) e) := by
  cases r with
  | ok e =>
    show Res.ok (putS st d e.dst) = Res.ok (applyEff st (some d) e)
    rw [hr e rfl]
    rfl
  | _ => rfl
theorem putR_eq {r : Res Slot} {d : Nat} : (bindR r fun s => .ok (putS st d s)) = (pureR r).bind fun e => .ok (applyEff st (some d) e) := by
  cases r <;> rfl

theorem opF_eq : (opF C h o).fn call A st = evOp C call h A o st := by
  obtain ⟨dst, op, ty, ps, af, gd⟩ := o
  have gen : ∀ (op : Op), (∀ c, op ≠ .defer c) → evOp C call h A ⟨dst, op, ty, ps, af, gd⟩ st = (evCore C call h ⟨dst, op, ty, ps, af, gd⟩ (envOf A st)).bind fun e => .ok (applyEff st dst e) := by
    intro op hne
    cases op <;> first | rfl | exact absurd rfl (hne _)
  cases dst with
  | none => cases op <;> simp only [opF, bindR_eq] <;> first | rfl | exact (gen _ (fun c hc => by cases hc)).symm
  | some d =>
    cases op <;> first
      | (simp only [opF, bindR_eq]; first | rfl | exact (gen _ (fun c hc => by cases hc)).symm; done)
      | skip
    case defer c => rfl
    case move x =>
      simp only [opF]
      cases ht : takes h (some d) with
      | true => rfl
      | false =>
        rw [gen _ (fun c hc => by cases hc)]
        simp only [slF_eq, evCore, ht]
        rfl
    case load t a =>
      simp only [opF]
      cases ht : takes h (some d) with
      | true => rfl
      | false =>
        rw [gen _ (fun c hc => by cases hc)]
        simp only [slF_eq, evCore, ht]
        rw [← evLoad_env (A := A)]
        exact put_eq fun e he => load_plain he
    case fieldAddr t x f =>
      rw [gen _ (fun c hc => by cases hc)]
      simp only [opF, slF_eq, evCore]
      exact putR_eq
    case indexAddr t x i =>
      rw [gen _ (fun c hc => by cases hc)]
      simp only [opF, slF_eq, evCore]
      exact putR_eq
    case binOp op t x y ty =>
      rw [gen _ (fun c hc => by cases hc)]
      simp only [opF, slF_eq, evCore]
      exact put_eq fun e he => binOp_plain he
    case unOp op t x =>
      rw [gen _ (fun c hc => by cases hc)]
      simp only [opF, slF_eq, evCore]
      show _ = (pureV ((toAVR (opd st x)).bind fun a => Sw.opt "unOp" (evUn op a))).bind _
      cases toAVR (opd st x) with
      | ok a =>
        show (bindR (Sw.opt "unOp" (evUn op a)) fun b => Res.ok (putS st d (.v b))) = (pureV (Sw.opt "unOp" (evUn op a))).bind _
        cases Sw.opt "unOp" (evUn op a) <;> rfl
      | _ => rfl
    case pick c a b =>
      rw [gen _ (fun c hc => by cases hc)]
      simp only [opF, slF_eq, evCore]
      exact put_eq fun e he => pick_plain he

theorem operF_eq : (operF C h ops o).fn call A st = evOper C call h A ops o st := by
  unfold operF evOper
  cases o.guard with
  | none => exact opF_eq
  | some jw =>
    obtain ⟨j, want⟩ := jw
    simp only [yieldB]
    cases ops[j]? with
    | none => rfl
    | some p =>
      simp only
      cases p.dst with
      | none => rfl
      | some d =>
        simp only
        cases want <;> simp only <;> cases getT st.tmps d <;> (try rfl)
        all_goals
          rename_i x
          cases x <;> (try rfl)
          rename_i b
          cases b <;> first | rfl | exact opF_eq
end
end Go.Sw
/-! Regions in their own order: the list of operations. -/
namespace Go.Sw
open Go

/-- the destinations of operations. -/
def dstsOk (n : Nat) (l : List Oper) : Prop := ∀ o ∈ l, ∀ t, o.dst = some t → t < n

section
variable {F : Fence} {n : Nat} {st : St} {a : Act} {w : World} {g : Gh} {sv : Nat → Option Nat} {ow : Ow} {C : Cfg} {call : Call} {ops : Array Oper}

/-- what a panic leaves of a region: the heap; the temporaries that no operation writes. -/
structure PFR (n : Nat) (l : List Oper) (st : St) (H' : Heap) (a a' : Act) (w' : World) (g' : Gh) (sv' : Nat → Option Nat) (ow' : Ow) : Prop where
  fr : ∃ stk, FR n stk a' w' g' sv' ow' ∧ stk.heap = H' ∧ (noDefer l = true → stk.defs = st.defs)
  ot : ∀ t, (∀ o ∈ l, o.dst ≠ some t) → a'.tmps.getD t undef = a.tmps.getD t undef

def ListWp (F : Fence) (C : Cfg) (n : Nat) (ops : Array Oper) (l : List Oper) (st : St) (a : Act) (w : World) (g : Gh) (ow : Ow) : Res St → Prop
  | .ok st' => ∀ (Q : Exit → Act → World → Prop), (∀ a' w' g' sv' ow', FR n st' a' w' g' sv' ow' → Fut w g ow w' g' ow' → Q .normal a' w') → wpListIn F 0 C.P ops Q l a w
  | .panic x H' => ∀ (Q : Exit → Act → World → Prop), (∀ u a' w' g' sv' ow', VR g' x u → PFR n l st H' a a' w' g' sv' ow' → Fut w g ow w' g' ow' → Q (.panic [{ v := u, recovered := false }]) a' w') → wpListIn F 0 C.P ops Q l a w
  | _ => True

theorem opers_all {h : Hint} (hC : CallOK C.P call) (hW : Wide F) (hrnd : F.round = none ∨ h.rnd = true) (hZ : ZeroOk C.P) : ∀ (l : List Oper) (st : St) (a : Act) (w : World) (g : Gh) (sv : Nat → Option Nat) (ow : Ow),
    FR n st a w g sv ow → dstsOk n l → ListWp F C n ops l st a w g ow (evOpers C call h ops l st)
  | [], st, a, w, g, sv, ow, hF, _ => fun Q hQ => hQ _ _ _ _ _ hF (Fut.refl _ _ _)
  | o :: l, st, a, w, g, sv, ow, hF, hd => by
    have ho := oper_all (ops := ops) (h := h) (A := none) hC hW hrnd hZ hF (hd o (by simp))
    simp only [evOpers, bindR_eq, operF_eq]
    cases hr : evOper C call h none ops o st with
    | ok st' =>
      rw [hr] at ho
      simp only [Res.bind]
      have step : ∀ (Q : Exit → Act → World → Prop), (∀ a' w' g' sv' ow', FR n st' a' w' g' sv' ow' → Fut w g ow w' g' ow' → (∀ t, o.dst ≠ some t → a'.tmps.getD t undef = a.tmps.getD t undef) → wpListIn F 0 C.P ops Q l a' w') → wpListIn F 0 C.P ops Q (o :: l) a w :=
        fun Q hQ => ho (wpListIn F 0 C.P ops Q l) Q hQ
      cases hr2 : evOpers C call h ops l st' with
      | ok st2 =>
        intro Q hQ
        refine step Q (fun a' w' g' sv' ow' h1 h2 _ => ?_)
        have ih := opers_all hC hW hrnd hZ l st' a' w' g' sv' ow' h1 (fun o ho => hd o (by simp [ho]))
        rw [hr2] at ih
        exact ih Q (fun a2 w2 g2 sv2 ow2 h3 h4 => hQ _ _ _ _ _ h3 (h2.trans h4))
      | panic x H' =>
        intro Q hQ
        refine step Q (fun a' w' g' sv' ow' h1 h2 h0 => ?_)
        have ih := opers_all hC hW hrnd hZ l st' a' w' g' sv' ow' h1 (fun o ho => hd o (by simp [ho]))
        rw [hr2] at ih
        exact ih Q (fun u a2 w2 g2 sv2 ow2 h3 h4 h5 => hQ u a2 w2 g2 sv2 ow2 h3 ⟨by
          obtain ⟨stk, f1, f2, f3⟩ := h4.fr
          exact ⟨stk, f1, f2, fun hn => (f3 (noDefer_cons hn).2).trans (evOper_defs (noDefer_cons hn).1 hr)⟩, fun t ht => (h4.ot t (fun o' ho' => ht o' (by simp [ho']))).trans (h0 t (ht o (by simp)))⟩ (h2.trans h5))
      | bad _ => trivial
      | oof => trivial
    | panic x H' =>
      rw [hr] at ho
      intro Q hQ
      exact ho (wpListIn F 0 C.P ops Q l) Q (fun u w' g' sv' ow' h1 h2 h3 => hQ u a w' g' sv' ow' h1 ⟨⟨_, h2, rfl, fun _ => rfl⟩, fun _ _ => rfl⟩ h3)
    | bad _ => trivial
    | oof => trivial

end
end Go.Sw
/-! The end of a region. -/
namespace Go.Sw
open Go

theorem memN_iff {n : Nat} : ∀ {l : List Nat}, memN n l = true ↔ n ∈ l
  | [] => by simp [memN]
  | m :: l => by
    simp only [memN]
    cases h : Nat.beq n m with
    | true => simp [Nat.eq_of_beq_eq_true h]
    | false =>
      have : ¬ n = m := fun e => by subst e; simp at h
      simp [memN_iff (l := l), this]

theorem dropT_get (ws : List Nat) (t : Nat) : ∀ ts : List (Nat × Slot), getT (dropT ws ts) t = .undef ∨ (t ∉ ws ∧ ∃ x, getT ts t = .v x ∧ getT (dropT ws ts) t = .v x)
  | [] => .inl rfl
  | (k, s) :: l => by
    have ih := dropT_get ws t l
    simp only [dropT]
    by_cases hk : k = t
    · subst hk
      split
      · rename_i x hm
        right
        refine ⟨fun h => ?_, x, by simp [getT_cons], by simp [getT_cons]⟩
        have := memN_iff.mpr h
        rw [this] at hm; cases hm
      · left; simp [getT_cons]
    · split
      · rw [getT_cons, if_neg hk, getT_cons, if_neg hk]; exact ih
      · rw [getT_cons, if_neg hk, getT_cons, if_neg hk]; exact ih

theorem wrsOps_dst : ∀ (l : List Oper) (o : Oper) (t : Nat), o ∈ l → o.dst = some t → t ∈ wrsOps l
  | [], _, _, ho, _ => by simp at ho
  | o' :: l, o, t, ho, hd => by
    unfold wrsOps
    rcases List.mem_cons.mp ho with rfl | ho
    · exact List.mem_append_left _ (List.mem_append_left _ (by rw [hd]; exact List.mem_singleton.mpr rfl))
    · exact List.mem_append_right _ (wrsOps_dst l o t ho hd)

section
variable {n : Nat} {st : St} {a a' : Act} {w w' : World} {g g' : Gh} {sv sv' : Nat → Option Nat} {ow ow' : Ow} {l : List Oper} {H' : Heap}

/-- behind a panic of a region. -/
theorem PFR.end (hF : FR n st a w g sv ow) (hle : g.le g') (h : PFR n l st H' a a' w' g' sv' ow') (hn : noDefer l = true) :
    FR n { tmps := dropT (wrsOps l) st.tmps, locs := [], heap := H', wl := [], ht := true, defs := st.defs } a' w' g' sv' ow' := by
  obtain ⟨⟨stk, h1, h2, h3⟩, h4⟩ := h
  refine ⟨h1.sz, h1.gc, fun t => ?_, fun t => ?_, fun s cs hs => (by cases hs), (by rw [← h2]; exact h1.hr), (by rw [← h3 hn]; exact h1.df), h1.bd, hF.gv.mono hle⟩
  · rcases dropT_get (wrsOps l) t st.tmps with e | ⟨e1, x, e2, e3⟩
    · simp only [e]; trivial
    · simp only [e3]
      rw [h4 t (fun o ho hd => e1 (wrsOps_dst l o t ho hd))]
      have := hF.tm t
      rw [e2] at this
      exact VR.mono hle _ _ this
  · rcases dropT_get (wrsOps l) t st.tmps with e | ⟨e1, x, e2, e3⟩
    · simp only [e]; trivial
    · simp only [e3]; trivial

end
end Go.Sw
/-! Places of a frame's state; what comes of writes that are apart, in any order. -/
namespace Go.Sw
open Go

/-! ### Writes -/
section abst
variable {L V : Type}
/-- behind some of k writes, in their order. -/
def fold (δ : Nat → L → Option V) (D : Nat → Bool) (σ : L → V) : Nat → L → V
  | 0 => σ
  | k + 1 => fun x => match D k with | true => (δ k x).getD (fold δ D σ k x) | false => fold δ D σ k x

theorem fold_agree {δ : Nat → L → Option V} {σ : L → V} {D D' : Nat → Bool} {x : L} : ∀ (k : Nat), (∀ i, i < k → δ i x ≠ none → D i = D' i) → fold δ D σ k x = fold δ D' σ k x
  | 0, _ => rfl
  | k + 1, h => by
    have ih := fold_agree (σ := σ) k (fun i hi => h i (by omega))
    simp only [fold]
    cases hx : δ k x with
    | none => cases D k <;> cases D' k <;> simpa [hx] using ih
    | some v =>
      rw [h k (by omega) (by simp [hx])]
      cases D' k
      · exact ih
      · simp

theorem fold_last {δ : Nat → L → Option V} {σ : L → V} {D : Nat → Bool} {x : L} {j : Nat} {v : V} (hj : D j = true) (hv : δ j x = some v) : ∀ (k : Nat), j < k →
    (∀ i, j < i → i < k → D i = true → δ i x = none) → fold δ D σ k x = v
  | 0, h, _ => by omega
  | k + 1, h, ha => by
    simp only [fold]
    by_cases e : j = k
    · subst e; simp [hj, hv]
    · have ih := fold_last (σ := σ) hj hv k (by omega) (fun i h1 h2 => ha i h1 (by omega))
      cases hd : D k with
      | false => exact ih
      | true => rw [ha k (by omega) (by omega) hd]; exact ih

def add (D : Nat → Bool) (j : Nat) : Nat → Bool := fun i => D i || Nat.beq i j

theorem add_iff {D : Nat → Bool} {j i : Nat} : add D j i = true ↔ D i = true ∨ i = j := by simp [add]

/-- one more. -/
theorem fold_add {δ : Nat → L → Option V} {σ : L → V} {D : Nat → Bool} {j m : Nat} (hj : j < m) (x : L)
    (h : ∀ i, j < i → i < m → D i = true → δ j x ≠ none → δ i x = none) : fold δ (add D j) σ m x = (δ j x).getD (fold δ D σ m x) := by
  cases hx : δ j x with
  | none =>
    simp only [Option.getD_none]
    refine fold_agree m (fun i hi hne => ?_)
    have : i ≠ j := fun e => by subst e; exact hne hx
    simp [add, this]
  | some v =>
    refine fold_last (j := j) (by simp [add]) hx m hj (fun i h1 h2 h3 => ?_)
    rcases add_iff.mp h3 with h3 | h3
    · exact h i h1 h2 h3 (by simp [hx])
    · omega
end abst

/-! ### Places -/
inductive Loc where
  | t (n : Nat)
  | b (n : Nat)
  | c (r : Nat)
  | m (r : Nat)
  | w (r : Nat)
  | x (r : Nat)
  | d
inductive LV where
  | s (x : Slot)
  | b (x : Option (List Slot))
  | c (x : Option (List Slot))
  | m (x : Option (List (AV × Slot)))
  | w (x : Option (Nat × Nat × List AV))
  | x (o : Option HO)
  | d (l : List Dfr)

def cellsAt (H : Heap) (r : Nat) : Option (List Slot) := match H[r]? with | some (.cells cs) => some cs | _ => none
def mapAt (H : Heap) (r : Nat) : Option (List (AV × Slot)) := match H[r]? with | some (.map es) => some es | _ => none
def rowAt (H : Heap) (r : Nat) : Option (Nat × Nat × List AV) := match H[r]? with | some (.row v sz l) => some (v, sz, l) | _ => none
def bareHO : HO → HO
  | .cells _ => .cells []
  | .map _ => .map []
  | .row _ _ _ => .row 0 0 []
  | o => o
def bareAt (H : Heap) (r : Nat) : Option HO := (H[r]?).map bareHO

noncomputable def rd (st : St) : Loc → LV
  | .t n => .s (getT st.tmps n)
  | .b n => .b (assoc n st.locs)
  | .c r => .c (cellsAt st.heap r)
  | .m r => .m (mapAt st.heap r)
  | .w r => .w (rowAt st.heap r)
  | .x r => .x (bareAt st.heap r)
  | .d => .d st.defs

theorem heap_ext {H H' : Heap} (hc : ∀ r, cellsAt H r = cellsAt H' r) (hm : ∀ r, mapAt H r = mapAt H' r) (hw : ∀ r, rowAt H r = rowAt H' r) (hx : ∀ r, bareAt H r = bareAt H' r) : H = H' := by
  apply List.ext_getElem?
  intro r
  have c := hc r; have m := hm r; have w := hw r; have x := hx r
  unfold cellsAt at c; unfold mapAt at m; unfold rowAt at w; unfold bareAt at x
  cases h : H[r]? with
  | none =>
    rw [h] at x
    cases h' : H'[r]? with
    | none => rfl
    | some o => rw [h'] at x; cases x
  | some o =>
    rw [h] at x c m w
    cases h' : H'[r]? with
    | none => rw [h'] at x; cases x
    | some o' =>
      rw [h'] at x c m w
      cases o <;> cases o' <;> simp [bareHO] at x c m w ⊢ <;> first | assumption | (subst_vars; try simp) | skip
      all_goals (try (obtain ⟨_, _, _⟩ := w; subst_vars; simp))

/-- a frame's state is what lies at its places. -/
theorem FR.ext {n : Nat} {st st' : St} {a : Act} {w : World} {g : Gh} {sv : Nat → Option Nat} {ow : Ow} (hF : FR n st a w g sv ow) (h : ∀ x, rd st' x = rd st x) : FR n st' a w g sv ow := by
  have ht : ∀ t, getT st'.tmps t = getT st.tmps t := fun t => by have := h (.t t); simpa [rd] using this
  have hb : ∀ t, assoc t st'.locs = assoc t st.locs := fun t => by have := h (.b t); simpa [rd] using this
  have hd : st'.defs = st.defs := by have := h .d; simpa [rd] using this
  have hh : st'.heap = st.heap := heap_ext (fun r => by have := h (.c r); simpa [rd] using this) (fun r => by have := h (.m r); simpa [rd] using this) (fun r => by have := h (.w r); simpa [rd] using this) (fun r => by have := h (.x r); simpa [rd] using this)
  refine ⟨hF.sz, hF.gc, fun t => by rw [ht]; exact hF.tm t, fun t => by rw [ht]; simpa only [hb] using hF.lk t, fun s cs hs => hF.lc s cs (by rw [← hb]; exact hs), by rw [hh]; exact hF.hr, by rw [hd]; exact hF.df, hF.bd, hF.gv⟩

end Go.Sw
/-! What an operation looks at and writes: it does the same wherever it finds the same. -/
namespace Go.Sw
open Go

/-- a write of an object of the heap. -/
def HW (f : Foot) (E : Env) (r : Nat) (y : HO) : Prop :=
  (f.wc = true ∧ ∃ cs cs', E.H[r]? = some (HO.cells cs) ∧ y = .cells cs') ∨
  (f.wm = true ∧ ∃ es es', E.H[r]? = some (HO.map es) ∧ y = .map es') ∨
  (f.wr = true ∧ ∃ v sz l v' sz' l', E.H[r]? = some (HO.row v sz l) ∧ y = .row v' sz' l') ∨
  (f.al = true ∧ E.A = some r ∧ E.H[r]? = some HO.free ∧ ((∃ cs, y = .cells cs) ∨ (∃ es, y = .map es) ∨ ∃ v sz l, y = .row v sz l))

inductive HSame (f : Foot) (E E2 : Env) : Option Heap → Option Heap → Prop
  | none : HSame f E E2 none none
  | all (h : f.all = true) (H : Heap) : HSame f E E2 (some H) (some H)
  | set (r : Nat) (y : HO) (hw : HW f E r y) : HSame f E E2 (some (E.H.set r y)) (some (E2.H.set r y))

structure Same (f : Foot) (E E2 : Env) (e e2 : Eff) : Prop where
  dst : e2.dst = e.dst
  src : e2.src = e.src
  box : e2.box = e.box
  hp : HSame f E E2 e.heap e2.heap
  ws : ∀ t s, e.src = some (t, s) → t ∈ f.wt
  wb : ∀ s cs, e.box = some (s, cs) → s ∈ f.ws

/-- both find the same. -/
structure Agree (f : Foot) (o : Oper) (E E2 : Env) : Prop where
  A : E2.A = E.A
  S : ∀ x ∈ o.op.operands.toList, E2.S x = E.S x
  B : ∀ s ∈ f.rs, E2.B s = E.B s
  c : f.rc = true → ∀ (r : Nat) (cs : List Slot), E.H[r]? = some (HO.cells cs) → E2.H[r]? = some (HO.cells cs)
  m : f.rm = true → ∀ (r : Nat) (es : List (AV × Slot)), E.H[r]? = some (HO.map es) → E2.H[r]? = some (HO.map es)
  w : f.rr = true → ∀ (r v sz : Nat) (l : List AV), E.H[r]? = some (HO.row v sz l) → E2.H[r]? = some (HO.row v sz l)
  x : f.al = true → ∀ (r : Nat), E.A = some r → E.H[r]? = some HO.free → E2.H[r]? = some HO.free
  al : f.al = true → E.A ≠ none
  all : f.all = true → E2.H = E.H
  ra : f.ra = true → E2.H = E.H

section
variable {f : Foot} {o : Oper} {E E2 : Env} {e e2 : Eff}

theorem Same.plain {s : Slot} : Same f E E2 { dst := s } { dst := s } := ⟨rfl, rfl, rfl, .none, by simp, by simp⟩

theorem handed_T {S : Operand → Slot} {x : Operand} {t : Nat} {s : Slot} (h : handed x (S x) = some (t, s)) : t ∈ handedT S x := by
  unfold handed at h
  unfold handedT
  split at h
  · cases h
  · cases h
  · rename_i t' s' hs hn
    cases h
    split
    · rename_i y hy; exact absurd hy (hs y)
    · rename_i hy; exact absurd hy hn
    · simp [tmpT]
  · cases h

theorem Same.hand {S : Operand → Slot} {x : Operand} {s : Slot} (h : ∀ t ∈ handedT S x, t ∈ f.wt) : Same f E E2 { dst := s, src := handed x (S x) } { dst := s, src := handed x (S x) } :=
  ⟨rfl, rfl, rfl, .none, fun t s he => h t (handed_T he), by simp⟩

theorem opt_eq {α : Type} {why : String} {x : Option α} {y : α} (h : x = some y) : opt why x = .ok y := by rw [h]; rfl

/-- the same behind both. -/
def SameR (f : Foot) (E E2 : Env) (r r2 : Res Eff) : Prop := ∀ e, r = .ok e → ∃ e2, r2 = .ok e2 ∧ Same f E E2 e e2

theorem SameR.ofPlain {r : Res Eff} (h : ∀ e, r = .ok e → e.src = none ∧ e.box = none ∧ e.heap = none) : SameR f E E2 r r := fun e he => by
  obtain ⟨h1, h2, h3⟩ := h e he
  exact ⟨e, he, rfl, rfl, rfl, by rw [h3]; exact .none, by simp [h1], by simp [h2]⟩

theorem pureR_plain {r : Res Slot} {e : Eff} (h : pureR r = .ok e) : e.src = none ∧ e.box = none ∧ e.heap = none := by
  obtain ⟨s, _, h⟩ := Res.bind_ok h
  cases h
  exact ⟨rfl, rfl, rfl⟩
theorem pureV_plain {r : Res AV} {e : Eff} (h : pureV r = .ok e) : e.src = none ∧ e.box = none ∧ e.heap = none := by
  obtain ⟨s, _, h⟩ := Res.bind_ok h
  cases h
  exact ⟨rfl, rfl, rfl⟩

theorem SameR.pureR {r : Res Slot} : SameR f E E2 (pureR r) (pureR r) := SameR.ofPlain fun _ h => pureR_plain h
theorem SameR.pureV {r : Res AV} : SameR f E E2 (pureV r) (pureV r) := SameR.ofPlain fun _ h => pureV_plain h

theorem SameR.bind {α : Type} {r : Res α} {k k2 : α → Res Eff} (h : ∀ x, r = .ok x → SameR f E E2 (k x) (k2 x)) : SameR f E E2 (r >>= k) (r >>= k2) := fun e he => by
  obtain ⟨x, hx, he⟩ := Res.mbind_ok he
  obtain ⟨e2, h2, hs⟩ := h x hx e he
  exact ⟨e2, by rw [hx]; exact h2, hs⟩

theorem SameR.guard {why : String} {b : Bool} {r r2 : Res Eff} (h : b = true → SameR f E E2 r r2) : SameR f E E2 (guardR why b r) (guardR why b r2) := fun e he => by
  obtain ⟨hb, he⟩ := guardR_ok he
  obtain ⟨e2, h2, hs⟩ := h hb e he
  exact ⟨e2, by rw [hb]; exact h2, hs⟩

theorem SameR.bad {why : String} {r2 : Res Eff} : SameR f E E2 (.bad why) r2 := fun e he => by cases he
theorem SameR.ok (h : Same f E E2 e e2) : SameR f E E2 (.ok e) (.ok e2) := fun e' he => by cases he; exact ⟨e2, rfl, h⟩

theorem argsR_map {S S2 : Operand → Slot} {l : List Operand} (h : ∀ x ∈ l, S2 x = S x) : l.map S2 = l.map S := List.map_congr_left h

/-- what lies behind a pointer. -/
theorem behind_same {p : Slot} {cs : List Slot} {off : Nat} (hB : ∀ s ∈ locOf p, E2.B s = E.B s) (hc : isRef p = true → ∀ (r : Nat) (cs : List Slot), E.H[r]? = some (HO.cells cs) → E2.H[r]? = some (HO.cells cs))
    (hw : isEr p = true → ∀ (r v sz : Nat) (l : List AV), E.H[r]? = some (HO.row v sz l) → E2.H[r]? = some (HO.row v sz l)) (h : behind E p = some (cs, off)) : behind E2 p = some (cs, off) := by
  unfold behind at h ⊢
  cases p with
  | loc s o => simp only at h ⊢; rw [hB s (by simp [locOf])]; exact h
  | imm l => exact h
  | er r ver i j =>
    simp only at h ⊢
    split at h
    · rename_i ver' sz l hr; rw [hw rfl r _ _ _ hr]; exact h
    · cases h
  | v x =>
    cases x with
    | ref r o =>
      simp only at h ⊢
      split at h
      · rename_i cs' hr; rw [hc rfl r _ hr]; exact h
      · cases h
    | _ => cases h
  | _ => cases h

theorem setBehind_same {p : Slot} {cs : List Slot} {off n : Nat} {e e' : Eff} (hb : e.box = none) (hh : e.heap = none) (hs : ∀ t s, e.src = some (t, s) → t ∈ f.wt)
    (hws : ∀ s ∈ locOf p, s ∈ f.ws) (hc : isRef p = true → f.wc = true ∧ ∀ (r : Nat) (cs : List Slot), E.H[r]? = some (HO.cells cs) → E2.H[r]? = some (HO.cells cs))
    (hw : isEr p = true → f.wr = true ∧ ∀ (r v sz : Nat) (l : List AV), E.H[r]? = some (HO.row v sz l) → E2.H[r]? = some (HO.row v sz l)) (hbe : behind E p ≠ none) (h : setBehind E p cs off n e = some e') :
    ∃ e2, setBehind E2 p cs off n e = some e2 ∧ Same f E E2 e' e2 := by
  unfold setBehind at h ⊢
  cases p with
  | loc s o => simp only at h ⊢; cases h; exact ⟨_, rfl, rfl, rfl, rfl, by rw [hh]; exact .none, hs, fun s' cs' he => by cases he; exact hws _ (by simp [locOf])⟩
  | er r ver i j =>
    simp only at h ⊢
    split at h
    · rename_i ver' sz l hr
      rw [(hw rfl).2 r _ _ _ hr]
      simp only
      split at h
      · rename_i y ys h1 h2 h3
        cases h
        exact ⟨_, rfl, rfl, rfl, rfl, .set r _ (.inr (.inr (.inl ⟨(hw rfl).1, _, _, _, _, _, _, hr, rfl⟩))), hs, by simp [hb]⟩
      · cases h
    · cases h
  | v x =>
    cases x with
    | ref r o =>
      simp only at h ⊢
      cases h
      have : ∃ cs : List Slot, E.H[r]? = some (HO.cells cs) := by
        unfold behind at hbe
        simp only at hbe
        split at hbe
        · exact ⟨_, ‹_›⟩
        · exact absurd rfl hbe
      obtain ⟨cs0, h0⟩ := this
      exact ⟨_, rfl, rfl, rfl, rfl, .set r _ (.inl ⟨(hc rfl).1, _, _, h0, rfl⟩), hs, by simp [hb]⟩
    | _ => cases h
  | _ => cases h

theorem load_same {P : Program} {take : Bool} {t : Nat} {p : Slot} (hB : ∀ s ∈ locOf p, E2.B s = E.B s) (hc : isRef p = true → ∀ (r : Nat) (cs : List Slot), E.H[r]? = some (HO.cells cs) → E2.H[r]? = some (HO.cells cs))
    (hw : isEr p = true → ∀ (r v sz : Nat) (l : List AV), E.H[r]? = some (HO.row v sz l) → E2.H[r]? = some (HO.row v sz l)) (h1 : take = true → ∀ s ∈ locOf p, s ∈ f.ws) (h2 : take = true → isRef p = true → f.wc = true) (h3 : take = true → isEr p = true → f.wr = true) :
    SameR f E E2 (evLoad P take t p E) (evLoad P take t p E2) := by
  intro e he
  unfold evLoad at he ⊢
  obtain ⟨⟨cs, off⟩, hb, he1⟩ := Res.mbind_ok he
  have hb' := opt_ok hb
  have hb2 := behind_same hB hc hw hb'
  rw [hb2]
  clear he
  revert e
  show SameR f E E2 _ _
  refine SameR.bind fun ag _ => SameR.bind fun n _ => ?_
  cases ag with
  | true =>
    refine SameR.bind fun l _ => ?_
    cases take with
    | false => exact SameR.ok Same.plain
    | true =>
      simp only
      cases allV l with
      | some xs => exact SameR.ok Same.plain
      | none =>
        intro e he
        obtain ⟨e2, g1, g2⟩ := setBehind_same (f := f) (E2 := E2) rfl rfl (by simp) (h1 rfl) (fun h => ⟨h2 rfl h, hc h⟩) (fun h => ⟨h3 rfl h, hw h⟩) (by rw [hb']; simp) (opt_ok he)
        exact ⟨e2, opt_eq g1, g2⟩
  | false =>
    refine SameR.bind fun s _ => ?_
    cases take with
    | false => exact SameR.ok Same.plain
    | true =>
      simp only
      split
      · exact SameR.ok Same.plain
      · intro e he
        obtain ⟨e2, g1, g2⟩ := setBehind_same (f := f) (E2 := E2) rfl rfl (by simp) (h1 rfl) (fun h => ⟨h2 rfl h, hc h⟩) (fun h => ⟨h3 rfl h, hw h⟩) (by rw [hb']; simp) (opt_ok he)
        exact ⟨e2, opt_eq g1, g2⟩

theorem store_same {P : Program} {t : Nat} {p : Slot} {x : Operand} (hx : E2.S x = E.S x) (hB : ∀ s ∈ locOf p, E2.B s = E.B s) (hc : isRef p = true → ∀ (r : Nat) (cs : List Slot), E.H[r]? = some (HO.cells cs) → E2.H[r]? = some (HO.cells cs))
    (hw : isEr p = true → ∀ (r v sz : Nat) (l : List AV), E.H[r]? = some (HO.row v sz l) → E2.H[r]? = some (HO.row v sz l)) (h0 : ∀ t ∈ handedT E.S x, t ∈ f.wt) (h1 : ∀ s ∈ locOf p, s ∈ f.ws) (h2 : isRef p = true → f.wc = true) (h3 : isEr p = true → f.wr = true) :
    SameR f E E2 (evStore P t p x E) (evStore P t p x E2) := by
  intro e he
  unfold evStore at he ⊢
  obtain ⟨⟨cs, off⟩, hb, he1⟩ := Res.mbind_ok he
  have hb' := opt_ok hb
  have hb2 := behind_same hB hc hw hb'
  rw [hb2, hx]
  clear he
  revert e
  show SameR f E E2 _ _
  refine SameR.bind fun n _ => SameR.guard fun _ => ?_
  intro e he
  obtain ⟨e2, g1, g2⟩ := setBehind_same (f := f) (E2 := E2) rfl rfl (fun t s he => h0 t (handed_T he)) h1 (fun h => ⟨h2 h, hc h⟩) (fun h => ⟨h3 h, hw h⟩) (by rw [hb']; simp) (opt_ok he)
  exact ⟨e2, opt_eq g1, g2⟩

/-- a new object. -/
theorem lay_same {x : HO} {src : Option (Nat × Slot)} {g : Nat → Slot} (hA : E2.A = E.A) (hal : f.al = true) (hx : ∀ (r : Nat), E.A = some r → E.H[r]? = some HO.free → E2.H[r]? = some HO.free) (hne : E.A ≠ none)
    (hok : layOk E = true) (hs : ∀ t s, src = some (t, s) → t ∈ f.wt) (hk : (∃ cs, x = .cells cs) ∨ (∃ es, x = .map es) ∨ ∃ v sz l, x = .row v sz l) :
    layOk E2 = true ∧ Same f E E2 { dst := g (lay E x).1, src := src, heap := some (lay E x).2 } { dst := g (lay E2 x).1, src := src, heap := some (lay E2 x).2 } := by
  unfold layOk at hok ⊢
  unfold lay
  rw [hA]
  cases hr : E.A with
  | none => exact absurd hr hne
  | some r =>
    rw [hr] at hok
    simp only at hok ⊢
    have hf : E.H[r]? = some HO.free := by
      revert hok
      split
      · intro _; assumption
      · intro h; cases h
    rw [hx r hr hf]
    exact ⟨rfl, rfl, rfl, rfl, .set r x (.inr (.inr (.inr ⟨hal, hr, hf, hk⟩))), hs, by simp⟩

theorem SameR.lay {why : String} {x : HO} {src : Option (Nat × Slot)} {g : Nat → Slot} (hA : E2.A = E.A) (hal : f.al = true) (hx : ∀ (r : Nat), E.A = some r → E.H[r]? = some HO.free → E2.H[r]? = some HO.free) (hne : E.A ≠ none)
    (hs : ∀ t s, src = some (t, s) → t ∈ f.wt) (hk : (∃ cs, x = .cells cs) ∨ (∃ es, x = .map es) ∨ ∃ v sz l, x = .row v sz l) :
    SameR f E E2 (guardR why (layOk E) (.ok { dst := g (Sw.lay E x).1, src := src, heap := some (Sw.lay E x).2 })) (guardR why (layOk E2) (.ok { dst := g (Sw.lay E2 x).1, src := src, heap := some (Sw.lay E2 x).2 })) := by
  intro e he
  obtain ⟨hb, he⟩ := guardR_ok he
  cases he
  obtain ⟨h1, h2⟩ := lay_same (g := g) hA hal hx hne hb hs hk
  exact ⟨_, by rw [h1]; rfl, h2⟩

theorem newBox_same {h : Hint} {d : Option Nat} {cs : List Slot} {src : Option (Nat × Slot)} (hA : E2.A = E.A) (hal : onHeap h d = true → f.al = true ∧ (∀ (r : Nat), E.A = some r → E.H[r]? = some HO.free → E2.H[r]? = some HO.free) ∧ E.A ≠ none)
    (hB : onHeap h d = false → ∀ s, d = some s → s ∈ f.ws ∧ E2.B s = E.B s) (hs : ∀ t s, src = some (t, s) → t ∈ f.wt) : SameR f E E2 (newBox h d cs src E) (newBox h d cs src E2) := by
  unfold newBox
  cases d with
  | none => exact SameR.bad
  | some d =>
    simp only
    refine SameR.guard fun _ => ?_
    cases hm : memN d h.esc with
    | true =>
      have ⟨a1, a2, a3⟩ := hal (by simp [onHeap, hm])
      exact SameR.lay (g := fun r => .v (.ref r 0)) hA a1 a2 a3 hs (.inl ⟨_, rfl⟩)
    | false =>
      have ⟨a1, a2⟩ := hB (by simp [onHeap, hm]) d rfl
      simp only [a2]
      cases E.B d with
      | some _ => exact SameR.bad
      | none => exact SameR.ok ⟨rfl, rfl, rfl, .none, hs, fun s cs he => by cases he; exact a1⟩

end
end Go.Sw
/-! All operations but 'defer': they do the same wherever they find the same. -/
namespace Go.Sw
open Go

section
variable {o : Oper} {st st2 : St} {A : Option Nat} {C : Cfg} {call : Call} {h : Hint}

theorem mem_tmps {t : Nat} : ∀ {l : List Operand}, Operand.tmp t ∈ l → t ∈ tmpsOf l
  | .tmp u :: l, hm => by
    rcases List.mem_cons.mp hm with e | e
    · cases e; simp [tmpsOf]
    · simp [tmpsOf, mem_tmps e]
  | .const _ :: l, hm => by rcases List.mem_cons.mp hm with e | e; (· cases e); simpa [tmpsOf] using mem_tmps e
  | .global _ :: l, hm => by rcases List.mem_cons.mp hm with e | e; (· cases e); simpa [tmpsOf] using mem_tmps e
  | .func _ :: l, hm => by rcases List.mem_cons.mp hm with e | e; (· cases e); simpa [tmpsOf] using mem_tmps e

/-- an operation that looks at its operands alone. -/
theorem evCore_all (hf : (footOp C h o (opd st)).all = true) (hag : Agree (footOp C h o (opd st)) o (envOf A st) (envOf A st2)) :
    evCore C call h o (envOf A st2) = evCore C call h o (envOf A st) := by
  have hH : st2.heap = st.heap := hag.all hf
  have hS := hag.S
  simp only [envOf] at hS
  unfold evCore
  cases ho : o.op <;> simp only [envOf] <;> (try (simp only [footOp, ho] at hf; first | (cases hf; done) | (split at hf <;> first | (cases hf; done))))
  case assign x =>
    rw [ho] at hS
    have hx := hS x (by simp [Op.operands])
    rw [hx, hH]
    simp only [evFreeze]
  case panic x =>
    rw [ho] at hS
    rw [hS x (by simp [Op.operands]), hH]
  case call c =>
    rw [ho] at hS
    have hargs : c.args.toList.map (opd st2) = c.args.toList.map (opd st) := argsR_map fun x hx => hS x (by simp [Op.operands, Go.Call.operands]; right; simpa using hx)
    unfold evCall
    cases hc : c.callee with
    | builtin b => simp only [footOp, ho, hc] at hf; cases b <;> simp at hf <;> (split at hf <;> simp at hf)
    | value g =>
      have := hS g (by simp [Op.operands, Go.Call.operands, hc])
      simp only [this, hargs, hH]
    | invoke x name =>
      have := hS x (by simp [Op.operands, Go.Call.operands, hc])
      simp only [this, hargs, hH]
  all_goals (rw [ho] at hf; simp only [footOp] at hf; try (split at hf <;> cases hf))

theorem quiet_noRefs {g : Nat} {args : List Slot} (hq : quietCall C g args = true) : ∃ xs, argsR args = .ok xs ∧ C.pure g = true ∧ noRefs xs = true := by
  unfold quietCall at hq
  split at hq
  · rename_i xs hx
    simp only [Bool.and_eq_true] at hq
    exact ⟨xs, hx, hq.1, hq.2⟩
  · cases hq

theorem SameR.bind2 {α : Type} {f : Foot} {E E2 : Env} {r r2 : Res α} {k k2 : α → Res Eff} (hr : ∀ x, r = .ok x → r2 = .ok x) (h : ∀ x, r = .ok x → SameR f E E2 (k x) (k2 x)) : SameR f E E2 (r >>= k) (r2 >>= k2) := fun e he => by
  obtain ⟨x, hx, he⟩ := Res.mbind_ok he
  obtain ⟨e2, h2, hs⟩ := h x hx e he
  exact ⟨e2, by rw [hr x hx]; exact h2, hs⟩

theorem appended_same {H H2 : Heap} {y : Slot} (hy : isHsl y = true → ∀ (r v sz : Nat) (l : List AV), H[r]? = some (HO.row v sz l) → H2[r]? = some (HO.row v sz l)) : ∀ ys, appended H y = .ok ys → appended H2 y = .ok ys := by
  intro ys h
  unfold appended at h ⊢
  split at h
  · rename_i r ver sz off len
    have hh := opt_ok h
    refine opt_eq ?_
    unfold rowPart at hh ⊢
    split at hh
    · rename_i ver' sz' l hr
      rw [hy rfl r _ _ _ hr]
      exact hh
    · cases hh
  all_goals exact h

theorem append_same {f : Foot} {E E2 : Env} {P : Program} {hp : Bool} {t : Nat} {x : Operand} {S : Operand → Slot} {y : Slot} (hA : E2.A = E.A) (hT : ∀ t ∈ handedT S x, t ∈ f.wt) (hr : isHsl (S x) = true → f.wr = true ∧ ∀ (r v sz : Nat) (l : List AV), E.H[r]? = some (HO.row v sz l) → E2.H[r]? = some (HO.row v sz l))
    (hal : hp = true → f.al = true ∧ (∀ (r : Nat), E.A = some r → E.H[r]? = some HO.free → E2.H[r]? = some HO.free) ∧ E.A ≠ none)
    (hy : isHsl y = true → ∀ (r v sz : Nat) (l : List AV), E.H[r]? = some (HO.row v sz l) → E2.H[r]? = some (HO.row v sz l)) :
    SameR f E E2 (evAppend P hp t x (S x) y E) (evAppend P hp t x (S x) y E2) := by
  unfold evAppend
  split
  · refine SameR.bind fun sz _ => SameR.bind fun by_ _ => SameR.bind2 (appended_same hy) fun ys _ => SameR.guard fun _ => ?_
    split
    · refine SameR.guard fun _ => ?_
      cases hp with
      | false => exact SameR.ok Same.plain
      | true =>
        intro e he
        obtain ⟨hb, he1⟩ := guardR_ok he
        simp only [Bool.and_eq_true] at hb
        cases he1
        obtain ⟨a1, a2, a3⟩ := hal rfl
        obtain ⟨h1, h2⟩ := lay_same (f := f) (x := .row 0 sz ys) (src := none) (g := fun r => .v (.hsl r 0 sz 0 ys.length)) hA a1 a2 a3 hb.1 (by simp) (.inr (.inr ⟨_, _, _, rfl⟩))
        exact ⟨_, by rw [h1, hb.2]; rfl, h2⟩
    · rename_i sz' l hx
      refine SameR.guard fun _ => ?_
      cases hp with
      | false => simp only; exact SameR.ok ⟨rfl, rfl, rfl, .none, fun t s he => hT t (handed_T he), by simp⟩
      | true =>
        intro e he
        obtain ⟨hb, he1⟩ := guardR_ok he
        simp only [Bool.and_eq_true] at hb
        cases he1
        obtain ⟨a1, a2, a3⟩ := hal rfl
        obtain ⟨h1, h2⟩ := lay_same (f := f) (x := .row 0 sz ys) (src := handed x (S x)) (g := fun r => .v (.hsl r 0 sz 0 ys.length)) hA a1 a2 a3 hb.1.1 (fun t s he => hT t (handed_T he)) (.inr (.inr ⟨_, _, _, rfl⟩))
        exact ⟨_, by rw [h1, hb.1.2, hb.2]; rfl, h2⟩
    · rename_i r ver sz0 n hx
      obtain ⟨a1, a2⟩ := hr (by rw [hx]; rfl)
      intro e he
      split at he
      · rename_i ver' sz' l hrow
        rw [a2 r _ _ _ hrow]
        revert e
        refine SameR.guard fun _ => SameR.ok ⟨rfl, rfl, rfl, .set r _ (.inr (.inr (.inl ⟨a1, _, _, _, _, _, _, hrow, rfl⟩))), by simp, by simp⟩
      · cases he
    · exact SameR.bad
  · exact SameR.bad

theorem natOf_congr {S S2 : Operand → Slot} {lo : Option Operand} (h : ∀ x, lo = some x → S2 x = S x) : lo.map S2 = lo.map S := by
  cases lo with
  | none => rfl
  | some x => simp [h x rfl]


theorem doCall_plain {f : Fnv} {args : List Slot} {cap : List AV} {H : Heap} {e : Eff} (he : doCall C call f args cap H = .ok e) : e.src = none ∧ e.box = none := by
  unfold doCall at he
  obtain ⟨xs, _, he⟩ := Res.bind_ok he
  split at he
  · unfold pureCall at he
    split at he <;> first | (cases he; done) | (obtain ⟨_, he⟩ := guardR_ok he; cases he; done) | (obtain ⟨_, he⟩ := guardR_ok he; cases he; exact ⟨rfl, rfl⟩)
  · split at he
    · unfold roCall at he
      split at he <;> first | (cases he; done) | (obtain ⟨_, he⟩ := guardR_ok he; cases he; exact ⟨rfl, rfl⟩)
    · unfold openCall at he
      split at he <;> first | (cases he; done) | (cases he; exact ⟨rfl, rfl⟩)

theorem Same.refl_all {f : Foot} {E E2 : Env} {e : Eff} (hf : f.all = true) (h1 : ∀ t s, e.src = some (t, s) → t ∈ f.wt) (h2 : e.box = none) : Same f E E2 e e := by
  refine ⟨rfl, rfl, rfl, ?_, h1, by simp [h2]⟩
  cases e.heap with
  | none => exact .none
  | some H => exact .all hf H

theorem assign_src {x : Operand} {S : Operand → Slot} {e : Eff} (he : evAssign x (S x) = .ok e) : (∀ t s, e.src = some (t, s) → t ∈ handedT S x) ∧ e.box = none := by
  cases he
  exact ⟨fun t s hs => handed_T hs, rfl⟩

theorem core_all_plain (hf : (footOp C h o (opd st)).all = true) {e : Eff} (he : evCore C call h o (envOf A st) = .ok e) : (∀ t s, e.src = some (t, s) → t ∈ (footOp C h o (opd st)).wt) ∧ e.box = none := by
  by_cases hasg : ∃ x, o.op = .assign x
  · obtain ⟨x, ho⟩ := hasg
    unfold evCore at he
    rw [ho] at he
    simp only [footOp, ho] at hf ⊢
    cases hz : freezes h o.dst with
    | false => rw [hz] at hf; cases hf
    | true =>
      rw [hz] at he
      simp only at he ⊢
      unfold evFreeze at he
      split at he
      · split at he
        · obtain ⟨_, he2⟩ := guardR_ok he; cases he2; exact ⟨by simp, rfl⟩
        · cases he
      · obtain ⟨h1, h2⟩ := assign_src (S := opd st) he
        exact ⟨fun t s hs => List.mem_append_right _ (h1 t s hs), h2⟩
  suffices hq : e.src = none ∧ e.box = none from ⟨by simp [hq.1], hq.2⟩
  cases ho : o.op <;> (try (simp only [footOp, ho] at hf; first | (cases hf; done) | (split at hf <;> first | (cases hf; done))))
  case assign x => exact absurd ⟨x, ho⟩ hasg
  case panic x => unfold evCore at he; rw [ho] at he; simp only at he; split at he <;> cases he
  case defer x => unfold evCore at he; rw [ho] at he; cases he
  case call c =>
    unfold evCore at he; rw [ho] at he
    simp only at he
    unfold evCall at he
    cases hc : c.callee with
    | builtin b => simp only [footOp, ho, hc] at hf; cases b <;> simp at hf <;> (split at hf <;> simp at hf)
    | value g =>
      rw [hc] at he
      simp only at he
      split at he <;> first | (cases he; done) | exact doCall_plain he
    | invoke x name =>
      rw [hc] at he
      simp only at he
      split at he
      · split at he <;> first | (cases he; done) | exact doCall_plain he
      · cases he

theorem core_same (hag : Agree (footOp C h o (opd st)) o (envOf A st) (envOf A st2)) : SameR (footOp C h o (opd st)) (envOf A st) (envOf A st2) (evCore C call h o (envOf A st)) (evCore C call h o (envOf A st2)) := by
  cases hf : (footOp C h o (opd st)).all with
  | true =>
    rw [evCore_all hf hag]
    intro e he
    obtain ⟨h1, h2⟩ := core_all_plain hf he
    exact ⟨e, he, Same.refl_all hf h1 h2⟩
  | false =>
    have hS : ∀ x ∈ o.op.operands.toList, opd st2 x = opd st x := hag.S
    have hfo : footOp C h o (opd st) = footOp C h o (opd st) := rfl
    revert hag hf
    generalize hF : footOp C h o (opd st) = F at hfo ⊢
    intro hag hf
    have hE : ∀ x, (envOf A st).S x = opd st x := fun _ => rfl
    have hE2 : ∀ x, (envOf A st2).S x = opd st2 x := fun _ => rfl
    unfold evCore
    cases ho : o.op <;> simp only [ho, Op.operands] at hS <;> simp only [footOp, ho] at hF <;> simp only [hE, hE2] <;> (try exact SameR.bad)
    case move x =>
      rw [hS x (by simp)]
      cases ht : takes h o.dst with
      | true => subst hF; exact SameR.ok (Same.hand (S := opd st) (fun t hm => by simp [ht, hm]))
      | false => exact SameR.ok Same.plain
    case assign x =>
      rw [hS x (by simp)]
      cases hz : freezes h o.dst with
      | true => rw [hz] at hF; subst hF; cases hf
      | false =>
        rw [hz] at hF
        simp only
        subst hF
        exact SameR.ok (Same.hand (S := opd st) (fun t hm => by simp [hm]))
    case pick c a b =>
      rw [hS c (by simp), hS a (by simp), hS b (by simp)]
      refine SameR.ofPlain fun e he => ?_
      unfold evPick at he
      split at he
      · split at he
        · cases he; exact ⟨rfl, rfl, rfl⟩
        · split at he <;> exact pureV_plain he
      · cases he
    case nilCheck x =>
      rw [hS x (by simp)]
      refine SameR.ofPlain fun e he => ?_
      unfold evNilCheck at he
      split at he <;> cases he <;> exact ⟨rfl, rfl, rfl⟩
    case binOp op t x y ty => rw [hS x (by simp), hS y (by simp)]; unfold evBinOp; split <;> exact SameR.pureV
    case unOp op t x => rw [hS x (by simp)]; exact SameR.pureV
    case convert a b x => rw [hS x (by simp)]; exact SameR.pureV
    case makeInterface t x => rw [hS x (by simp)]; exact SameR.pureV
    case fieldAddr t x f => rw [hS x (by simp)]; exact SameR.pureR
    case field t x f => rw [hS x (by simp)]; exact SameR.pureV
    case indexAddr t x i => rw [hS x (by simp), hS i (by simp)]; exact SameR.pureR
    case index t x i => rw [hS x (by simp), hS i (by simp)]; exact SameR.pureV
    case typeAssert x a b ok => rw [hS x (by simp)]; exact SameR.pureR
    case alloc t =>
      refine SameR.bind fun z _ => newBox_same rfl (fun hh => ?_) (fun hh s hs => ?_) (by simp)
      · rw [hh] at hF; subst hF; exact ⟨rfl, fun r => hag.x rfl r, hag.al rfl⟩
      · rw [hh] at hF; subst hF; exact ⟨by simp [hs, dstT], hag.B s (by simp [hs, dstT])⟩
    case box t x =>
      rw [hS x (by simp)]
      refine newBox_same rfl (fun hh => ?_) (fun hh s hs => ?_) (fun t s hs => ?_)
      · rw [hh] at hF; subst hF; exact ⟨rfl, fun r => hag.x rfl r, hag.al rfl⟩
      · rw [hh] at hF; subst hF; exact ⟨by simp [hs, dstT], hag.B s (by simp [hs, dstT])⟩
      · have := handed_T hs
        cases hh : onHeap h o.dst <;> rw [hh] at hF <;> subst hF <;> simp [this]
    case load t x =>
      rw [hS x (by simp)]
      refine load_same (fun s hs => ?_) (fun hr r cs => ?_) (fun hr r v sz l => ?_) (fun ht s hs => ?_) (fun ht hr => ?_) (fun ht hr => ?_)
      · subst hF; exact hag.B s (by simpa using hs)
      · subst hF; exact hag.c hr r cs
      · subst hF; exact hag.w hr r v sz l
      · subst hF; simp [ht, hs]
      · subst hF; simp [ht, hr]
      · subst hF; simp [ht, hr]
    case store t x y =>
      rw [hS x (by simp)]
      refine store_same (hS y (by simp)) (fun s hs => ?_) (fun hr r cs => ?_) (fun hr r v sz l => ?_) (fun t hs => ?_) (fun s hs => ?_) (fun hr => ?_) (fun hr => ?_)
      · subst hF; exact hag.B s (by simpa using hs)
      · subst hF; exact hag.c hr r cs
      · subst hF; exact hag.w hr r v sz l
      · subst hF; exact List.mem_append_right _ hs
      · subst hF; exact hs
      · subst hF; exact hr
      · subst hF; exact hr
    case extract x i =>
      rw [hS x (by simp)]
      intro e he
      refine ⟨e, he, ?_⟩
      unfold evExtract at he
      split at he
      · rename_i cs hx
        split at he
        · cases he; exact Same.plain
        · rename_i c hne hc
          split at he
          · obtain ⟨_, he⟩ := guardR_ok he
            cases he
            refine ⟨rfl, rfl, rfl, .none, fun t s hs => ?_, by simp⟩
            cases hs
            subst hF
            simp only [hx, hc]
            apply List.mem_append_right
            cases c <;> simp [tmpT] <;> exact absurd rfl (hne _)
          · cases he
        · cases he
      · cases he
    case range t x =>
      rw [hS x (by simp)]
      refine SameR.ofPlain fun e he => ?_
      split at he
      · cases he; exact ⟨rfl, rfl, rfl⟩
      · cases he
    case next x b =>
      cases b with
      | false => exact SameR.bad
      | true =>
        simp only
        rw [hS x (by simp)]
        intro e he
        refine ⟨e, he, ?_⟩
        unfold evNext at he
        split at he
        · split at he
          · cases he
            refine ⟨rfl, rfl, rfl, .none, fun t s hs => ?_, by simp⟩
            cases hs
            subst hF
            simp [tmpT]
          · cases he; exact Same.plain
        · cases he
    case makeMap t r =>
      cases r with
      | some _ => exact SameR.bad
      | none => subst hF; exact SameR.lay (g := fun r => .v (.map r)) rfl rfl (fun r => hag.x rfl r) (hag.al rfl) (by simp) (.inr (.inl ⟨_, rfl⟩))
    case lookup t m k ok =>
      rw [hS m (by simp), hS k (by simp)]
      have : ∀ r, pureR (evLookup C.P t (opd st m) (opd st k) ok st.heap) = .ok r → evLookup C.P t (opd st m) (opd st k) ok st2.heap = evLookup C.P t (opd st m) (opd st k) ok st.heap := by
        intro r hr
        unfold evLookup at hr ⊢
        split
        · rename_i rr kt et hm ht
          rw [hm, ht] at hr
          cases hh : st.heap[rr]? with
          | none => simp only [hh] at hr; cases hr
          | some ob =>
            cases ob with
            | map es =>
              have h2 : st2.heap[rr]? = some (HO.map es) := by subst hF; exact hag.m rfl rr es hh
              rw [h2]
            | _ => simp only [hh] at hr; cases hr
        · rfl
      intro e he
      refine ⟨e, by show pureR (evLookup C.P t (opd st m) (opd st k) ok st2.heap) = _; rw [this e he]; exact he, by obtain ⟨h1, h2, h3⟩ := pureR_plain he; exact ⟨rfl, rfl, rfl, by rw [h3]; exact .none, by simp [h1], by simp [h2]⟩⟩
    case mapUpdate t m k x =>
      rw [hS m (by simp), hS k (by simp), hS x (by simp)]
      unfold evMapUpdate
      split
      · rename_i r kt et hm ht
        intro e he
        simp only [envOf] at he ⊢
        cases hh : st.heap[r]? with
        | none => rw [hh] at he; cases he
        | some ob =>
          cases ob with
          | map es =>
            have h2 : st2.heap[r]? = some (HO.map es) := by subst hF; exact hag.m rfl r es hh
            rw [hh] at he
            rw [h2]
            revert e
            refine SameR.bind fun key _ => SameR.bind fun _ _ => SameR.guard fun _ => SameR.ok ⟨rfl, rfl, rfl, .set r _ (.inr (.inl ⟨?_, _, _, hh, rfl⟩)), fun t s hs => ?_, by simp⟩
            · subst hF; rfl
            · subst hF; exact List.mem_append_right _ (handed_T hs)
          | _ => rw [hh] at he; cases he
      · exact SameR.bad
    case insert t m k x =>
      rw [hS m (by simp), hS k (by simp), hS x (by simp)]
      unfold evMapUpdate
      split
      · rename_i r kt et hm ht
        intro e he
        simp only [envOf] at he ⊢
        cases hh : st.heap[r]? with
        | none => rw [hh] at he; cases he
        | some ob =>
          cases ob with
          | map es =>
            have h2 : st2.heap[r]? = some (HO.map es) := by subst hF; exact hag.m rfl r es hh
            rw [hh] at he
            rw [h2]
            revert e
            refine SameR.bind fun key _ => SameR.bind fun _ _ => SameR.guard fun _ => SameR.ok ⟨rfl, rfl, rfl, .set r _ (.inr (.inl ⟨?_, _, _, hh, rfl⟩)), fun t s hs => ?_, by simp⟩
            · subst hF; rfl
            · subst hF; exact List.mem_append_right _ (handed_T hs)
          | _ => rw [hh] at he; cases he
      · exact SameR.bad
    case build t ps =>
      have : (ps.toList.map fun (p : Nat × Operand) => (p.1, view (opd st2 p.2))) = ps.toList.map fun (p : Nat × Operand) => (p.1, view (opd st p.2)) :=
        List.map_congr_left fun p hp => by rw [hS p.2 (by simpa using ⟨p.1, by simpa using hp⟩)]
      rw [this]
      exact SameR.pureR
    case buildSlice t n ps =>
      have : (ps.toList.map fun (p : Nat × Operand) => (p.1, view (opd st2 p.2))) = ps.toList.map fun (p : Nat × Operand) => (p.1, view (opd st p.2)) :=
        List.map_congr_left fun p hp => by rw [hS p.2 (by simpa using ⟨p.1, by simpa using hp⟩)]
      rw [this]
      exact SameR.pureR
    case makeFunc fn first cap =>
      have hc : cap.toList.map (opd st2) = cap.toList.map (opd st) := argsR_map fun x hx => hS x (by simp; right; simpa using hx)
      cases fn <;> simp only <;> (try exact SameR.bad)
      split
      · show SameR F _ _ (pureV (do let xs ← argsR (cap.toList.map (opd st)); _)) (pureV (do let xs ← argsR (cap.toList.map (opd st2)); _))
        rw [hc]
        exact SameR.pureV
      · split
        · have hc1 : first.toList.map (opd st2) = first.toList.map (opd st) := argsR_map fun x hx => hS x (by simp; left; simpa using hx)
          show SameR F _ _ (pureV (do let xs ← argsR (first.toList.map (opd st)); _)) (pureV (do let xs ← argsR (first.toList.map (opd st2)); _))
          rw [hc1]
          exact SameR.pureV
        · exact SameR.bad
    case slice t x lo hi m =>
      have hx := hS x (by simp)
      have hlo : lo.map (opd st2) = lo.map (opd st) := natOf_congr fun y hy => hS y (by simp [hy])
      have hhi : hi.map (opd st2) = hi.map (opd st) := natOf_congr fun y hy => hS y (by simp [hy])
      cases m with
      | none =>
        simp only
        show SameR F _ _ (pureR (evSlice C.P t (view (opd st x)) (lo.map (opd st)) (hi.map (opd st)))) (pureR (evSlice C.P t (view (opd st2 x)) (lo.map (opd st2)) (hi.map (opd st2))))
        rw [hx, hlo, hhi]
        exact SameR.pureR
      | some m =>
        have hm := hS m (by simp)
        cases lo <;> cases hi <;> simp only <;> (try exact SameR.bad)
        rename_i y
        rw [hx, hm, hS y (by simp)]
        exact SameR.pureR
    case makeSlice t n m =>
      rw [hS n (by simp), hS m (by simp)]
      unfold evMakeSlice
      split
      · rename_i k1 a k2 b e0 hn hm ht
        refine SameR.bind fun sz _ => SameR.bind fun by_ _ => SameR.bind fun z _ => SameR.bind fun y _ => SameR.bind fun ag _ => SameR.guard fun _ => ?_
        cases hh : onHeap h o.dst with
        | false => exact SameR.ok Same.plain
        | true =>
          rw [hh] at hF
          intro e he
          obtain ⟨hb, he1⟩ := guardR_ok he
          simp only [Bool.and_eq_true] at hb
          cases he1
          obtain ⟨h1, h2⟩ := lay_same (f := F) (E := envOf A st) (E2 := envOf A st2) (x := .row 0 sz (List.replicate a.toNat y)) (src := none) (g := fun r => .v (.hsl r 0 sz 0 a.toNat)) rfl (by subst hF; rfl) (fun r => hag.x (by subst hF; rfl) r) (hag.al (by subst hF; rfl)) hb.2 (by simp) (.inr (.inr ⟨_, _, _, rfl⟩))
          exact ⟨_, by rw [h1, hb.1]; rfl, h2⟩
      · exact SameR.bad
    case panic x => subst hF; cases hf
    case call c =>
      have hargs : ∀ x ∈ c.args.toList, opd st2 x = opd st x := fun x hx => hS x (by simp [Go.Call.operands]; right; simpa using hx)
      unfold evCall
      simp only [hE, hE2]
      cases hc : c.callee with
      | builtin b =>
        rw [hc] at hF
        cases b <;> simp only <;> (try exact SameR.bad)
        case append =>
          unfold evAppendOp
          split
          · rename_i x y t ty hxy htt
            rw [hxy] at hF hargs
            simp only [hE, hE2]
            rw [hargs x (by simp), hargs y (by simp)]
            have key : SameR F (envOf A st) (envOf A st2) (evAppend C.P (onHeap h o.dst) t x (opd st x) (opd st y) (envOf A st)) (evAppend C.P (onHeap h o.dst) t x (opd st x) (opd st y) (envOf A st2)) := by
              refine append_same (S := opd st) rfl (fun t ht => ?_) (fun hr => ?_) (fun hp => ?_) (fun hr r v sz l => ?_)
              · subst hF; exact List.mem_append_right _ ht
              · subst hF; exact ⟨hr, fun r v sz l => hag.w (by simp [hr]) r v sz l⟩
              · subst hF; exact ⟨hp, fun r => hag.x hp r, hag.al hp⟩
              · subst hF; exact hag.w (by simp [hr]) r v sz l
            split
            · exact key
            · exact key
            · exact SameR.bad
          · exact SameR.bad
        case len =>
          split
          · rename_i x t hx ht
            rw [hx] at hF hargs
            rw [hargs x (by simp)]
            have : ∀ r, pureR (evLen C.P t (opd st x) st.heap) = .ok r → evLen C.P t (opd st x) st2.heap = evLen C.P t (opd st x) st.heap := by
              intro r hr
              unfold evLen at hr ⊢
              split <;> (try rfl)
              rename_i rr hu hm
              rw [hu, hm] at hr
              cases hh : st.heap[rr]? with
              | none => simp only [hh] at hr; cases hr
              | some ob =>
                cases ob with
                | map es =>
                  have h2 : st2.heap[rr]? = some (HO.map es) := by subst hF; exact hag.m (by simp [hm, isMapS]) rr es hh
                  rw [h2]
                | _ => simp only [hh] at hr; cases hr
            intro e he
            have := this e he
            refine ⟨e, by simp only [envOf]; rw [this]; exact he, ?_⟩
            obtain ⟨h1, h2, h3⟩ := pureR_plain he
            exact ⟨rfl, rfl, rfl, by rw [h3]; exact .none, by simp [h1], by simp [h2]⟩
          · exact SameR.bad
        case max =>
          show SameR F _ _ (pureV (do let xs ← argsR (c.args.toList.map (opd st)); _)) (pureV (do let xs ← argsR (c.args.toList.map (opd st2)); _))
          rw [argsR_map hargs]
          exact SameR.pureV
        case min =>
          show SameR F _ _ (pureV (do let xs ← argsR (c.args.toList.map (opd st)); _)) (pureV (do let xs ← argsR (c.args.toList.map (opd st2)); _))
          rw [argsR_map hargs]
          exact SameR.pureV
      | value g =>
        rw [hc] at hF
        cases g with
        | func g =>
          simp only at hF
          cases hq : quietCall C g (c.args.toList.map (opd st)) with
          | false =>
            rw [hq] at hF
            cases hro : C.ro g with
            | false => rw [hro] at hF; subst hF; cases hf
            | true =>
              rw [hro] at hF
              show SameR F _ _ (doCall C call (.fn g) (c.args.toList.map (opd st)) [] st.heap) (doCall C call (.fn g) (c.args.toList.map (opd st2)) [] st2.heap)
              have hH : st2.heap = st.heap := hag.ra (by subst hF; rfl)
              rw [argsR_map hargs, hH]
              refine SameR.ofPlain fun e he => ?_
              unfold doCall at he
              obtain ⟨xs, hx, he⟩ := Res.bind_ok he
              have hnp : (isPure C (.fn g) && noRefs (xs ++ [])) = false := by
                unfold quietCall at hq
                rw [hx] at hq
                simpa [isPure] using hq
              rw [hnp] at he
              simp only [isRo, hro] at he
              unfold roCall at he
              split at he <;> first | (cases he; done) | (obtain ⟨_, he⟩ := guardR_ok he; cases he; exact ⟨rfl, rfl, rfl⟩)
          | true =>
            have q2 : quietCall C g (c.args.toList.map (opd st2)) = true := by rw [argsR_map hargs]; exact hq
            obtain ⟨xs, hx, hp, hn⟩ := quiet_noRefs hq
            show SameR F _ _ (doCall C call (.fn g) (c.args.toList.map (opd st)) [] st.heap) (doCall C call (.fn g) (c.args.toList.map (opd st2)) [] st2.heap)
            rw [argsR_map hargs]
            unfold doCall
            rw [hx]
            simp only [Res.bind, isPure, hp, List.append_nil, hn, Bool.and_self]
            unfold pureCall
            split
            · exact SameR.guard fun _ => SameR.ok Same.plain
            · intro e he; obtain ⟨_, he⟩ := guardR_ok he; cases he
            · exact SameR.bad
            · intro e he; cases he
        | _ => subst hF; cases hf
      | invoke x name => rw [hc] at hF; subst hF; cases hf
end
end Go.Sw

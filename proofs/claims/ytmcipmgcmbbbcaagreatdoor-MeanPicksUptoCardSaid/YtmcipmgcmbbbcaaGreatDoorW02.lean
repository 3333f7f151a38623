/- A reflective evaluator over the code of a program, and the proof that what it finds is what the machine of the model does. It asks of the program what ProgOK says; nothing of a law is said here. -/
import Derived.Test.YtmcipmgcmbbbcaaGreatDoorW01
import Derived.Laws.Slices
import Derived.Laws.AppendOwn
import Derived.Laws.MakeOwn
/-! Addresses, slices, lengths, conversions. -/
namespace Go.Sw
open Go

theorem Addr_add (B off k : Nat) : Addr.add ⟨B, off, none⟩ k = ⟨B, off + k, none⟩ := by
  unfold Addr.add; split
  · rename_i h; subst h; rfl
  · rfl

section
variable {P : Program} {n : Nat} {o : Oper} {st : St} {a : Act} {w : World} {g : Gh} {sv : Nat → Option Nat} {ow : Ow}


/-- a pointer, some cells on. -/
theorem addOff_SR {h : Hold} {p q : Slot} {v : Value} {k : Nat} (hp : SR w g sv ow h p v) (hq : addOff p k = .ok q) :
    ∃ B off, v = .pointer (some ⟨B, off, none⟩) ∧ FreeR w g sv q (.pointer (some ⟨B, off + k, none⟩)) ∧ ∀ c : Nat → Prop, lcTop c p → lcTop c q := by
  unfold addOff at hq
  split at hq <;> cases hq
  · obtain ⟨B, hB, rfl⟩ := hp
    exact ⟨B, _, rfl, fun _ _ => ⟨B, hB, rfl⟩, fun _ h => h⟩
  · obtain ⟨B, hB, rfl⟩ := hp
    exact ⟨B, _, rfl, fun _ _ => ⟨B, hB, rfl⟩, fun _ _ => trivial⟩
  · obtain ⟨B, off, rfl, hi⟩ := hp
    refine ⟨B, _, rfl, fun _ _ => ⟨B, _, rfl, fun j y hy => ?_⟩, fun _ _ => trivial⟩
    have := hi (k + j) y (by simpa using hy)
    rwa [← Nat.add_assoc] at this
  · obtain ⟨B, sz, C, h1, rfl⟩ := hp
    exact ⟨B, _, rfl, fun _ _ => ⟨B, sz, C, h1, by rw [Nat.add_assoc]⟩, fun _ _ => trivial⟩

theorem op_fieldAddr {t f : Nat} {x : Operand} (hF : FR n st a w g sv ow) (hd : ∀ t, o.dst = some t → t < n) {e : Eff} (ho : o.op = .fieldAddr t x f)
    (he : pureR (evFieldAddr P t (opd st x) f) = .ok e) : OpOK P n o a w g ow (applyEff st o.dst e) := by
  obtain ⟨r, h1, rfl⟩ := pureR_ok he
  clear he
  obtain ⟨⟨off, ft⟩, hf, h2⟩ := Res.mbind_ok h1
  obtain ⟨m, hm, h3⟩ := Res.mbind_ok h2
  obtain ⟨hz, h4⟩ := guardR_ok h3
  obtain ⟨fs, fd, hu, hfd, rfl, rfl⟩ := fieldOf_und (opt_ok hf)
  obtain ⟨B, k, hv, hs, hl⟩ := addOff_SR (hF.opnd x) h4
  have hm0 : ¬ m = 0 := by intro e; subst e; simp at hz
  refine opOK_free hF hd ?_ hs (hl _ (hF.lkOpd x))
  simp [execOp, ho, Instr.fieldAt, run_und hu, hfd, hv, Instr.sureAddr, fieldPlace, sizeT_run (opt_ok hm), hm0, Addr_add]

theorem op_indexAddr {t : Nat} {x i : Operand} (hF : FR n st a w g sv ow) (hd : ∀ t, o.dst = some t → t < n) {e : Eff} (ho : o.op = .indexAddr t x i)
    (he : pureR (evIndexAddr P t (opd st x) (opd st i)) = .ok e) : OpOK P n o a w g ow (applyEff st o.dst e) := by
  obtain ⟨r, h1, rfl⟩ := pureR_ok he
  clear he
  have hx := hF.opnd x
  have hi := hF.opnd i
  have hlx := hF.lkOpd x
  unfold evIndexAddr at h1
  split at h1
  · rename_i k m hiv
    rw [hiv] at hi
    have hi' : a.eval i = .int k m := hi
    split at h1
    · rename_i el hu
      obtain ⟨sz, hsz, h2⟩ := Res.mbind_ok h1
      have hsz := opt_ok hsz
      -- an element of a list that does not change
      have elem : ∀ l c, (∃ p, a.eval x = .slice p l.length c ∧ (l = [] ∨ ∃ B off sz, p = some ⟨B, off, none⟩ ∧ ∀ (i : Nat) (x : AV), l[i]? = some x → (cellsOfAV x).length = sz ∧ ∀ (j : Nat) (y : AV), (cellsOfAV x)[j]? = some y → g.im B (off + (i * sz + j)) y)) →
          elemAddr l m sz = .ok r → OpOK P n o a w g ow (applyEff st o.dst { dst := r }) := by
        rintro l c ⟨p, hp, hl⟩ h3
        obtain ⟨y, hy, h4⟩ := Res.mbind_ok h3
        obtain ⟨cs, hcs, h5⟩ := Res.mbind_ok h4
        cases h5
        obtain ⟨h0, hy⟩ := idx_some (opt_ok hy)
        have hcs := opt_ok hcs
        unfold sized at hcs
        split at hcs <;> cases hcs
        rename_i hb
        have hb := Nat.eq_of_beq_eq_true hb
        have hlt : m.toNat < l.length := by
          rcases Nat.lt_or_ge m.toNat l.length with h | h
          · exact h
          · rw [List.getElem?_eq_none h] at hy; cases hy
        rcases hl with rfl | ⟨B, off, sz', rfl, hl⟩
        · simp at hlt
        · obtain ⟨e1, e2⟩ := hl _ _ hy
          have : sz' = sz := e1.symm.trans hb
          subst this
          refine opOK_free hF hd (v' := .pointer (some ⟨B, off + m.toNat * sz', none⟩)) ?_ (fun _ _ => ⟨B, _, rfl, fun j z hz => by rw [Nat.add_assoc]; exact e2 j z hz⟩) trivial
          have h1 : 0 ≤ m ∧ m < (l.length : Int) := ⟨h0, by omega⟩
          simp [execOp, ho, Instr.indexAt, hi', asIntOf, run_und hu, hp, h1, sizeT_run hsz, Addr_add]
      split at h2
      · rename_i l hxv
        rw [hxv] at hx
        obtain ⟨p, c, e1, _, e2⟩ := hx
        exact elem l c ⟨p, e1, e2⟩ h2
      · rename_i sz0 l hxv
        rw [hxv] at hx
        rcases hx with ⟨rfl, p, e1⟩ | ⟨B, cap, e1, _, e3⟩
        · exact elem [] 0 ⟨p, e1, .inl rfl⟩ h2
        · exact elem l cap ⟨_, e1, .inr ⟨B, 0, sz0, rfl, fun i x hx => ⟨(e3.2.2.1 i x hx).1, fun j y hy => by simpa using (e3.2.2.1 i x hx).2 j y hy⟩⟩⟩ h2
      · rename_i r0 ver sz' off len hxv
        rw [hxv] at hx
        obtain ⟨hg, h3⟩ := guardR_ok h2
        cases h3
        simp only [Bool.and_eq_true] at hg
        obtain ⟨h0, h1⟩ := inRange_ok hg.2
        have hs : sz = sz' := Nat.eq_of_beq_eq_true hg.1
        subst hs
        obtain ⟨B, C, c, e1, e2, e3, e4⟩ := hx
        refine opOK_free hF hd (v' := .pointer (some ⟨B, off * sz + m.toNat * sz, none⟩)) ?_ (fun _ _ => ⟨B, sz, C, e1, by rw [Nat.add_mul]; rfl⟩) trivial
        simp [execOp, ho, Instr.indexAt, hi', asIntOf, run_und hu, e2, h0, h1, sizeT_run hsz, Addr_add]
      · cases h2
    · rename_i len el hu
      obtain ⟨sz, hsz, h2⟩ := Res.mbind_ok h1
      obtain ⟨hg, h3⟩ := guardR_ok h2
      obtain ⟨h0, h1'⟩ := inRange_ok hg
      obtain ⟨B, k', hv, hs, hl⟩ := addOff_SR hx h3
      refine opOK_free hF hd ?_ hs (hl _ hlx)
      simp [execOp, ho, Instr.indexAt, hi', asIntOf, run_und hu, hv, Instr.sureAddr, h0, h1', sizeT_run (opt_ok hsz), Addr_add]
    · cases h1
  · cases h1

/-- a component of tmp x comes to tmp d. -/
def partTmp (x d i : Nat) (h : Hold) : Option Hold :=
  match h.root with
  | .tmp t => if t = x then (if h.path.getLast? = some i then some ⟨.tmp d, h.path.dropLast⟩ else some h) else if t = d then none else some h
  | _ => some h
def reownH (f : Hold → Option Hold) (ow : Ow) : Ow := fun B => (ow B).bind f

theorem reownH_bd {f : Hold → Option Hold} {w : World} {ow : Ow} (h : ∀ B h, ow B = some h → B < w.heap.size) : ∀ B k, reownH f ow B = some k → B < w.heap.size := by
  intro B k hk
  simp only [reownH] at hk
  cases e : ow B with
  | none => simp [e] at hk
  | some h' => exact h B h' e

theorem SRs_get {h : Hold} : ∀ (l : List Slot) (k : Nat) (vs : List Value), SRs w g sv ow h k l vs → ∀ (i : Nat) (s : Slot), l[i]? = some s → ∃ v, vs[i]? = some v ∧ SR w g sv ow ⟨h.root, (k + i) :: h.path⟩ s v
  | [], _, _, _, _, _, e => by simp at e
  | _ :: l, k, _, ⟨v, vs', e, a, b⟩, 0, s, hs => by subst e; simp at hs; subst hs; exact ⟨v, rfl, a⟩
  | _ :: l, k, _, ⟨v, vs', e, a, b⟩, i + 1, s, hs => by
    subst e
    obtain ⟨u, h1, h2⟩ := SRs_get l (k + 1) vs' b i s (by simpa using hs)
    exact ⟨u, by simpa using h1, by rw [show k + (i + 1) = k + 1 + i by omega]; exact h2⟩
theorem SRs_length {h : Hold} : ∀ (l : List Slot) (k : Nat) (vs : List Value), SRs w g sv ow h k l vs → vs.length = l.length
  | [], _, _, e => by cases e; rfl
  | _ :: l, k, _, ⟨_, vs', e, _, b⟩ => by subst e; simp [SRs_length l (k + 1) vs' b]
theorem SRs_of {h : Hold} : ∀ (l : List Slot) (k : Nat) (vs : List Value), vs.length = l.length → (∀ (i : Nat) (s : Slot), l[i]? = some s → ∃ v, vs[i]? = some v ∧ SR w g sv ow ⟨h.root, (k + i) :: h.path⟩ s v) → SRs w g sv ow h k l vs
  | [], _, [], _, _ => rfl
  | [], _, _ :: _, e, _ => by simp at e
  | _ :: _, _, [], e, _ => by simp at e
  | s :: l, k, v :: vs, e, hg => by
    obtain ⟨u, h1, h2⟩ := hg 0 s rfl
    simp at h1; subst h1
    refine ⟨v, vs, rfl, h2, SRs_of l (k + 1) vs (by simpa using e) (fun i s hs => ?_)⟩
    obtain ⟨u, h3, h4⟩ := hg (i + 1) s (by simpa using hs)
    exact ⟨u, by simpa using h3, by rw [show k + 1 + i = k + (i + 1) by omega]; exact h4⟩

theorem op_extract {x : Operand} {i : Nat} (hF : FR n st a w g sv ow) (hd : ∀ t, o.dst = some t → t < n) {e : Eff} (ho : o.op = .extract x i)
    (he : evExtract x (opd st x) i = .ok e) : OpOK P n o a w g ow (applyEff st o.dst e) := by
  have hx := hF.opnd x
  have hlx := hF.lkOpd x
  unfold evExtract at he
  split at he
  · rename_i cs hxv
    rw [hxv] at hx hlx
    have hlx : noLocs cs = true := hlx
    obtain ⟨vs, hvs, hr⟩ := hx
    have hrun : ∀ v, vs.toList[i]? = some v → (execOp a.eval o).run P w = .ok (.value v) w := fun v hv => by
      have : vs[i]? = some v := by simpa using hv
      simp [execOp, ho, Instr.extract, hvs, this]
    split at he
    · rename_i y hy
      cases he
      obtain ⟨v, h1, h2⟩ := SRs_get _ _ _ hr _ _ hy
      exact opOK_free hF hd (hrun v h1) (fun _ _ => h2) trivial
    · rename_i c hnv hc
      obtain ⟨v, h1, h2⟩ := SRs_get _ _ _ hr _ _ hc
      split at he
      · rename_i t
        obtain ⟨hg, he⟩ := guardR_ok he
        cases he
        have hcl : noLoc c = true := noLocs_get cs hlx i c hc
        have hset : noLocs (cs.set i (view c)) = true := noLocs_of _ (fun d hd => by
          rcases List.mem_or_eq_of_mem_set hd with hd | hd
          · obtain ⟨k, hk⟩ := List.mem_iff_getElem?.mp hd
            exact noLocs_get cs hlx k d hk
          · rw [hd]; exact view_noLoc c hcl)
        have hlt : i < cs.length := by
          rcases Nat.lt_or_ge i cs.length with h | h
          · exact h
          · rw [List.getElem?_eq_none h] at hc; cases hc
        cases hdst : o.dst with
        | none =>
          refine ⟨_, v, w, g, sv, ow, hrun v h1, .inl rfl, ?_, Fut.refl _ _ _⟩
          rw [hdst]
          refine hF.step (by simp) hF.gc (by simp) (fun y s h _ => ?_) (fun y _ _ => ⟨Gh.le.refl g, fun _ _ h => h, fun B p h => ⟨h, rfl, fun _ _ h => h⟩⟩) (by simp) (fun y s h => ?_) (fun s h => h) hF.lc hF.hr hF.df hF.bd
          · cases h
            have hvs' : a.tmps.getD t undef = .tuple vs := hvs
            rw [hvs']
            refine ⟨vs, rfl, SRs_of _ _ _ (by simpa using SRs_length _ _ _ hr) (fun k s hs => ?_)⟩
            by_cases hk : k = i
            · subst hk
              simp [hlt] at hs
              subst hs
              exact ⟨v, h1, SR.view (Gh.le.refl g) (fun _ _ h => h) _ _ h2⟩
            · rw [List.getElem?_set_ne (fun e => hk e.symm)] at hs
              exact SRs_get _ _ _ hr _ _ hs
          · cases h; exact hset
        | some d =>
          have hdn := hd d hdst
          let f := partTmp t d i
          have hk : Keeps (fun r => ∀ t, r ≠ .tmp t) w g ow w g (reownH f ow) := ⟨Gh.le.refl g, fun B r q hr h => ⟨by
            cases r with
            | tmp t => exact absurd rfl (hr t)
            | _ => simp [reownH, h, f, partTmp], rfl, fun _ _ h => h⟩⟩
          refine ⟨_, v, w, g, sv, reownH f ow, hrun v h1, .inl rfl, ?_, ⟨Gh.le.refl g, Nat.le_refl _, fun B q hB => ⟨by simp [reownH, hB, f, partTmp], rfl, fun _ _ h => h⟩, rfl, rfl, rfl⟩⟩
          rw [hdst]
          refine hF.step (fun y hy => by cases hy; exact hdn) hF.gc (fun y hy => ?_) (fun y s h hne => ?_) (fun y hy hns => ?_) (fun y _ => noLoc_lcTop hcl) (fun y s h => ?_) (fun s h => h) (fun s cs' h => ?_) ?_ ?_ (reownH_bd hF.bd)
          · cases hy
            refine SR.keepH c ⟨.tmp t, [i]⟩ ⟨.tmp d, []⟩ v ⟨Gh.le.refl g, fun _ _ h => h, fun B q hB => ⟨?_, rfl, fun _ _ h => h⟩⟩ (by simpa [opHold] using h2)
            simp [reownH, hB, f, partTmp]
          · cases h
            have htd : ¬ t = d := fun e => hne (by rw [e])
            have hvs' : a.tmps.getD t undef = .tuple vs := hvs
            rw [hvs']
            refine ⟨vs, rfl, SRs_of _ _ _ (by simpa using SRs_length _ _ _ hr) (fun k s hs => ?_)⟩
            by_cases hk : k = i
            · subst hk
              simp [hlt] at hs
              subst hs
              exact ⟨v, h1, SR.view (Gh.le.refl g) (fun _ _ h => h) _ _ h2⟩
            · rw [List.getElem?_set_ne (fun e => hk e.symm)] at hs
              obtain ⟨u, h3, h4⟩ := SRs_get _ _ _ hr _ _ hs
              refine ⟨u, h3, SR.keepH s ⟨.tmp t, [0 + k]⟩ ⟨.tmp t, [0 + k]⟩ u ⟨Gh.le.refl g, fun _ _ h => h, fun B q hB => ⟨?_, rfl, fun _ _ h => h⟩⟩ h4⟩
              have : ¬ 0 + k = i := by omega
              simp [reownH, hB, f, partTmp]
              exact fun h => absurd h (by simpa using hk)
          · have h1 : ¬ y = t := fun e => hns _ (by subst e; rfl)
            have h2 : ¬ y = d := fun e => hy (by rw [e])
            exact ⟨Gh.le.refl g, fun _ _ h => h, fun B q hB => ⟨by simp [reownH, hB, f, partTmp, h1, h2], rfl, fun _ _ h => h⟩⟩
          · cases h; exact hset
          · exact (hF.lc s cs' h).keeps hk (by simp) (by simp) (fun _ h => h)
          · exact ⟨fun r o h => (hF.hr.ob r o h).keeps hk (by simp) (by simp) (fun _ h => h) (fun _ _ h => h), hF.hr.nf⟩
          · exact DR.keeps hk (by simp) _ _ hF.df
      · cases he
    · cases he
  · cases he

theorem zeroT_run {t : Nat} {z : Slot} (h : zeroT P t = some z) : ∃ v, (zeroValue t).run P w = .ok v w ∧ z = ofConst v := by
  unfold zeroT at h
  split at h
  · rename_i i hi
    split at h
    · rename_i z' hz; cases h; exact ⟨z', by simp [zeroValue, typeInfo_run hi, hz], rfl⟩
    · cases h
  · cases h

theorem op_typeAssert {x : Operand} {xt t : Nat} {ok : Bool} (hF : FR n st a w g sv ow) (hd : ∀ t, o.dst = some t → t < n) {e : Eff} (ho : o.op = .typeAssert x xt t ok)
    (he : pureR (evTypeAssert P (opd st x) t ok) = .ok e) : OpOK P n o a w g ow (applyEff st o.dst e) := by
  obtain ⟨r, h1, rfl⟩ := pureR_ok he
  clear he
  have hx := hF.opnd x
  unfold evTypeAssert at h1
  have fails : ∀ d, P.underlying t = some d → (∀ ms, d ≠ .interface ms) → (a.eval x = .nilIface ∨ ∃ t' v, a.eval x = .iface t' v ∧ t' ≠ t) → assertFails P t ok = .ok r → OpOK P n o a w g ow (applyEff st o.dst { dst := r }) := by
    intro d hu hni hv hf
    unfold assertFails at hf
    cases ok with
    | false => cases hf
    | true =>
      obtain ⟨z, hz, hf⟩ := Res.mbind_ok hf
      cases hf
      obtain ⟨zv, hzr, rfl⟩ := zeroT_run (w := w) (opt_ok hz)
      refine opOK_free hF hd (v' := .tuple #[zv, .bool false]) ?_ (fun _ h => ⟨_, rfl, _, _, rfl, SR.view (w := w) (ow := ow) (h := ⟨.ret, []⟩) (Gh.le.refl g) (fun _ _ h => h) _ _ (ofConst_SR zv _), _, _, rfl, rfl, rfl⟩) (by simp [lcTop, noLocs, noLoc, view_noLoc _ (ofConst_noLoc zv)])
      rcases hv with hv | ⟨t', v, hv, hne⟩
      · cases d <;> first | exact absurd rfl (hni _) | simp [execOp, ho, Instr.typeAssert, run_und hu, hv, hzr]
      · cases d <;> first | exact absurd rfl (hni _) | simp [execOp, ho, Instr.typeAssert, run_und hu, hv, hzr, hne]
  split at h1
  · cases h1
  · cases h1
  · rename_i d hni hu
    have hni' : ∀ ms, d ≠ .interface ms := fun ms h => hni ms (by rw [h])
    split at h1
    · rename_i t' y hxv
      rw [hxv] at hx
      obtain ⟨v, hv, hr⟩ := hx
      split at h1
      · rename_i hb
        have hb := Nat.eq_of_beq_eq_true hb
        subst hb
        cases ok with
        | true =>
          cases h1
          refine opOK_free hF hd (v' := .tuple #[v, .bool true]) ?_ (fun _ h => ⟨_, rfl, _, _, rfl, hr, _, _, rfl, rfl, rfl⟩) rfl
          cases d <;> first | exact absurd rfl (hni' _) | simp [execOp, ho, Instr.typeAssert, run_und hu, hv]
        | false =>
          cases h1
          refine opOK_free hF hd (v' := v) ?_ (fun _ h => hr) trivial
          cases d <;> first | exact absurd rfl (hni' _) | simp [execOp, ho, Instr.typeAssert, run_und hu, hv]
      · rename_i hb
        exact fails d hu hni' (.inr ⟨t', v, hv, fun e => by subst e; simp at hb⟩) h1
    · rename_i hxv
      rw [hxv] at hx
      exact fails d hu hni' (.inl hx) h1
    · cases h1

end
end Go.Sw
/-! Slices, lengths, conversions, the lesser and the greater. -/
namespace Go.Sw
open Go

section
variable {P : Program} {n : Nat} {o : Oper} {st : St} {a : Act} {w : World} {g : Gh} {sv : Nat → Option Nat} {ow : Ow}

/-- a bound of a slice expression. -/
theorem natOf_bound {x : Option Operand} {d top : Nat} {r : Nat} (hF : FR n st a w g sv ow) (h : natOf (x.map (opd st)) d top = some r) :
    (x = none ∧ r = d) ∨ ∃ y k m, x = some y ∧ a.eval y = .int k m ∧ 0 ≤ m ∧ m ≤ top ∧ r = m.toNat := by
  cases x with
  | none => simp only [Option.map_none, natOf] at h; cases h; exact .inl ⟨rfl, rfl⟩
  | some y =>
    have hy := hF.opnd y
    simp only [Option.map_some, natOf] at h
    split at h
    · rename_i hh; cases hh
    · rename_i k m hh
      simp only [Option.some.injEq] at hh
      rw [hh] at hy
      split at h
      · rename_i hb
        simp only [Bool.and_eq_true, decide_eq_true_eq] at hb
        cases h
        exact .inr ⟨y, k, m, rfl, hy, hb.1, hb.2, rfl⟩
      · cases h
    · cases h

theorem run_bounds {hi lo : Option Operand} {b : Bool} {len cap h l : Nat} (hF : FR n st a w g sv ow) (hc : len ≤ cap)
    (hh : natOf (hi.map (opd st)) len len = some h) (hl : natOf (lo.map (opd st)) 0 h = some l) :
    (Instr.sliceBounds b len cap (lo.map a.eval) (hi.map a.eval) none).run P w = .ok (l, h, cap) w ∧ h ≤ len ∧ l ≤ h := by
  rcases natOf_bound hF hh with ⟨rfl, rfl⟩ | ⟨y, k, m, rfl, e1, e2, e3, rfl⟩
  · rcases natOf_bound hF hl with ⟨rfl, rfl⟩ | ⟨y', k', m', rfl, e1', e2', e3', rfl⟩
    · simp [Instr.sliceBounds]
    · refine ⟨?_, Nat.le_refl _, by omega⟩
      simp [Instr.sliceBounds, e1', run_sliceBound, e2', e3']
  · have hm : m ≤ (cap : Int) := by omega
    rcases natOf_bound hF hl with ⟨rfl, rfl⟩ | ⟨y', k', m', rfl, e1', e2', e3', rfl⟩
    · refine ⟨?_, by omega, by omega⟩
      cases b <;> simp [Instr.sliceBounds, e1, run_sliceBound, e2, hm]
    · refine ⟨?_, by omega, by omega⟩
      have hb' := run_sliceBound (P := P) w k' m' m.toNat .sliceB e2' e3'
      cases b <;> simp [Instr.sliceBounds, e1, run_sliceBound, e2, hm, e1', hb']

theorem headSized_ok {sz : Nat} {s : List AV} {B off sz' : Nat} (h : headSized sz s = true) (hl : ∀ (i : Nat) (x : AV), s[i]? = some x → (cellsOfAV x).length = sz' ∧ ∀ (j : Nat) (y : AV), (cellsOfAV x)[j]? = some y → g.im B (off + (i * sz' + j)) y) :
    s = [] ∨ sz' = sz := by
  cases s with
  | nil => exact .inl rfl
  | cons x l => exact .inr ((hl 0 x rfl).1.symm.trans (Nat.eq_of_beq_eq_true h))

theorem op_slice {t : Nat} {x : Operand} {lo hi : Option Operand} (hF : FR n st a w g sv ow) (hd : ∀ t, o.dst = some t → t < n) {e : Eff} (ho : o.op = .slice t x lo hi none)
    (he : pureR (evSlice P t (view (opd st x)) (lo.map (opd st)) (hi.map (opd st))) = .ok e) : OpOK P n o a w g ow (applyEff st o.dst e) := by
  obtain ⟨r, h1, rfl⟩ := pureR_ok he
  clear he
  have hx := hF.viewFree x
  unfold evSlice at h1
  split at h1
  · rename_i s hu hxv
    rw [hxv] at hx
    obtain ⟨b, hb, hs⟩ := hx ow ⟨.ret, []⟩
    obtain ⟨h, hh, h2⟩ := Res.mbind_ok h1
    obtain ⟨l, hl, h3⟩ := Res.mbind_ok h2
    cases h3
    have hlen : b.size = s.length := by rw [← hs]; simp
    obtain ⟨hr, h4, h5⟩ := run_bounds (P := P) (w := w) (b := false) hF (Nat.le_refl s.length) (opt_ok hh) (opt_ok hl)
    refine opOK_free hF hd (v' := .string (b.extract l h)) ?_ (fun _ _ => ⟨_, rfl, ?_⟩) trivial
    · rw [← hlen] at hr
      simp [execOp, ho, Instr.sliceAt, Instr.slice, run_und hu, hb, hr]
    · simp [ByteArray.data_extract, hs]
      rw [List.drop_take]
  · rename_i el s hu hxv
    rw [hxv] at hx
    obtain ⟨p, c, hb, hc, hs⟩ := hx ow ⟨.ret, []⟩
    obtain ⟨sz, hsz, h2⟩ := Res.mbind_ok h1
    obtain ⟨h, hh, h3⟩ := Res.mbind_ok h2
    obtain ⟨l, hl, h4⟩ := Res.mbind_ok h3
    obtain ⟨hhs, h5⟩ := guardR_ok h4
    cases h5
    obtain ⟨hr, h6, h7⟩ := run_bounds (P := P) (w := w) (b := true) hF hc (opt_ok hh) (opt_ok hl)
    refine opOK_free hF hd (v' := .slice (if c = l then p else p.map (·.add (l * sz))) (h - l) (c - l)) ?_ (fun _ _ => ⟨if c = l then p else p.map (·.add (l * sz)), c - l, ?_, by simp only [List.length_drop, List.length_take]; omega, ?_⟩) trivial
    · simp [execOp, ho, Instr.sliceAt, Instr.slice, run_und hu, hb, hr, sizeT_run (opt_ok hsz)]
    · congr 1
      simp; omega
    · by_cases hle : h = l
      · left; subst hle; simp
      · rcases hs with rfl | ⟨B, off, sz', rfl, hs⟩
        · left; simp
        · rcases headSized_ok hhs hs with rfl | rfl
          · left; simp
          · right
            refine ⟨B, off + l * sz', sz', by rw [if_neg (by omega)]; simp [Addr_add], fun i y hy => ?_⟩
            have hy' : s[l + i]? = some y := by
              have hi : l + i < h := by
                rcases Nat.lt_or_ge (l + i) h with h | h
                · exact h
                · rw [List.getElem?_eq_none (by simp; omega)] at hy; cases hy
              rw [List.getElem?_drop, List.getElem?_take_of_lt hi] at hy
              exact hy
            refine ⟨(hs _ _ hy').1, fun j z hz => ?_⟩
            have := (hs _ _ hy').2 j z hz
            rw [Nat.add_mul] at this
            have e : off + l * sz' + (i * sz' + j) = off + (l * sz' + i * sz' + j) := by omega
            rw [e]; exact this
  · rename_i el hu hxv
    rw [hxv] at hx
    have hb : a.eval x = .slice none 0 0 := hx ow ⟨.ret, []⟩
    obtain ⟨sz, hsz, h2⟩ := Res.mbind_ok h1
    obtain ⟨h, hh, h3⟩ := Res.mbind_ok h2
    obtain ⟨l, hl, h4⟩ := Res.mbind_ok h3
    cases h4
    obtain ⟨hr, h6, h7⟩ := run_bounds (P := P) (w := w) (b := true) hF (Nat.le_refl 0) (opt_ok hh) (opt_ok hl)
    have : h = 0 := by omega
    subst this
    have : l = 0 := by omega
    subst this
    refine opOK_free hF hd (v' := .slice none 0 0) ?_ (fun _ _ => rfl) trivial
    simp [execOp, ho, Instr.sliceAt, Instr.slice, run_und hu, hb, hr, sizeT_run (opt_ok hsz)]
  · rename_i el r0 ver sz off len hu hxv
    rw [hxv] at hx
    obtain ⟨B, C, c, hg, hb, hC, hc⟩ := hx ow ⟨.ret, []⟩
    obtain ⟨sz', hsz, h2⟩ := Res.mbind_ok h1
    obtain ⟨h, hh, h3⟩ := Res.mbind_ok h2
    obtain ⟨l, hl, h4⟩ := Res.mbind_ok h3
    obtain ⟨hhs, h5⟩ := guardR_ok h4
    have : sz = sz' := Nat.eq_of_beq_eq_true hhs
    subst this
    obtain ⟨hr, h6, h7⟩ := run_bounds (P := P) (w := w) (b := true) hF hc (opt_ok hh) (opt_ok hl)
    have hrun : (execOp a.eval o).run P w = .ok (.value (.slice (if c = l then some ⟨B, off * sz, none⟩ else (some ⟨B, off * sz, none⟩ : Option Addr).map (·.add (l * sz))) (h - l) (c - l))) w := by
      simp [execOp, ho, Instr.sliceAt, Instr.slice, run_und hu, hb, hr, sizeT_run (opt_ok hsz)]
    split at h5
    · rename_i hcond
      cases h5
      refine opOK_free hF hd hrun (fun _ _ => ⟨B, C, c - l, hg, ?_, by omega, by omega⟩) trivial
      simp only [Bool.or_eq_true] at hcond
      rcases hcond with hcond | hcond
      · have := Nat.eq_of_beq_eq_true hcond
        subst this
        by_cases hc0 : c = 0 <;> simp [hc0, Addr_add]
      · have : l < h := by simpa [Nat.blt_eq] using hcond
        rw [if_neg (by omega)]
        simp [Addr_add, Nat.add_mul]
    · rename_i hcond
      cases h5
      have : h = l := by
        have : Nat.blt l h = false := by
          cases hbl : Nat.blt l h with
          | false => rfl
          | true => rw [hbl] at hcond; simp at hcond
        have : ¬ l < h := by intro hlt; rw [← Nat.blt_eq] at hlt; rw [this] at hlt; cases hlt
        omega
      subst this
      refine opOK_free hF hd hrun (fun _ _ => ⟨_, _, by simp; exact ⟨rfl, rfl⟩, by simp, .inl rfl⟩) trivial
  · cases h1

theorem op_slice0 {t : Nat} {x hi m : Operand} (hF : FR n st a w g sv ow) (hd : ∀ t, o.dst = some t → t < n) {e : Eff} (ho : o.op = .slice t x none (some hi) (some m))
    (he : pureR (evSlice0 P t (view (opd st x)) (opd st hi) (opd st m)) = .ok e) : OpOK P n o a w g ow (applyEff st o.dst e) := by
  obtain ⟨r, h1, rfl⟩ := pureR_ok he
  clear he
  have hx := hF.viewFree x
  have zero : ∀ y, isZero (opd st y) = true → ∃ k, a.eval y = .int k 0 := by
    intro y hy
    have h2 := hF.opnd y
    unfold isZero at hy
    split at hy
    · rename_i k z hv
      rw [hv] at h2
      have := of_decide_eq_true hy
      subst this
      exact ⟨k, h2⟩
    · cases hy
  unfold evSlice0 at h1
  split at h1
  · rename_i s el hxv hu
    rw [hxv] at hx
    obtain ⟨p, c, hb, hc, hs⟩ := hx ow ⟨.ret, []⟩
    obtain ⟨sz, hsz, h2⟩ := Res.mbind_ok h1
    obtain ⟨hz, h3⟩ := guardR_ok h2
    cases h3
    simp only [Bool.and_eq_true] at hz
    obtain ⟨k1, e1⟩ := zero hi hz.1
    obtain ⟨k2, e2⟩ := zero m hz.2
    have b1 : ∀ (y : Nat) code, (Instr.sliceBound (.int k1 0) y code).run P w = .ok 0 w := fun y code => run_sliceBound w k1 0 y code (Int.le_refl 0) (by omega)
    have b2 : ∀ (y : Nat) code, (Instr.sliceBound (.int k2 0) y code).run P w = .ok 0 w := fun y code => run_sliceBound w k2 0 y code (Int.le_refl 0) (by omega)
    refine opOK_free hF hd (v' := .slice p 0 0) ?_ (fun _ _ => .inl ⟨rfl, p, rfl⟩) trivial
    simp [execOp, ho, Instr.sliceAt, Instr.slice, Instr.sliceBounds, run_und hu, hb, e1, e2, b1, b2, sizeT_run (opt_ok hsz)]
  · cases h1

end
end Go.Sw
/-! Lengths, the lesser and the greater, conversions. -/
namespace Go.Sw
open Go

section
variable {P : Program} {n : Nat} {o : Oper} {st : St} {a : Act} {w : World} {g : Gh} {sv : Nat → Option Nat} {ow : Ow}

theorem run_builtin {c : Go.Call} {b : Builtin} (ho : o.op = .call c) (hc : c.callee = .builtin b) :
    (execOp a.eval o).run P w = (builtin b c.argTypes o.type (c.args.map fun | .const _ => true | _ => false) (c.args.map a.eval)).run P w := by
  simp [execOp, ho, resolve, hc, invoke]
  rfl

theorem arr1 {α : Type} {xs : Array α} {x : α} (h : xs.toList = [x]) : xs = #[x] := by cases xs; simp at h; subst h; rfl
theorem arr2 {α : Type} {xs : Array α} {x y : α} (h : xs.toList = [x, y]) : xs = #[x, y] := by cases xs; simp at h; subst h; rfl

theorem run_getObj {r : Nat} {x : Obj} (h : w.heap[r]? = some x) (hc : ∀ c e f, x ≠ .cells c e f) : (getObj r).run P w = .ok x w := by
  cases x <;> first | exact absurd rfl (hc _ _ _) | simp [getObj, Sem.run, h]

theorem MapR_length {r : Nat} : ∀ (i : Nat) (l : List (AV × Slot)) (es : List MapEntry), MapR w g ow r i l es → es.length = l.length
  | _, [], _, h => by cases h; rfl
  | i, (_, _) :: l, _, ⟨e, es', h, _, _, _, hr⟩ => by subst h; simp [MapR_length (i + 1) l es' hr]

theorem op_len {c : Go.Call} {x : Operand} {t : Nat} (hF : FR n st a w g sv ow) (hd : ∀ t, o.dst = some t → t < n) {e : Eff} (ho : o.op = .call c) (hc : c.callee = .builtin .len)
    (hx : c.args.toList = [x]) (ht : c.argTypes.toList = [t]) (he : pureR (evLen P t (opd st x) st.heap) = .ok e) : OpOK P n o a w g ow (applyEff st o.dst e) := by
  obtain ⟨r, h1, rfl⟩ := pureR_ok he
  clear he
  have hrun := run_builtin (P := P) (w := w) (a := a) ho hc
  rw [arr1 hx, arr1 ht] at hrun
  have hv := hF.opnd x
  have fin : ∀ k : Nat, (Builtin.len_ #[t] o.type #[a.eval x]).run P w = .ok (.int .i64 (k : Int)) w → OpOK P n o a w g ow (applyEff st o.dst { dst := goI k }) := by
    intro k hk
    refine opOK_val hF hd (v' := .int .i64 (k : Int)) ?_ rfl
    rw [hrun]
    simp [builtin, hk]
  unfold evLen at h1
  split at h1
  · rename_i s hu hxv
    cases h1
    rw [hxv] at hv
    obtain ⟨b, hb, hs⟩ := hv
    refine fin _ ?_
    have : b.size = s.length := by rw [← hs]; simp
    simp [Builtin.len_, run_und hu, hb, goInt, this]
  · rename_i el l hu hxv
    cases h1
    rw [hxv] at hv
    obtain ⟨p, cp, hb, _⟩ := hv
    refine fin _ ?_
    simp [Builtin.len_, run_und hu, hb, goInt]
  · rename_i el sz l hu hxv
    cases h1
    rw [hxv] at hv
    refine fin _ ?_
    rcases hv with ⟨rfl, p, hb⟩ | ⟨B, cap, hb, _⟩
    · simp [Builtin.len_, run_und hu, hb, goInt]
    · simp [Builtin.len_, run_und hu, hb, goInt]
  · rename_i el hu hxv
    cases h1
    rw [hxv] at hv
    have hb : a.eval x = .slice none 0 0 := hv
    refine fin _ ?_
    simp [Builtin.len_, run_und hu, hb, goInt]
  · rename_i el r0 ver sz off k hu hxv
    cases h1
    rw [hxv] at hv
    obtain ⟨B, C, cp, _, hb, _⟩ := hv
    refine fin _ ?_
    simp [Builtin.len_, run_und hu, hb, goInt]
  · rename_i k el hu
    cases h1
    refine fin _ ?_
    simp [Builtin.len_, run_und hu, goInt]
  · rename_i kt el hu hxv
    cases h1
    rw [hxv] at hv
    have hv' : a.eval x = .map none := hv
    refine fin _ ?_
    simp [Builtin.len_, run_und hu, hv', goInt]
  · rename_i kt el r0 hu hxv
    rw [hxv] at hv
    obtain ⟨B, hB, hv⟩ := hv
    split at h1
    · rename_i es hes
      cases h1
      obtain ⟨B', ents, clock, hB', _, hw, hm⟩ := hF.hr.ob _ _ hes
      rw [hB] at hB'
      cases hB'
      refine fin _ ?_
      have := MapR_length _ _ _ hm
      simp at this
      simp [Builtin.len_, run_und hu, hv, goInt, run_getObj hw (by simp), this]
    · cases h1
  · cases h1

theorem op_maxMin {c : Go.Call} {mx : Bool} (hF : FR n st a w g sv ow) (hd : ∀ t, o.dst = some t → t < n) {e : Eff} (ho : o.op = .call c)
    (hc : c.callee = .builtin (if mx then .max else .min)) {why : String}
    (he : pureV (do let xs ← argsR (c.args.toList.map (opd st)); opt why (evMaxMin mx xs)) = .ok e) : OpOK P n o a w g ow (applyEff st o.dst e) := by
  obtain ⟨r, h1, rfl⟩ := pureV_ok he
  clear he
  obtain ⟨xs, hxs, h20⟩ := Res.mbind_ok h1
  have h2 := opt_ok h20
  clear h20
  have hv := argsR_VRs hF c.args.toList xs (by show Res.bind _ _ = _; rw [hxs]; rfl)
  clear h1 hxs
  unfold evMaxMin at h2
  split at h2
  · rename_i k x k' y
    cases h2
    obtain ⟨v1, vs1, e1, h3, h4⟩ := hv
    obtain ⟨v2, vs2, e2, h5, h6⟩ := h4
    cases h6
    cases h3
    cases h5
    subst e2
    have hargs : (c.args.map a.eval) = #[.int k x, .int k' y] := arr2 (by simpa using e1)
    have hrun := run_builtin (P := P) (w := w) (a := a) ho hc
    rw [hargs] at hrun
    cases mx
    · refine opOK_val hF hd (v' := .int k (if y < x then y else x)) ?_ (by by_cases hlt : y < x <;> simp [VR, hlt])
      rw [hrun]
      simp [builtin, Builtin.min_, Builtin.min2]
    · refine opOK_val hF hd (v' := .int k (if x < y then y else x)) ?_ (by by_cases hlt : x < y <;> simp [VR, hlt])
      rw [hrun]
      simp [builtin, Builtin.max_, Builtin.max2]
  · cases h2

/-- what a list's cells are. -/
theorem list_cells1 (hF : FR n st a w g sv ow) {l : List AV} {p : Option Addr} {c : Nat} (h : VR g (.list l) (.slice p l.length c)) (h1 : ∀ x ∈ l, ∃ k m, x = .int k m) :
    l = [] ∨ ∃ B off vs, p = some ⟨B, off, none⟩ ∧ VRs g l vs ∧ ∀ j v, vs[j]? = some v → w.cell? ((⟨B, off, none⟩ : Addr).add j) = some v := by
  obtain ⟨p', c', e, _, hl⟩ := h
  cases e
  rcases hl with rfl | ⟨B, off, sz, rfl, hl⟩
  · exact .inl rfl
  · have key : ∀ (i : Nat) (x : AV), l[i]? = some x → ∃ v, w.cell? ((⟨B, off, none⟩ : Addr).add i) = some v ∧ VR g x v := by
      intro i x hx
      obtain ⟨e1, e2⟩ := hl i x hx
      obtain ⟨k, m, rfl⟩ := h1 x (List.mem_of_getElem? hx)
      have : sz = 1 := by simpa [cellsOfAV] using e1.symm
      subst this
      have h3 := e2 0 (.int k m) rfl
      obtain ⟨v, h4, h5, _⟩ := hF.gc _ _ _ h3
      exact ⟨v, by simpa [Addr_add] using h4, h5⟩
    right
    refine ⟨B, off, l.mapIdx fun i x => ((w.cell? ((⟨B, off, none⟩ : Addr).add i)).getD undef), rfl, VRs_of _ _ (by simp) (fun i x hx => ?_), fun j v hv => ?_⟩
    · obtain ⟨v, h3, h4⟩ := key i x hx
      exact ⟨v, by simp [hx, h3], h4⟩
    · simp only [List.getElem?_mapIdx] at hv
      cases hx : l[j]? with
      | none => simp [hx] at hv
      | some x =>
        obtain ⟨u, h3, h4⟩ := key j x hx
        simp [hx, h3] at hv
        rw [h3, hv]

theorem bytesOf_ints : ∀ (l : List AV) (s : List UInt8), bytesOf l = some s → (∀ x ∈ l, ∃ k m, x = AV.int k m) ∧ s.length = l.length
  | [], s, h => by cases h; simp
  | .int .u8 m :: l, s, h => by
    simp only [bytesOf] at h
    split at h
    · rename_i r _ hr
      cases h
      obtain ⟨h1, h2⟩ := bytesOf_ints l r hr
      exact ⟨fun x hx => by rcases List.mem_cons.mp hx with rfl | hx; exact ⟨_, _, rfl⟩; exact h1 x hx, by simp [h2]⟩
    · cases h

theorem foldl_push (s : List UInt8) : ∀ b : ByteArray, ((s.map fun b : UInt8 => (b.toNat : Int)).foldl (fun r n => r.push (UInt8.ofNat n.toNat)) b).data.toList = b.data.toList ++ s := by
  induction s with
  | nil => intro b; simp
  | cons x s ih => intro b; simp [ih]

theorem op_convert {src dst : Nat} {x : Operand} (hF : FR n st a w g sv ow) (hd : ∀ t, o.dst = some t → t < n) {e : Eff} (ho : o.op = .convert src dst x) {why : String}
    (he : pureV (do let a ← toAVR (opd st x); opt why (evConvert P src dst a)) = .ok e) : OpOK P n o a w g ow (applyEff st o.dst e) := by
  obtain ⟨r, h1, rfl⟩ := pureV_ok he
  clear he
  obtain ⟨p, hp, h20⟩ := Res.mbind_ok h1
  have h2 := opt_ok h20
  have hp' := hF.av (toAVR_ok hp)
  clear h20 h1 hp
  have fin : ∀ v', (convert src dst (a.eval x)).run P w = .ok v' w → VR g r v' → OpOK P n o a w g ow (applyEff st o.dst { dst := .v r }) := fun v' h3 h4 =>
    opOK_val hF hd (by simp [execOp, ho, h3]) h4
  unfold evConvert at h2
  split at h2
  · rename_i k1 k2 k3 m hs hdd
    cases h2
    have hp'' : a.eval x = .int k3 m := hp'
    exact fin (.int k2 (k2.wrap m)) (by simp [convert, run_und hs, run_und hdd, hp'', Conv.intToInt]) (by rw [wr_eq]; rfl)
  · rename_i s hs hdd
    cases h2
    obtain ⟨b, hb, hbs⟩ := hp'
    exact fin (.string b) (by simp [convert, run_und hs, run_und hdd, hb]) ⟨b, rfl, hbs⟩
  · rename_i el l hs hdd
    split at h2
    · rename_i hel
      split at h2
      · rename_i s hby
        cases h2
        obtain ⟨q, c, e1, e2, e3⟩ := hp'
        obtain ⟨hints, hslen⟩ := bytesOf_ints _ _ hby
        have hc := run_convert_bytes_string (P := P) w src dst el q l.length c hs hel hdd
        rw [← e1] at hc
        rcases list_cells1 hF (l := l) (p := q) (c := c) ⟨q, c, rfl, e2, e3⟩ hints with rfl | ⟨B, off, vs, rfl, hvs, hcells⟩
        · cases hby
          refine fin (.string .empty) ?_ ⟨.empty, rfl, rfl⟩
          rw [hc, e1]
          cases q <;> simp [Conv.bytesToString, loadCells, loadCellsFrom]
        · have hvs' := bytesOf_VRs (im := l) _ _ _ hby hvs
          subst hvs'
          have hl : (loadCells ⟨B, off, none⟩ l.length).run P w = .ok (((s.map fun b : UInt8 => (b.toNat : Int))).map (Value.int .u8)).toArray w := by
            have := run_loadCells_list (P := P) (w := w) ⟨B, off, none⟩ (s.map fun b => Value.int .u8 b.toNat) hcells
            simpa [hslen, List.map_map, Function.comp_def] using this
          refine fin (.string ((s.map fun b : UInt8 => (b.toNat : Int)).foldl (fun r n => r.push (UInt8.ofNat n.toNat)) ByteArray.empty)) ?_ ⟨_, rfl, by rw [foldl_push]; rfl⟩
          rw [hc, e1]
          exact run_bytesToString (P := P) w _ _ _ _ hl
      · cases h2
    · cases h2
  · cases h2

end
end Go.Sw
/-! Aggregates that are built. -/
namespace Go.Sw
open Go

theorem writeL_length {α : Type} : ∀ (l cs : List α) (off : Nat), (writeL cs off l).length = cs.length
  | [], _, _ => rfl
  | x :: l, cs, off => by rw [writeL, writeL_length l]; simp
theorem writeL_get {α : Type} : ∀ (l cs : List α) (off i : Nat), (writeL cs off l)[i]? = if off ≤ i ∧ i < off + l.length ∧ i < cs.length then l[i - off]? else cs[i]?
  | [], cs, off, i => by rw [writeL, if_neg (by simp; omega)]
  | x :: l, cs, off, i => by
    rw [writeL, writeL_get l, List.length_set, List.getElem?_set]
    by_cases h1 : i < cs.length
    · by_cases h2 : off = i
      · subst h2
        rw [if_neg (by omega), if_pos rfl, if_pos h1, if_pos ⟨Nat.le_refl _, by simp, h1⟩]; simp
      · by_cases h3 : off + 1 ≤ i ∧ i < off + 1 + l.length
        · rw [if_pos ⟨h3.1, h3.2, h1⟩, if_pos ⟨by omega, by simp; omega, h1⟩]
          have : i - off = (i - (off + 1)) + 1 := by omega
          rw [this]; simp
        · have e1 : ¬ (off + 1 ≤ i ∧ i < off + 1 + l.length ∧ i < cs.length) := fun h => h3 ⟨h.1, h.2.1⟩
          have e2 : ¬ (off ≤ i ∧ i < off + (x :: l).length ∧ i < cs.length) := fun h => h3 ⟨by omega, by have := h.2.1; simp at this; omega⟩
          rw [if_neg e1, if_neg h2, if_neg e2]
    · have e1 : ¬ (off + 1 ≤ i ∧ i < off + 1 + l.length ∧ i < cs.length) := fun h => h1 h.2.2
      have e2 : ¬ (off ≤ i ∧ i < off + (x :: l).length ∧ i < cs.length) := fun h => h1 h.2.2
      rw [if_neg e1, if_neg e2]
      by_cases h2 : off = i
      · subst h2; simp [h1]
      · rw [if_neg h2]

theorem foldl_zip : ∀ (vs : List Value) (k off i : Nat) (arr : Array Value),
    ((vs.zipIdx k).foldl (fun cs (cj : Value × Nat) => cs.setIfInBounds (off + cj.2) cj.1) arr).size = arr.size ∧
    ((vs.zipIdx k).foldl (fun cs (cj : Value × Nat) => cs.setIfInBounds (off + cj.2) cj.1) arr)[i]? = if off + k ≤ i ∧ i < off + k + vs.length ∧ i < arr.size then vs[i - (off + k)]? else arr[i]?
  | [], k, off, i, arr => by refine ⟨by simp, ?_⟩; rw [if_neg (by simp; omega)]; simp
  | v :: vs, k, off, i, arr => by
    obtain ⟨h1, h2⟩ := foldl_zip vs (k + 1) off i (arr.setIfInBounds (off + k) v)
    refine ⟨by simpa using h1, ?_⟩
    rw [List.zipIdx_cons, List.foldl_cons, h2, Array.size_setIfInBounds, Array.getElem?_setIfInBounds]
    by_cases h1 : i < arr.size
    · by_cases h2 : off + k = i
      · subst h2
        rw [if_neg (by omega), if_pos rfl, if_pos h1, if_pos ⟨Nat.le_refl _, by simp, h1⟩]; simp
      · by_cases h3 : off + (k + 1) ≤ i ∧ i < off + (k + 1) + vs.length
        · rw [if_pos ⟨h3.1, h3.2, h1⟩, if_pos ⟨by omega, by simp; omega, h1⟩]
          have : i - (off + k) = (i - (off + (k + 1))) + 1 := by omega
          rw [this]; simp
        · have e1 : ¬ (off + (k + 1) ≤ i ∧ i < off + (k + 1) + vs.length ∧ i < arr.size) := fun h => h3 ⟨h.1, h.2.1⟩
          have e2 : ¬ (off + k ≤ i ∧ i < off + k + (v :: vs).length ∧ i < arr.size) := fun h => h3 ⟨by omega, by have := h.2.1; simp at this; omega⟩
          rw [if_neg e1, if_neg h2, if_neg e2]
    · have e1 : ¬ (off + (k + 1) ≤ i ∧ i < off + (k + 1) + vs.length ∧ i < arr.size) := fun h => h1 h.2.2
      have e2 : ¬ (off + k ≤ i ∧ i < off + k + (v :: vs).length ∧ i < arr.size) := fun h => h1 h.2.2
      rw [if_neg e1, if_neg e2]
      by_cases h2 : off + k = i
      · subst h2; simp [h1]
      · rw [if_neg h2]

/-- cells that hold nothing. -/
def CellsF (w : World) (g : Gh) (sv : Nat → Option Nat) (cs : List Slot) (arr : Array Value) : Prop :=
  arr.size = cs.length ∧ ∀ (i : Nat) (c : Slot) (v : Value), cs[i]? = some c → arr[i]? = some v → FreeR w g sv c v

section
variable {w : World} {g : Gh} {sv : Nat → Option Nat}

theorem CellsF.get {cs : List Slot} {arr : Array Value} (h : CellsF w g sv cs arr) {i : Nat} {c : Slot} (hc : cs[i]? = some c) : ∃ v, arr[i]? = some v ∧ FreeR w g sv c v := by
  have hi : i < cs.length := by
    rcases Nat.lt_or_ge i cs.length with h | h
    · exact h
    · rw [List.getElem?_eq_none h] at hc; cases hc
  have : i < arr.size := by rw [h.1]; exact hi
  exact ⟨arr[i], by simp [this], h.2 i c _ hc (by simp [this])⟩

theorem plain_cell1 {c : Slot} {v : Value} (hp : plainCell c = true) (h : FreeR w g sv c v) : Cell1 v := by
  have h := h (fun _ => none) ⟨.ret, []⟩
  cases c with
  | v x =>
    cases x with
    | agg _ => cases hp
    | bool _ => have h : v = _ := h; subst h; rfl
    | int _ _ => have h : v = _ := h; subst h; rfl
    | str _ => obtain ⟨_, rfl, _⟩ := h; rfl
    | list _ => obtain ⟨_, _, rfl, _⟩ := h; rfl
    | ref _ _ => obtain ⟨_, _, rfl⟩ := h; rfl
    | nilp => have h : v = _ := h; subst h; rfl
    | map _ => obtain ⟨_, _, rfl⟩ := h; rfl
    | nilmap => have h : v = _ := h; subst h; rfl
    | func _ _ => obtain ⟨_, rfl, _⟩ := h; rfl
    | meth _ _ => obtain ⟨_, rfl, _⟩ := h; rfl
    | yield _ => obtain ⟨_, _, rfl⟩ := h; rfl
    | nilf => have h : v = _ := h; subst h; rfl
    | iface _ _ => obtain ⟨_, rfl, _⟩ := h; rfl
    | nili => have h : v = _ := h; subst h; rfl
    | nils => have h : v = _ := h; subst h; rfl
    | hsl _ _ _ _ _ => obtain ⟨_, _, _, _, rfl, _⟩ := h; rfl
  | nil0 => have h : v = _ := h; subst h; rfl
  | own _ _ => rcases h with ⟨_, _, rfl⟩ | ⟨_, _, _, h, _⟩; rfl; cases h
  | _ => cases hp

/-- the same, whoever holds it. -/
theorem SR.cell1 {ow : Ow} {h : Hold} {c : Slot} {v : Value} (hp : plainCell c = true) (hs : SR w g sv ow h c v) : Cell1 v := by
  cases c with
  | own _ _ => rcases hs with ⟨_, _, rfl⟩ | ⟨_, _, rfl, _⟩ <;> rfl
  | v x => exact plain_cell1 (sv := sv) (w := w) hp (VR.free (sv := sv) (w := w) hs)
  | nil0 => have hs : v = _ := hs; subst hs; rfl
  | _ => cases hp

theorem cells_of_cell1 {v : Value} (h : Cell1 v) : v.cells = #[v] := by
  cases v <;> first | rfl | (simp [Cell1, Value.oneCell'] at h)

/-- the cells of a slot. -/
theorem cellsOfSlot_F {s : Slot} {v : Value} (h : FreeR w g sv s v) (hp : (cellsOfSlot s).all plainCell = true) : CellsF w g sv (cellsOfSlot s) v.cells := by
  have one : cellsOfSlot s = [s] → CellsF w g sv (cellsOfSlot s) v.cells := by
    intro e
    rw [e] at hp ⊢
    have h1 := plain_cell1 (by simpa using hp) h
    rw [cells_of_cell1 h1]
    refine ⟨rfl, fun i c u hc hu => ?_⟩
    cases i with
    | zero => simp at hc hu; subst hc; subst hu; exact h
    | succ i => simp at hc
  cases s with
  | agg cs =>
    obtain ⟨vs, rfl, hr⟩ := h (fun _ => none) ⟨.ret, []⟩
    refine ⟨SRs_length _ _ _ hr, fun i c u hc hu ow k => ?_⟩
    -- whoever holds it, under whatever path
    have key : ∀ (l : List Slot) (us : List Value) (j : Nat), (∀ ow h, SRs w g sv ow h j l us) → ∀ (i : Nat) (c : Slot) (u : Value), l[i]? = some c → us[i]? = some u → ∀ ow r p, SR w g sv ow ⟨r, (j + i) :: p⟩ c u := by
      intro l us j hl i c u hc hu ow r p
      obtain ⟨u', h1, h2⟩ := SRs_get l j us (hl ow ⟨r, p⟩) i c hc
      rw [hu] at h1
      cases h1
      exact h2
    have hall : ∀ ow h', SRs w g sv ow h' 0 cs vs.toList := by
      intro ow' h'
      obtain ⟨vs', e, hr'⟩ := h ow' h'
      cases e
      exact hr'
    have hpc : plainCell c = true := by
      have := List.all_eq_true.mp hp c (List.mem_of_getElem? hc)
      exact this
    have hu' : vs.toList[i]? = some u := by simpa [Value.cells] using hu
    have hb := key cs vs.toList 0 hall i c u hc hu' (fun _ => none) k.root []
    cases c with
    | own sz l =>
      rcases hb with hb | ⟨B, cap, _, hb, _⟩
      · exact .inl hb
      · cases hb
    | v x => exact hb
    | nil0 => exact hb
    | _ => cases hpc
  | v x =>
    cases x with
    | agg cs =>
      obtain ⟨vs, rfl, hr⟩ := h (fun _ => none) ⟨.ret, []⟩
      refine ⟨by simpa [cellsOfSlot, Value.cells] using VRs_length _ _ hr, fun i c u hc hu => ?_⟩
      simp only [cellsOfSlot, List.getElem?_map] at hc
      cases hx : cs[i]? with
      | none => simp [hx] at hc
      | some x =>
        simp [hx] at hc
        subst hc
        obtain ⟨u', h1, h2⟩ := VRs_get _ _ hr i x hx
        have : vs.toList[i]? = some u := by simpa [Value.cells] using hu
        rw [this] at h1
        cases h1
        exact VR.free h2
    | _ => exact one rfl
  | _ => exact one rfl

theorem allV_get : ∀ (l : List Slot) (xs : List AV), allV l = some xs → l = xs.map .v
  | [], _, e => by cases e; rfl
  | .v x :: l, xs, e => by
    simp only [allV] at e
    split at e
    · rename_i ys hys; cases e; rw [allV_get l ys hys]; rfl
    · cases e
  | .undef :: _, _, e => by cases e
  | .skip :: _, _, e => by cases e
  | .nil0 :: _, _, e => by cases e
  | .own _ _ :: _, _, e => by cases e
  | .loc _ _ :: _, _, e => by cases e
  | .imm _ :: _, _, e => by cases e
  | .er _ _ _ _ :: _, _, e => by cases e
  | .it _ _ :: _, _, e => by cases e
  | .agg _ :: _, _, e => by cases e
  | .tup _ :: _, _, e => by cases e

theorem CellsF.agg {cs : List Slot} {arr : Array Value} (h : CellsF w g sv cs arr) : FreeR w g sv (mkAgg cs) (.agg arr) := by
  have hs : ∀ ow k, SRs w g sv ow k 0 cs arr.toList := fun ow k => SRs_of _ _ _ (by simpa using h.1) (fun i c hc => by
    obtain ⟨v, h1, h2⟩ := h.get hc
    exact ⟨v, by simpa using h1, h2 _ _⟩)
  unfold mkAgg
  split
  · rename_i xs hxs
    exact fun ow k => ⟨arr, rfl, allV_SRs _ _ _ _ hxs (hs ow k)⟩
  · exact fun ow k => ⟨arr, rfl, hs ow k⟩

variable {n : Nat} {st : St} {a : Act} {ow : Ow} {P : Program} {o : Oper}

theorem plain_noLoc {c : Slot} (h : plainCell c = true) : noLoc c = true := by cases c <;> first | rfl | cases h
theorem mkAgg_lcTop {p : Nat → Prop} {cs : List Slot} (h : noLocs cs = true) : lcTop p (mkAgg cs) := by
  unfold mkAgg
  split
  · trivial
  · exact h

theorem fill_run (hF : FR n st a w g sv ow) {place : Nat → Option (Nat × Nat)} : ∀ (parts : List (Nat × Operand)) (cs cs' : List Slot) (arr : Array Value),
    CellsF w g sv cs arr → fillS place cs (parts.map fun (i, x) => (i, view (opd st x))) = some cs' →
    ∃ arr', Instr.fill place arr (parts.map fun p => (p.1, a.eval p.2)) = some arr' ∧ CellsF w g sv cs' arr'
  | [], cs, cs', arr, hc, h => by cases h; exact ⟨arr, rfl, hc⟩
  | (i, x) :: l, cs, cs', arr, hc, h => by
    simp only [List.map_cons, fillS] at h
    split at h
    · cases h
    · rename_i off size hp
      split at h
      · rename_i hg
        simp only [Bool.and_eq_true] at hg
        obtain ⟨⟨h1, h2⟩, h3⟩ := hg
        have h1 := Nat.eq_of_beq_eq_true h1
        have h3 := Nat.le_of_ble_eq_true h3
        have hv := cellsOfSlot_F (hF.viewFree x) h2
        have hsz : (a.eval x).cells.size = size := hv.1.trans h1
        have hfold := foldl_zip (a.eval x).cells.toList 0 off
        have hF2 : CellsF w g sv (writeL cs off (cellsOfSlot (view (opd st x)))) (((a.eval x).cells.toList.zipIdx 0).foldl (fun cs (cj : Value × Nat) => cs.setIfInBounds (off + cj.2) cj.1) arr) := by
          refine ⟨by rw [(hfold 0 arr).1, writeL_length, hc.1], fun k c v hk hkv => ?_⟩
          rw [writeL_get] at hk
          rw [(hfold k arr).2] at hkv
          simp only [Nat.add_zero, Array.length_toList, hsz, h1, hc.1] at hk hkv
          split at hk
          · rename_i hcond
            rw [if_pos hcond] at hkv
            exact hv.2 _ _ _ hk (by simpa using hkv)
          · rename_i hcond
            rw [if_neg hcond] at hkv
            exact hc.2 _ _ _ hk hkv
        obtain ⟨arr', h4, h5⟩ := fill_run hF l _ cs' _ hF2 h
        refine ⟨arr', ?_, h5⟩
        simp only [List.map_cons, Instr.fill, hp]
        rw [if_neg]
        · rw [← h4]
          congr 1
          rw [← Array.foldl_toList, Array.toList_zipIdx]
        · simp [hsz, hc.1]; omega
      · cases h

theorem ofConst_F (v : Value) : FreeR w g sv (ofConst v) v := fun _ k => ofConst_SR v k

theorem ofConsts_get : ∀ (l : List Value) (i : Nat), (ofConsts l)[i]? = (l[i]?).map ofConst
  | [], i => by simp [ofConsts]
  | v :: l, 0 => by simp [ofConsts]
  | v :: l, i + 1 => by simp [ofConsts, ofConsts_get l i]

/-- the cells of a constant. -/
theorem ofConst_cells (v : Value) : CellsF w g sv (cellsOfSlot (ofConst v)) v.cells := by
  have one : v.cells = #[v] → cellsOfSlot (ofConst v) = [ofConst v] → CellsF w g sv (cellsOfSlot (ofConst v)) v.cells := by
    intro h1 h2
    rw [h1, h2]
    refine ⟨rfl, fun i c u hc hu => ?_⟩
    cases i with
    | zero => simp at hc hu; subst hc; subst hu; exact ofConst_F _
    | succ i => simp at hc
  have many : ∀ l : List Value, CellsF w g sv (ofConsts l) ⟨l⟩ := by
    intro l
    have hlen : ∀ l : List Value, (ofConsts l).length = l.length := by
      intro l; induction l with
      | nil => rfl
      | cons x l ih => simp [ofConsts, ih]
    refine ⟨by simp [hlen], fun i c u hc hu => ?_⟩
    rw [ofConsts_get] at hc
    have hu' : l[i]? = some u := by simpa using hu
    rw [hu'] at hc
    simp at hc
    subst hc
    exact ofConst_F _
  match v with
  | .agg ⟨cs⟩ =>
    simp only [ofConst]
    split
    · rename_i xs hxs
      have : cellsOfSlot (.v (.agg xs)) = ofConsts cs := (allV_get _ _ hxs).symm
      rw [this]; exact many cs
    · exact many cs
  | .bool _ | .int _ _ | .float _ _ | .complex _ _ _ | .string _ | .pointer none | .pointer (some _) | .slice none 0 0 | .slice none 0 (_ + 1) | .slice none (_ + 1) _
  | .slice (some _) _ _ | .map none | .map (some _) | .chan _ | .func _ _ _ | .nilFunc | .iface _ _ | .nilIface | .tuple _ => exact one rfl (by simp [ofConst, cellsOfSlot])

theorem fieldsOf_run : ∀ (fs : List Field) (l : List (Nat × Nat)), fieldsOf P fs = some l → (List.mapM (m := Sem) (fun f : Field => Prod.mk f.offset <$> sizeOf f.type) fs).run P w = .ok l w
  | [], l, h => by cases h; simp
  | f :: fs, l, h => by
    simp only [fieldsOf] at h
    split at h
    · rename_i m hm
      split at h
      · rename_i r hr
        cases h
        simp [List.mapM_cons, sizeT_run hm, fieldsOf_run fs r hr]
      · cases h
    · cases h

theorem op_build {t : Nat} {ps : Array (Nat × Operand)} (hF : FR n st a w g sv ow) (hd : ∀ t, o.dst = some t → t < n) {e : Eff} (ho : o.op = .build t ps)
    (he : pureR (evBuild P t (ps.toList.map fun (i, x) => (i, view (opd st x)))) = .ok e) : OpOK P n o a w g ow (applyEff st o.dst e) := by
  obtain ⟨r, h1, rfl⟩ := pureR_ok he
  clear he
  obtain ⟨z, hz, h2⟩ := Res.mbind_ok h1
  obtain ⟨pl, hpl, h3⟩ := Res.mbind_ok h2
  obtain ⟨cs, hcs, h4⟩ := Res.mbind_ok h3
  obtain ⟨hall, h5⟩ := guardR_ok h4
  cases h5
  obtain ⟨zv, hzr, rfl⟩ := zeroT_run (w := w) (opt_ok hz)
  obtain ⟨arr, hfill, hF2⟩ := fill_run (place := pl) hF ps.toList _ _ _ (ofConst_cells zv) (opt_ok hcs)
  refine opOK_free hF hd (v' := .agg arr) ?_ hF2.agg ?_
  · have hpl := opt_ok hpl
    unfold placesOf at hpl
    split at hpl
    · rename_i fs hu
      split at hpl
      · rename_i l hl
        cases hpl
        have hm : (Array.mapM (m := Sem) (fun f : Field => Prod.mk f.offset <$> sizeOf f.type) fs).run P w = .ok l.toArray w := by
          rw [Array.mapM_eq_mapM_toList]
          simp [fieldsOf_run fs.toList l hl]
        simp [execOp, ho, Instr.build, hzr, run_und hu, hm, hfill]
      · cases hpl
    · rename_i len el hu
      split at hpl
      · rename_i m hm
        cases hpl
        simp [execOp, ho, Instr.build, hzr, run_und hu, sizeT_run hm, hfill]
      · cases hpl
    · cases hpl
  · exact mkAgg_lcTop (noLocs_of _ (fun c hc => plain_noLoc (List.all_eq_true.mp hall c hc)))

end
end Go.Sw
/-! Slices that a place alone may append to. -/
namespace Go.Sw
open Go

/-- All is as it was but for a block. -/
structure Touch (B : Nat) (w w' : World) : Prop where
  oth : ∀ B', B' ≠ B → B' < w.heap.size → w'.heap[B']? = w.heap[B']?
  sz : w.heap.size ≤ w'.heap.size
  lt : B < w'.heap.size
  tp : w'.tape = w.tape
  os : w'.os = w.os
  ot : w'.output = w.output

theorem cell_of_heap {w w' : World} {B o : Nat} (h : w'.heap[B]? = w.heap[B]?) : w'.cell? ⟨B, o, none⟩ = w.cell? ⟨B, o, none⟩ := by simp [World.cell?, h]

theorem lt_of_cell {w : World} {B o : Nat} {v : Value} (h : w.cell? ⟨B, o, none⟩ = some v) : B < w.heap.size := World.block_lt_of_cell? w ⟨B, o, none⟩ h

theorem GCons.lt {w : World} {g : Gh} (hg : GCons w g) {B o : Nat} {y : AV} (h : g.im B o y) : B < w.heap.size := by
  obtain ⟨v, h1, _⟩ := hg _ _ _ h
  exact lt_of_cell h1

theorem Touch.gc {w w' : World} {g g' : Gh} {B : Nat} (ht : Touch B w w') (hg : GCons w g) (hle : g.le g') (hB : ∀ o y, g'.im B o y → ∃ v, w'.cell? ⟨B, o, none⟩ = some v ∧ VR g' y v ∧ Cell1 v)
    (ho : ∀ B' o y, B' ≠ B → g'.im B' o y → g.im B' o y) : GCons w' g' := by
  intro B' o y h
  by_cases hb : B' = B
  · subst hb; exact hB o y h
  · have h := ho _ _ _ hb h
    obtain ⟨v, h1, h2, h3⟩ := hg _ _ _ h
    exact ⟨v, (cell_of_heap (ht.oth _ hb (hg.lt h))).trans h1, VR.mono hle _ _ h2, h3⟩

theorem touch_alloc (w : World) {w1 : World} (h : w1.heap = w.heap) (h1 : w1.tape = w.tape) (h2 : w1.os = w.os) (h3 : w1.output = w.output) (x : Obj) : Touch w.heap.size w (w1.alloc x) := by
  refine ⟨fun B' hne hlt => ?_, by simp [h], by simp [h], h1, h2, h3⟩
  have : (w1.alloc x).heap = w1.heap.push x := rfl
  rw [this, h, Array.getElem?_push_lt hlt, Array.getElem?_eq_getElem hlt]

theorem alloc_new (w : World) {w1 : World} (h : w1.heap = w.heap) (x : Obj) : (w1.alloc x).heap[w.heap.size]? = some x := by
  have : (w1.alloc x).heap = w1.heap.push x := rfl
  rw [this, h]; simp

/-- what the elements of a row may be seen as. -/
def rowIm (l : List AV) (sz o : Nat) (y : AV) : Prop := ∃ i x j, l[i]? = some x ∧ (cellsOfAV x)[j]? = some y ∧ o = i * sz + j

def Gh.addRow (g : Gh) (B : Nat) (l : List AV) (sz : Nat) : Gh := { g with im := fun B' o y => g.im B' o y ∨ (B' = B ∧ rowIm l sz o y) }

theorem Gh.le_addRow (g : Gh) (B : Nat) (l : List AV) (sz : Nat) : g.le (g.addRow B l sz) := ⟨fun _ _ _ h => .inl h, fun _ _ h => h, fun _ _ _ h => h⟩

theorem len_of_get {α : Type} {l : List α} {i : Nat} {x : α} (h : l[i]? = some x) : i < l.length := by
  rcases Nat.lt_or_ge i l.length with h' | h'
  · exact h'
  · rw [List.getElem?_eq_none h'] at h; cases h

theorem row_lt {i j sz k : Nat} (hi : i < k) (hj : j < sz) : i * sz + j < k * sz := by
  have : (i + 1) * sz ≤ k * sz := Nat.mul_le_mul_right _ hi
  rw [Nat.add_mul] at this
  omega

theorem rowIm_lt {l : List AV} {sz o : Nat} {y : AV} (hs : ∀ (i : Nat) (x : AV), l[i]? = some x → (cellsOfAV x).length = sz) (h : rowIm l sz o y) : o < l.length * sz := by
  obtain ⟨i, x, j, h1, h2, rfl⟩ := h
  have := len_of_get h2
  rw [hs i x h1] at this
  exact row_lt (len_of_get h1) this

section
variable {P : Program} {n : Nat} {o : Oper} {st : St} {a : Act} {w : World} {g : Gh} {sv : Nat → Option Nat} {ow : Ow}

/-- who holds what behind a block that a temporary is given. -/
def giveTmp (B : Nat) (d : Option Nat) (ow : Ow) : Ow := fun B' => if B' = B then d.map (fun t => ⟨.tmp t, []⟩) else reown (match d with | some t => dropTmp t | none => some) ow B'

theorem giveTmp_other {B B' : Nat} {d : Option Nat} {r : Root} {p : List Nat} (hB : B' ≠ B) (hr : ∀ t, d = some t → r ≠ .tmp t) (h : ow B' = some ⟨r, p⟩) : giveTmp B d ow B' = some ⟨r, p⟩ := by
  simp only [giveTmp, if_neg hB, reown, h]
  cases d with
  | none => rfl
  | some t =>
    cases r with
    | tmp k =>
      have := hr t rfl
      simp only [ne_eq, Root.tmp.injEq] at this
      simp [dropTmp, this]
    | _ => rfl

theorem giveTmp_bd {B : Nat} {d : Option Nat} {w' : World} (h : ∀ B h, ow B = some h → B < w.heap.size) (hs : w.heap.size ≤ w'.heap.size) (hB : B < w'.heap.size) : ∀ B' k, giveTmp B d ow B' = some k → B' < w'.heap.size := by
  intro B' k hk
  simp only [giveTmp] at hk
  split at hk
  · rename_i e; subst e; exact hB
  · exact Nat.lt_of_lt_of_le (reown_bd h B' k hk) hs

/-- A temporary is given a block: what was there was held by the temporary that hands over, if by anybody. -/
theorem FR.give (hF : FR n st a w g sv ow) {d : Option Nat} (hd : ∀ t, d = some t → t < n) {s : Slot} {v' : Value} {B : Nat} {w' : World} {g' : Gh} {src : Option (Nat × Slot)}
    (ht : Touch B w w') (hle : g.le g') (him : ∀ B' o y, B' ≠ B → g'.im B' o y → g.im B' o y) (hrf : g'.rf = g.rf) (hrw : g'.rw = g.rw)
    (hB : ∀ o y, g'.im B o y → ∃ v, w'.cell? ⟨B, o, none⟩ = some v ∧ VR g' y v ∧ Cell1 v)
    (hold : ∀ h, ow B = some h → ∃ t, h.root = .tmp t ∧ ∃ s, src = some (t, s))
    (hsrc : ∀ t s, src = some (t, s) → d ≠ some t → SR w' g' sv (giveTmp B d ow) ⟨.tmp t, []⟩ s (a.tmps.getD t undef))
    (hlks : ∀ t s, src = some (t, s) → lcTop (fun s => (assoc s st.locs).isSome = true) s)
    (hl : lcTop (fun s => (assoc s st.locs).isSome = true) s)
    (hs : ∀ t, d = some t → SR w' g' sv (giveTmp B d ow) ⟨.tmp t, []⟩ s v') :
    FR n (applyEff st d { dst := s, src := src }) (a.put d v') w' g' sv (giveTmp B d ow) ∧ Fut w g ow w' g' (giveTmp B d ow) := by
  have hne : ∀ B' r p, ow B' = some ⟨r, p⟩ → (∀ t s, src = some (t, s) → r ≠ .tmp t) → B' ≠ B := by
    intro B' r p h hr e
    subst e
    obtain ⟨t, h1, s, h2⟩ := hold _ h
    exact hr t s h2 h1
  have hk : ∀ {p : Root → Prop}, (∀ r, p r → (∀ t s, src = some (t, s) → r ≠ .tmp t) ∧ ∀ t, d = some t → r ≠ .tmp t) → Keeps p w g ow w' g' (giveTmp B d ow) := fun hp =>
    ⟨hle, fun B' r q hr h => by
      have hB' := hne B' r q h (hp r hr).1
      exact ⟨giveTmp_other hB' (hp r hr).2 h, ht.oth _ hB' (hF.bd _ _ h), fun o y hy => him _ _ _ hB' hy⟩⟩
  have hkn : Keeps (fun r => ∀ t, r ≠ .tmp t) w g ow w' g' (giveTmp B d ow) := hk (fun r hr => ⟨fun t _ _ => hr t, fun t _ => hr t⟩)
  refine ⟨hF.step hd (ht.gc hF.gc hle hB him) hs hsrc (fun t h1 h2 => ?_) (fun t _ => hl) hlks (fun s h => h) (fun s cs h => ?_) ?_ ?_ (giveTmp_bd hF.bd ht.sz ht.lt), ?_⟩
  · exact (hk (p := fun r => r = .tmp t) (fun r hr => by
      subst hr
      exact ⟨fun t' s hs e => h2 s (by cases e; exact hs), fun t' hd' e => h1 (by cases e; exact hd')⟩)).keep rfl (fun _ _ h => h)
  · exact (hF.lc s cs h).keeps hkn (by simp) (by simp) (fun _ h => h)
  · exact ⟨fun r o h => (hF.hr.ob r o h).keeps hkn (by simp) (by simp) (fun _ h => by rwa [hrf] at h) (fun _ _ h => by rwa [hrw] at h), fun r hr => by rw [hrf, hrw]; exact hF.hr.nf r hr⟩
  · exact DR.keeps hkn (by simp) _ _ hF.df
  · exact ⟨hle, ht.sz, fun B' p hB' => hkn.ow B' .ctx p (by simp) hB', ht.tp, ht.os, ht.ot⟩

/-- A temporary's own slice. -/
theorem FR.own_set (hF : FR n st a w g sv ow) {d : Option Nat} (hd : ∀ t, d = some t → t < n) {B sz cap : Nat} {l : List AV} {arr : Array Value} {elem : TypeId} {w' : World} {src : Option (Nat × Slot)}
    (ht : Touch B w w') (hB : w'.heap[B]? = some (.cells arr elem (0, 0)))
    (him : ∀ o y, g.im B o y → o < l.length * sz ∧ ∃ v, arr[o]? = some v ∧ VR g y v ∧ Cell1 v)
    (hold : ∀ h, ow B = some h → ∃ t, h.root = .tmp t ∧ ∃ s, src = some (t, s))
    (hsrc : ∀ t s, src = some (t, s) → s = view (getT st.tmps t))
    (hrow : RowR g sz l arr) (hcap : cap * sz ≤ arr.size) (hl : l.length ≤ cap) :
    ∃ g' ow', FR n (applyEff st d { dst := .own sz l, src := src }) (a.put d (.slice (some ⟨B, 0, none⟩) l.length cap)) w' g' sv ow' ∧ Fut w g ow w' g' ow' := by
  have hsz : ∀ (i : Nat) (x : AV), l[i]? = some x → (cellsOfAV x).length = sz := fun i x hx => (hrow i x hx).1
  refine ⟨g.addRow B l sz, giveTmp B d ow, hF.give hd ht (g.le_addRow B l sz) (fun B' o y hne h => ?_) rfl rfl (fun o y h => ?_) hold (fun t s h hne => ?_) (fun t s h => ?_) trivial (fun t h => ?_)⟩
  · rcases h with h | ⟨h, _⟩
    · exact h
    · exact absurd h hne
  · have hc : ∀ k, w'.cell? ⟨B, k, none⟩ = arr[k]? := fun k => cell_of_row w' B k arr elem (0, 0) hB
    rcases h with h | ⟨_, i, x, j, h1, h2, rfl⟩
    · obtain ⟨_, v, h1, h2, h3⟩ := him o y h
      exact ⟨v, by rw [hc, h1], VR.mono (g.le_addRow B l sz) _ _ h2, h3⟩
    · obtain ⟨v, h3, h4, h5⟩ := (hrow i x h1).2 j y h2
      exact ⟨v, by rw [hc, h3], VR.mono (g.le_addRow B l sz) _ _ h4, h5⟩
  · rw [hsrc t s h]
    exact SR.view (g.le_addRow B l sz) (fun _ _ h => h) _ _ (hF.tm t)
  · rw [hsrc t s h]
    exact view_lcTop (hF.lk t)
  · subst h
    refine .inr ⟨B, cap, rfl, by simp [giveTmp], hl, ⟨arr, ⟨elem, hB⟩, hcap⟩, fun i x hx => ⟨hsz i x hx, fun j y hy => .inr ⟨rfl, i, x, j, hx, hy, rfl⟩⟩, fun o y ho h => ?_⟩
    rcases h with h | ⟨_, h⟩
    · have := (him o y h).1; omega
    · have := rowIm_lt hsz h; omega

/-- a new block is nobody's. -/
theorem FR.fresh (hF : FR n st a w g sv ow) : ow w.heap.size = none ∧ ∀ o y, ¬ g.im w.heap.size o y := by
  constructor
  · cases h : ow w.heap.size with
    | none => rfl
    | some k => exact absurd (hF.bd _ _ h) (Nat.lt_irrefl _)
  · intro o y h
    exact absurd (hF.gc.lt h) (Nat.lt_irrefl _)

/-- A new slice. -/
theorem FR.own_new (hF : FR n st a w g sv ow) {d : Option Nat} (hd : ∀ t, d = some t → t < n) {sz cap : Nat} {l : List AV} {arr : Array Value} {elem : TypeId} {w1 : World} {src : Option (Nat × Slot)}
    (h0 : w1.heap = w.heap) (h1 : w1.tape = w.tape) (h2 : w1.os = w.os) (h3 : w1.output = w.output)
    (hsrc : ∀ t s, src = some (t, s) → s = view (getT st.tmps t)) (hrow : RowR g sz l arr) (hcap : cap * sz ≤ arr.size) (hl : l.length ≤ cap) :
    ∃ g' ow', FR n (applyEff st d { dst := .own sz l, src := src }) (a.put d (.slice (some ⟨w.heap.size, 0, none⟩) l.length cap)) (w1.alloc (.cells arr elem (0, 0))) g' sv ow' ∧
      Fut w g ow (w1.alloc (.cells arr elem (0, 0))) g' ow' :=
  hF.own_set hd (touch_alloc w h0 h1 h2 h3 _) (alloc_new w h0 _) (fun o y h => absurd h (hF.fresh.2 o y)) (fun h hh => by rw [hF.fresh.1] at hh; cases hh) hsrc hrow hcap hl

end
end Go.Sw
/-! Slice literals, made slices, appending. -/
namespace Go.Sw
open Go

theorem repeatL_get {α : Type} : ∀ (n : Nat) (l : List α) (k : Nat), k < n * l.length → (repeatL n l)[k]? = l[k % l.length]?
  | 0, l, k, h => by omega
  | n + 1, l, k, h => by
    rw [repeatL, List.getElem?_append]
    split
    · rename_i h1; rw [Nat.mod_eq_of_lt h1]
    · rename_i h1
      have h2 : l.length ≤ k := by omega
      rw [repeatL_get n l (k - l.length) (by rw [Nat.add_mul] at h; omega), Nat.mod_eq_sub_mod h2]
theorem repeatL_length {α : Type} (l : List α) : ∀ n, (repeatL n l).length = n * l.length
  | 0 => by simp [repeatL]
  | n + 1 => by rw [repeatL, List.length_append, repeatL_length l n, Nat.add_mul]; omega

theorem chunks_length {α : Type} (n : Nat) : ∀ (k : Nat) (l : List α), (chunks n k l).length = k
  | 0, _ => rfl
  | k + 1, l => by simp [chunks, chunks_length n k]
theorem chunks_get {α : Type} (n : Nat) : ∀ (k : Nat) (l : List α) (i : Nat), i < k → (chunks n k l)[i]? = some ((l.drop (i * n)).take n)
  | 0, _, _, h => by omega
  | k + 1, l, 0, _ => by simp [chunks]
  | k + 1, l, i + 1, h => by
    simp only [chunks, List.getElem?_cons_succ]
    rw [chunks_get n k _ i (by omega), List.drop_drop, Nat.add_mul]
    congr 3; omega

theorem toAVs_get : ∀ (l : List Slot) (xs : List AV), toAVs l = some xs → xs.length = l.length ∧ ∀ (i : Nat) (x : AV), xs[i]? = some x → ∃ s, l[i]? = some s ∧ toAV s = some x
  | [], xs, h => by cases h; simp
  | s :: l, xs, h => by
    simp only [toAVs] at h
    split at h
    · rename_i y hy
      split at h
      · rename_i ys hys
        cases h
        obtain ⟨h1, h2⟩ := toAVs_get l ys hys
        refine ⟨by simp [h1], fun i x hx => ?_⟩
        cases i with
        | zero => simp at hx; subst hx; exact ⟨s, rfl, hy⟩
        | succ i => simpa using h2 i x (by simpa using hx)
      · cases h
    · cases h

section
variable {P : Program} {n : Nat} {o : Oper} {st : St} {a : Act} {w : World} {g : Gh} {sv : Nat → Option Nat} {ow : Ow}

/-- an element from its cells. -/
theorem ofCells_cells {ag : Bool} {sz : Nat} {cs : List AV} (hl : cs.length = sz) (h : ag = true ∨ sz = 1) (hp : ∀ x ∈ cs, ∀ l, x ≠ .agg l) : cellsOfAV (ofCells ag cs) = cs := by
  cases ag with
  | true => rfl
  | false =>
    have h1 : sz = 1 := by rcases h with h | h; cases h; exact h
    match cs, hl.trans h1 with
    | [x], _ =>
      have := hp x (by simp)
      cases x <;> first | rfl | exact absurd rfl (this _)

theorem plain_toAV {c : Slot} {x : AV} (hp : plainCell c = true) (h : toAV c = some x) : ∀ l, x ≠ .agg l := by
  intro l e
  subst e
  cases c with
  | v y => cases h; cases hp
  | nil0 => cases h
  | own _ _ => cases h
  | _ => cases hp

theorem op_buildSlice {t len : Nat} {ps : Array (Nat × Operand)} (hF : FR n st a w g sv ow) (hd : ∀ t, o.dst = some t → t < n) {e : Eff} (ho : o.op = .buildSlice t len ps)
    (he : pureR (evBuildSlice P t len (ps.toList.map fun (i, x) => (i, view (opd st x)))) = .ok e) : OpOK P n o a w g ow (applyEff st o.dst e) := by
  obtain ⟨r, h1, rfl⟩ := pureR_ok he
  clear he
  unfold evBuildSlice at h1
  split at h1
  · rename_i el hu
    obtain ⟨sz, hsz, h2⟩ := Res.mbind_ok h1
    obtain ⟨ag, hag, h3⟩ := Res.mbind_ok h2
    obtain ⟨z, hz, h4⟩ := Res.mbind_ok h3
    obtain ⟨cs, hcs, h5⟩ := Res.mbind_ok h4
    obtain ⟨xs, hxs, h6⟩ := Res.mbind_ok h5
    obtain ⟨hg, h7⟩ := guardR_ok h6
    cases h7
    clear h1 h2 h3 h4 h5 h6
    simp only [Bool.and_eq_true, Bool.not_eq_true', Bool.or_eq_true] at hg
    obtain ⟨⟨⟨⟨hle, hn0⟩, hzl⟩, hagz⟩, hall⟩ := hg
    have hle := Nat.le_of_ble_eq_true hle
    have hzl := Nat.eq_of_beq_eq_true hzl
    have hn0 : sz ≠ 0 := by intro e; subst e; simp at hn0
    have hagz : ag = true ∨ sz = 1 := hagz.imp id Nat.eq_of_beq_eq_true
    have hsz := opt_ok hsz
    have hxs := opt_ok hxs
    obtain ⟨zv, hzr, rfl⟩ := zeroT_run (w := w) (opt_ok hz)
    have hzc := ofConst_cells (w := w) (g := g) (sv := sv) zv
    have hzs : zv.cells.size = sz := by rw [hzc.1, hzl]
    let base : Array Value := (Array.range (len * sz)).map (zv.cells[· % zv.cells.size]!)
    have hbase : CellsF w g sv (repeatL len (cellsOfSlot (ofConst zv))) base := by
      refine ⟨by simp [base, repeatL_length, hzl], fun k c v hk hv => ?_⟩
      have hk' := len_of_get hk
      rw [repeatL_length] at hk'
      rw [repeatL_get len _ k hk', hzl] at hk
      rw [hzl] at hk'
      have hm : k % sz < sz := Nat.mod_lt _ (by omega)
      have : v = zv.cells[k % zv.cells.size]! := by
        simp [base, hk'] at hv
        exact hv.symm
      subst this
      rw [hzs]
      refine hzc.2 (k % sz) c _ hk ?_
      rw [getElem!_pos zv.cells (k % sz) (by omega)]
      simp [hzs, hm]
    obtain ⟨arr, hfill, hF2⟩ := fill_run (place := fun i => some (i * sz, sz)) hF ps.toList _ _ _ hbase (opt_ok hcs)
    have hcl : cs.length = len * sz := by
      have hgen : ∀ (parts : List (Nat × Slot)) (cs cs' : List Slot), fillS (fun i => some (i * sz, sz)) cs parts = some cs' → cs'.length = cs.length := by
        intro parts
        induction parts with
        | nil => intro cs cs' h; cases h; rfl
        | cons p l ih =>
          intro cs cs' h
          obtain ⟨i, s⟩ := p
          simp only [fillS] at h
          split at h
          · rw [ih _ _ h, writeL_length]
          · cases h
      rw [hgen _ _ _ (opt_ok hcs), repeatL_length, hzl]
    obtain ⟨hxl, hxg⟩ := toAVs_get _ _ hxs
    have hl : ((chunks sz len xs).map (ofCells ag)).length = len := by simp [chunks_length]
    have hrow : RowR g sz ((chunks sz len xs).map (ofCells ag)) arr := by
      intro i x hx
      have hi : i < len := by have := len_of_get hx; rwa [hl] at this
      simp only [List.getElem?_map, chunks_get sz len xs i hi, Option.map_some, Option.some.injEq] at hx
      have hck : ((xs.drop (i * sz)).take sz).length = sz := by
        have := row_lt (j := sz - 1) (sz := sz) hi (by omega)
        simp only [List.length_take, List.length_drop, hxl, hcl]
        omega
      have hcells : cellsOfAV x = (xs.drop (i * sz)).take sz := by
        rw [← hx]
        refine ofCells_cells hck hagz (fun y hy => ?_)
        obtain ⟨k, hk⟩ := List.mem_iff_getElem?.mp (List.mem_of_mem_drop (List.mem_of_mem_take hy))
        obtain ⟨s, hs1, hs2⟩ := hxg k y hk
        exact plain_toAV (List.all_eq_true.mp hall s (List.mem_of_getElem? hs1)) hs2
      rw [hcells]
      refine ⟨hck, fun j y hy => ?_⟩
      have hj : j < sz := by have := len_of_get hy; rwa [hck] at this
      rw [List.getElem?_take_of_lt hj, List.getElem?_drop] at hy
      obtain ⟨s, hs1, hs2⟩ := hxg _ y hy
      obtain ⟨v, hv1, hv2⟩ := hF2.get hs1
      exact ⟨v, hv1, SR.toAV (w := w) (sv := sv) (ow := ow) (h := ⟨.ret, []⟩) _ _ _ (hv2 _ _) hs2, plain_cell1 (List.all_eq_true.mp hall s (List.mem_of_getElem? hs1)) hv2⟩
    obtain ⟨g', ow', h8, h9⟩ := hF.own_new hd (cap := len) (elem := el) (w1 := w) (src := none) rfl rfl rfl rfl (fun _ _ h => by cases h) hrow (by rw [hF2.1, hcl]; exact Nat.le_refl _) (by rw [hl]; exact Nat.le_refl _)
    refine ⟨_, _, _, g', sv, ow', ?_, .inl rfl, h8, h9⟩
    rw [hl]
    have hle' : ¬ (16777216 < len * sz) := by omega
    by_cases h0 : len * sz = 0
    · have : base = #[] := by simp [base, h0]
      rw [this] at hfill
      have hr0 : Array.range 0 = (#[] : Array Nat) := rfl
      simp [execOp, ho, Instr.buildSlice, run_und hu, sizeT_run hsz, h0, hr0, hfill, newRow]
    · simp [execOp, ho, Instr.buildSlice, run_und hu, sizeT_run hsz, h0, hle', hzr, newRow]
      simp only [base] at hfill
      simp [hfill]
  · cases h1

theorem RowR.replicate {sz m : Nat} {y : AV} {arr : Array Value} (hs : (cellsOfAV y).length = sz) (h : ∀ k j x, k < m → (cellsOfAV y)[j]? = some x → ∃ v, arr[k * sz + j]? = some v ∧ VR g x v ∧ Cell1 v) : RowR g sz (List.replicate m y) arr := by
  intro i x hx
  have hi := len_of_get hx
  simp only [List.length_replicate] at hi
  rw [List.getElem?_replicate, if_pos hi] at hx
  cases hx
  exact ⟨hs, fun j z hz => h i j z hi hz⟩


theorem bytesT_lt {t by_ : Nat} (h : bytesT P t = some by_) : t < P.types.size ∧ ∃ i, P.info? t = some i ∧ i.bytes = by_ := by
  unfold bytesT at h
  split at h
  · rename_i hlt
    split at h
    · rename_i i hi; cases h; exact ⟨Nat.blt_eq.mp hlt, i, hi, rfl⟩
    · cases h
  · cases h

theorem info_all {t sz by_ : Nat} {z : Slot} (h1 : sizeT P t = some sz) (h2 : bytesT P t = some by_) (h3 : zeroT P t = some z) : ∃ i zv, P.info? t = some i ∧ i.size = sz ∧ i.bytes = by_ ∧ i.zero = some zv ∧ z = ofConst zv := by
  obtain ⟨_, ib, hib, h2⟩ := bytesT_lt h2
  unfold sizeT at h1
  unfold zeroT at h3
  cases hi : P.info? t with
  | none => simp [hi] at h1
  | some i =>
    simp only [hi, Option.some.injEq] at h1 h3
    rw [hi] at hib
    cases hib
    split at h3
    · rename_i zv hz; cases h3; exact ⟨_, zv, rfl, h1, h2, hz, rfl⟩
    · cases h3

theorem cellsOf_length {s : Slot} {y : AV} (h : toAV s = some y) : (cellsOfSlot s).length = (cellsOfAV y).length := by
  cases s with
  | v x => cases h; cases y <;> first | rfl | simp [cellsOfSlot, cellsOfAV]
  | nil0 => cases h; rfl
  | own _ _ => cases h; rfl
  | agg cs =>
    simp only [toAV] at h
    split at h
    · rename_i xs hxs
      cases h
      exact (toAVs_get _ _ hxs).1.symm
    · cases h
  | _ => cases h

theorem cellsOf_toAV {s : Slot} {y : AV} (h : toAV s = some y) : ∀ (j : Nat) (x : AV), (cellsOfAV y)[j]? = some x → ∃ c, (cellsOfSlot s)[j]? = some c ∧ toAV c = some x := by
  have one : cellsOfAV y = [y] → cellsOfSlot s = [s] → ∀ (j : Nat) (x : AV), (cellsOfAV y)[j]? = some x → ∃ c, (cellsOfSlot s)[j]? = some c ∧ toAV c = some x := by
    intro h1 h2 j x hx
    rw [h1] at hx
    cases j with
    | zero => simp at hx; subst hx; exact ⟨s, by rw [h2]; rfl, h⟩
    | succ j => simp at hx
  cases s with
  | v x =>
    cases h
    cases y with
    | agg cs => intro j x hx; exact ⟨.v x, by simp only [cellsOfSlot, List.getElem?_map]; rw [show cs[j]? = some x from hx]; rfl, rfl⟩
    | _ => exact one rfl rfl
  | nil0 => cases h; exact one rfl rfl
  | own _ _ => cases h; exact one rfl rfl
  | agg cs =>
    simp only [toAV] at h
    split at h
    · rename_i xs hxs
      cases h
      exact fun j x hx => (toAVs_get _ _ hxs).2 j x hx
    · cases h
  | _ => cases h

/-- the cells of a slot that is a value. -/
theorem cells_VR {s : Slot} {v : Value} {y : AV} (hs : FreeR w g sv s v) (hy : toAV s = some y) (hp : (cellsOfSlot s).all plainCell = true) :
    ∀ (j : Nat) (x : AV), (cellsOfAV y)[j]? = some x → ∃ u, v.cells[j]? = some u ∧ VR g x u ∧ Cell1 u := by
  intro j x hx
  obtain ⟨c, h1, h2⟩ := cellsOf_toAV hy j x hx
  obtain ⟨u, h3, h4⟩ := (cellsOfSlot_F hs hp).get h1
  exact ⟨u, h3, SR.toAV (w := w) (sv := sv) (ow := fun _ => none) (h := ⟨.ret, []⟩) _ _ _ (h4 _ _) h2, plain_cell1 (List.all_eq_true.mp hp c (List.mem_of_getElem? h1)) h4⟩

theorem bigLen_eq : bigLen = 549755813888 := rfl

/-- the row that 'make' makes. -/
theorem makeSlice_row {i : TypeInfo} {zv : Value} {y : AV} {m c : Nat} (hy : toAV (ofConst zv) = some y) (hp : (cellsOfSlot (ofConst zv)).all plainCell = true) (hl : (cellsOfAV y).length = i.size)
    (hz : (cellsOfSlot (ofConst zv)).length = i.size) (hmc : m ≤ c) : RowR g i.size (List.replicate m y) (madeCells zv.cells (c * i.size)) := by
  refine RowR.replicate hl (fun k j x hk hx => ?_)
  have hj : j < i.size := by have := len_of_get hx; rwa [hl] at this
  obtain ⟨u, h1, h2, h3⟩ := cells_VR (w := (default : World)) (sv := fun _ => none) (g := g) (ofConst_F zv) hy hp j x hx
  have hzs : zv.cells.size = i.size := by rw [(ofConst_cells (w := (default : World)) (g := g) (sv := fun _ => none) zv).1, hz]
  have hlt : k * i.size + j < c * i.size := row_lt (by omega) hj
  refine ⟨u, ?_, h2, h3⟩
  have e : (k * i.size + j) % i.size = j := by rw [Nat.add_comm, Nat.add_mul_mod_self_right, Nat.mod_eq_of_lt hj]
  have : zv.cells[j]! = u := by
    have hj' : j < zv.cells.size := by omega
    rw [getElem!_pos zv.cells j hj']
    rw [Array.getElem?_eq_getElem hj'] at h1
    exact Option.some.inj h1
  simp [madeCells, hlt, hzs, e, this]

theorem op_makeSlice {t : Nat} {x y : Operand} (hF : FR n st a w g sv ow) (hd : ∀ t, o.dst = some t → t < n) {e : Eff} {A : Option Nat} (ho : o.op = .makeSlice t x y)
    (he : evMakeSlice P false t (opd st x) (opd st y) (envOf A st) = .ok e) : OpOK P n o a w g ow (applyEff st o.dst e) := by
  unfold evMakeSlice at he
  split at he
  · rename_i k1 m1 k2 m2 el hx hy hu
    obtain ⟨sz, hsz, h2⟩ := Res.mbind_ok he
    obtain ⟨by_, hby, h3⟩ := Res.mbind_ok h2
    obtain ⟨z, hz, h4⟩ := Res.mbind_ok h3
    obtain ⟨q, hq, h5⟩ := Res.mbind_ok h4
    obtain ⟨ag, hag, h6⟩ := Res.mbind_ok h5
    obtain ⟨hg, h7⟩ := guardR_ok h6
    cases h7
    clear he h2 h3 h4 h5 h6
    simp only [Bool.and_eq_true, Bool.not_eq_true', decide_eq_true_eq] at hg
    obtain ⟨⟨⟨⟨⟨⟨⟨g1, g2⟩, g3⟩, g4⟩, g5⟩, g6⟩, g7⟩, _⟩ := hg
    have g4 := Nat.le_of_ble_eq_true g4
    have g7 := Nat.eq_of_beq_eq_true g7
    obtain ⟨i, zv, hi, rfl, rfl, hzv, rfl⟩ := info_all (opt_ok hsz) (opt_ok hby) (opt_ok hz)
    have hq := toAVR_ok hq
    have e1 : a.eval x = .int k1 m1 := by have := hF.opnd x; rw [hx] at this; exact this
    have e2 : a.eval y = .int k2 m2 := by have := hF.opnd y; rw [hy] at this; exact this
    rw [bigLen_eq] at g3
    have hbytes : (i.bytes : Int) * m2 ≤ 281474976710656 := by
      have h1 : (i.bytes : Int) ≤ 256 := by omega
      have h2 : (i.bytes : Int) * m2 ≤ 256 * m2 := Int.mul_le_mul_of_nonneg_right h1 (by omega)
      omega
    have hrun := run_make (P := P) w t el i zv hu hi hzv k1 k2 m1 m2 g1 g2 hbytes (by omega)
    have hzl : (cellsOfSlot (ofConst zv)).length = i.size := (cellsOf_length hq).trans g7
    have hrow := makeSlice_row (g := g) (i := i) (m := m1.toNat) (c := m2.toNat) hq g6 g7 hzl (by omega)
    obtain ⟨g', ow', h8, h9⟩ := hF.own_new hd (cap := m2.toNat) (elem := el) (w1 := w) (src := none) rfl rfl rfl rfl (fun _ _ h => by cases h) hrow (by rw [size_madeCells]; exact Nat.le_refl _) (by simp; omega)
    refine ⟨_, _, _, g', sv, ow', ?_, .inl rfl, h8, h9⟩
    simp [execOp, ho, e1, e2, hrun]
  · cases he

end
end Go.Sw
/-! Appending. -/
namespace Go.Sw
open Go

section
variable {P : Program} {n : Nat} {o : Oper} {st : St} {a : Act} {w : World} {g : Gh} {sv : Nat → Option Nat} {ow : Ow}

/-- the cells of elements that lie one behind the other. -/
theorem cells_row {w : World} {g : Gh} {l : List AV} {sz' : Nat} {b0 : Addr} (hlen : ∀ (i : Nat) (x : AV), l[i]? = some x → (cellsOfAV x).length = sz')
    (key : ∀ (i j : Nat) (x y : AV), l[i]? = some x → (cellsOfAV x)[j]? = some y → ∃ v, w.cell? (b0.add (i * sz' + j)) = some v ∧ VR g y v ∧ Cell1 v) :
    ∃ vs : List Value, vs.length = l.length * sz' ∧ RowR g sz' l vs.toArray ∧ (∀ u ∈ vs, u.oneCell' = true) ∧ ∀ j u, vs[j]? = some u → w.cell? (b0.add j) = some u := by
  have all : ∀ k, k < l.length * sz' → ∃ v, w.cell? (b0.add k) = some v ∧ Cell1 v := by
    intro k hk
    have hz : 0 < sz' := by
      rcases Nat.eq_zero_or_pos sz' with h | h
      · rw [h] at hk; simp at hk
      · exact h
    have h1 : k / sz' < l.length := (Nat.div_lt_iff_lt_mul hz).mpr hk
    have h2 : k % sz' < sz' := Nat.mod_lt _ hz
    have h3 : l[k / sz']? = some l[k / sz'] := List.getElem?_eq_getElem h1
    have h4 : k % sz' < (cellsOfAV l[k / sz']).length := by rw [hlen _ _ h3]; exact h2
    obtain ⟨v, h5, _, h6⟩ := key _ _ _ _ h3 (List.getElem?_eq_getElem h4)
    have : k / sz' * sz' + k % sz' = k := by rw [Nat.mul_comm]; exact Nat.div_add_mod k sz'
    rw [this] at h5
    exact ⟨v, h5, h6⟩
  let vs : List Value := (List.range (l.length * sz')).map fun k => (w.cell? (b0.add k)).getD undef
  have hget : ∀ k u, vs[k]? = some u → k < l.length * sz' ∧ w.cell? (b0.add k) = some u := by
    intro k u hu
    have hk := len_of_get hu
    simp only [vs, List.length_map, List.length_range] at hk
    obtain ⟨v, h1, _⟩ := all k hk
    simp [vs, hk, h1] at hu
    exact ⟨hk, by rw [h1, hu]⟩
  refine ⟨vs, by simp [vs], fun i x hx => ⟨hlen i x hx, fun j y hy => ?_⟩, fun u hu => ?_, fun j u hu => (hget j u hu).2⟩
  · obtain ⟨v, h1, h2, h3⟩ := key i j x y hx hy
    have hk : i * sz' + j < l.length * sz' := row_lt (len_of_get hx) (by have := len_of_get hy; rwa [hlen i x hx] at this)
    exact ⟨v, by simp [vs, hk, h1], h2, h3⟩
  · obtain ⟨k, hk⟩ := List.mem_iff_getElem?.mp hu
    obtain ⟨h1, h2⟩ := hget k u hk
    obtain ⟨v, h3, h4⟩ := all k h1
    rw [h2] at h3
    cases h3
    exact h4

/-- the cells of a list. -/
theorem list_row {w : World} {g : Gh} (hg : GCons w g) {l : List AV} {v : Value} {sz : Nat} (h : VR g (.list l) v) (hs : sizedAll sz l = true) :
    ∃ p c, v = .slice p l.length c ∧ ∃ vs : List Value, vs.length = l.length * sz ∧ RowR g sz l vs.toArray ∧ (∀ u ∈ vs, u.oneCell' = true) ∧
      (l ≠ [] → ∃ b, p = some b ∧ ∀ j u, vs[j]? = some u → w.cell? (b.add j) = some u) := by
  obtain ⟨p, c, rfl, hc, hl⟩ := h
  refine ⟨p, c, rfl, ?_⟩
  rcases hl with rfl | ⟨B, off, sz', rfl, hl⟩
  · exact ⟨[], by simp, fun i x hx => by simp at hx, by simp, fun h => absurd rfl h⟩
  · by_cases hnil : l = []
    · subst hnil; exact ⟨[], by simp, fun i x hx => by simp at hx, by simp, fun h => absurd rfl h⟩
    have hlen : ∀ (i : Nat) (x : AV), l[i]? = some x → (cellsOfAV x).length = sz := fun i x hx =>
      Nat.eq_of_beq_eq_true (List.all_eq_true.mp hs x (List.mem_of_getElem? hx))
    have hsz : sz' = sz := by
      match l, hnil with
      | x :: l, _ => exact (hl 0 x rfl).1.symm.trans (hlen 0 x rfl)
    subst hsz
    have key : ∀ (i j : Nat) (x y : AV), l[i]? = some x → (cellsOfAV x)[j]? = some y → ∃ v, w.cell? ((⟨B, off, none⟩ : Addr).add (i * sz' + j)) = some v ∧ VR g y v ∧ Cell1 v := by
      intro i j x y hx hy
      have := (hl i x hx).2 j y hy
      obtain ⟨v, h1, h2, h3⟩ := hg _ _ _ this
      exact ⟨v, by rw [Addr_add]; exact h1, h2, h3⟩
    obtain ⟨vs, h1, h2, h3, h4⟩ := cells_row (b0 := ⟨B, off, none⟩) hlen key
    exact ⟨vs, h1, h2, h3, fun _ => ⟨_, rfl, h4⟩⟩

theorem run_firstCells_zero (size : Nat) (p : Option Addr) (l c : Nat) (w1 : World) : (Builtin.firstCells size 0 (.slice p l c)).run P w1 = .ok #[] w1 := by
  cases p <;> simp [Builtin.firstCells, loadCells, loadCellsFrom]

theorem firstCells_list (hF : FR n st a w g sv ow) {l : List AV} {v : Value} {sz : Nat} (h : VR g (.list l) v) (hs : sizedAll sz l = true) :
    ∃ vs : List Value, vs.length = l.length * sz ∧ RowR g sz l vs.toArray ∧ (∀ u ∈ vs, u.oneCell' = true) ∧
      ∀ w1 : World, w1.heap = w.heap → (Builtin.lenOf v).run P w1 = .ok l.length w1 ∧ (Builtin.firstCells sz l.length v).run P w1 = .ok vs.toArray w1 := by
  obtain ⟨p, c, rfl, vs, h1, h2, h3, h4⟩ := list_row hF.gc h hs
  refine ⟨vs, h1, h2, h3, fun w1 hw => ⟨by simp [Builtin.lenOf], ?_⟩⟩
  by_cases hnil : l = []
  · subst hnil
    have : vs = [] := List.eq_nil_of_length_eq_zero (by simpa using h1)
    subst this
    exact run_firstCells_zero _ _ _ _ _
  · obtain ⟨b, rfl, hb⟩ := h4 hnil
    exact run_firstCells_some (P := P) w1 sz l.length b l.length c vs h1 (fun j u hu => by have := hb j u hu; simpa [World.cell?, hw] using this)

/-- the cells of a part of a row. -/
theorem firstCells_row (hF : FR n st a w g sv ow) {r ver sz' off len : Nat} {v : Value} {l : List AV} {sz : Nat} (h : VR g (.hsl r ver sz' off len) v) (hl : rowPart st.heap r ver sz' off len = some l) (hs : sizedAll sz l = true) :
    ∃ vs : List Value, vs.length = l.length * sz ∧ RowR g sz l vs.toArray ∧ (∀ u ∈ vs, u.oneCell' = true) ∧
      ∀ w1 : World, w1.heap = w.heap → (Builtin.lenOf v).run P w1 = .ok l.length w1 ∧ (Builtin.firstCells sz l.length v).run P w1 = .ok vs.toArray w1 := by
  obtain ⟨B, C, c, hrw, rfl, hC, hc⟩ := h
  unfold rowPart at hl
  cases hr : st.heap[r]? with
  | none => rw [hr] at hl; cases hl
  | some ob =>
    rw [hr] at hl
    cases ob with
    | row ver' sz2 l2 =>
      simp only at hl
      split at hl
      · rename_i hg
        cases hl
        simp only [Bool.and_eq_true] at hg
        obtain ⟨⟨g1, g2⟩, g3⟩ := hg
        have g1 := Nat.eq_of_beq_eq_true g1
        have g2 := Nat.eq_of_beq_eq_true g2
        have g3 := Nat.le_of_ble_eq_true g3
        subst g1; subst g2
        obtain ⟨B', C', arr, q1, _, ⟨elem, q3⟩, _, _, _, q7, _⟩ := hF.hr.ob r _ hr
        rw [hrw] at q1
        cases q1
        have hlen0 : ((l2.drop off).take len).length = len := by simp; omega
        have hget : ∀ (i : Nat) x, ((l2.drop off).take len)[i]? = some x → l2[off + i]? = some x := by
          intro i x hx
          have hi := len_of_get hx
          rw [hlen0] at hi
          rw [List.getElem?_take_of_lt hi, List.getElem?_drop] at hx
          exact hx
        have hlen : ∀ (i : Nat) x, ((l2.drop off).take len)[i]? = some x → (cellsOfAV x).length = sz' := fun i x hx => (q7 _ _ (hget i x hx)).1
        rcases (Nat.eq_zero_or_pos len) with h0 | hpos
        · subst h0
          refine ⟨[], by simp, fun i x hx => by simp at hx, by simp, fun w1 hw => ⟨by simp [Builtin.lenOf], ?_⟩⟩
          simp only [List.take_zero, List.length_nil]
          exact run_firstCells_zero _ _ _ _ _
        · have hsz : sz' = sz := by
            have h1 : ∃ x, ((l2.drop off).take len)[0]? = some x := ⟨_, List.getElem?_eq_getElem (by rw [hlen0]; exact hpos)⟩
            obtain ⟨x, hx⟩ := h1
            exact (hlen 0 x hx).symm.trans (Nat.eq_of_beq_eq_true (List.all_eq_true.mp hs x (List.mem_of_getElem? hx)))
          subst hsz
          obtain ⟨vs, k1, k2, k3, k4⟩ := cells_row (w := w) (g := g) (b0 := ⟨B, off * sz', none⟩) hlen (fun i j x y hx hy => by
            obtain ⟨u, e1, e2, e3⟩ := (q7 _ _ (hget i x hx)).2 j y hy
            refine ⟨u, ?_, e2, e3⟩
            have : off * sz' + (i * sz' + j) = (off + i) * sz' + j := by rw [Nat.add_mul]; omega
            simp only [Addr_add, this, World.cell?, q3]
            exact e1)
          refine ⟨vs, k1, k2, k3, fun w1 hw => ⟨by simp [Builtin.lenOf, hlen0], ?_⟩⟩
          have := run_firstCells_some (P := P) w1 sz' ((l2.drop off).take len).length ⟨B, off * sz', none⟩ len c vs k1 (fun j u hu => by have := k4 j u hu; simpa [World.cell?, hw] using this)
          exact this
      · cases hl
    | _ => cases hl

/-- what is appended. -/
theorem appended_run (hF : FR n st a w g sv ow) {y : Operand} {ys : List AV} {sz : Nat} (h : appended st.heap (opd st y) = .ok ys) (hs : sizedAll sz ys = true) :
    ∃ vs : List Value, vs.length = ys.length * sz ∧ RowR g sz ys vs.toArray ∧ (∀ u ∈ vs, u.oneCell' = true) ∧
      ∀ w1 : World, w1.heap = w.heap → (Builtin.lenOf (a.eval y)).run P w1 = .ok ys.length w1 ∧ (Builtin.firstCells sz ys.length (a.eval y)).run P w1 = .ok vs.toArray w1 := by
  have hv := hF.opnd y
  unfold appended at h
  split at h
  · rename_i r ver sz' off len hy
    rw [hy] at hv
    exact firstCells_row hF hv (opt_ok h) hs
  · rename_i l hy
    cases h
    rw [hy] at hv
    exact firstCells_list hF hv hs
  · rename_i s l hy
    cases h
    rw [hy] at hv
    exact firstCells_list hF (SR.toAV (.own s ys) _ _ hv rfl) hs
  · rename_i hy
    cases h
    rw [hy] at hv
    have hp : _ = Value.slice none 0 0 := hv
    rw [hp]
    exact firstCells_list hF (l := []) VR.nil hs
  · rename_i s hy
    cases h
    rw [hy] at hv
    obtain ⟨b, hb, hbs⟩ := hv
    have hbl : b.size = s.length := by rw [← hbs]; simp
    have hsz : s = [] ∨ sz = 1 := by
      cases s with
      | nil => exact .inl rfl
      | cons x s =>
        have := List.all_eq_true.mp hs (.int .u8 x.toNat) (by simp)
        exact .inr (Nat.eq_of_beq_eq_true this).symm
    refine ⟨s.map fun x => .int .u8 x.toNat, ?_, fun i x hx => ?_, by simp [Value.oneCell'], fun w1 _ => ⟨by simp [hb, Builtin.lenOf, hbl], ?_⟩⟩
    · rcases hsz with rfl | rfl <;> simp
    · simp only [List.getElem?_map] at hx
      cases hi : s[i]? with
      | none => simp [hi] at hx
      | some u =>
        simp [hi] at hx
        subst hx
        rcases hsz with rfl | rfl
        · simp at hi
        · refine ⟨rfl, fun j z hz => ?_⟩
          cases j with
          | zero => simp [cellsOfAV] at hz; subst hz; exact ⟨_, by simp [hi], rfl, rfl⟩
          | succ j => simp [cellsOfAV] at hz
    · have : (b.extract 0 b.size).data.map (fun x => Value.int .u8 x.toNat) = (s.map fun x => Value.int .u8 x.toNat).toArray := by
        rw [← hbs]; apply Array.ext'; simp
      simp only [List.length_map, ← hbl, hb, Builtin.firstCells, this]
      rfl
  · cases h

theorem append_room_run {t ty e rt : Nat} {d : TypeDesc} (ht : P.underlying t = some (.slice e)) (hty : P.underlying ty = some d) (hd : (∃ q, d = .slice q) ∨ d = .string) {sz : Nat} (hi : sizeT P e = some sz)
    {base : Option Addr} {sLen sCap m : Nat} {x : Value} {news : List Value} (hlen : (Builtin.lenOf x).run P w = .ok m w) (hnews : (Builtin.firstCells sz m x).run P w = .ok news.toArray w)
    (h : sLen + m ≤ sCap) {w' : World} (hst : ∀ b, base = some b → (storeCells (b.add (sLen * sz)) news).run P w = .ok () w') (hn : base = none → w' = w) :
    (Builtin.append_ #[t, ty] rt #[.slice base sLen sCap, x]).run P w = .ok (.slice base (sLen + m) sCap) w' := by
  cases base with
  | none =>
    cases hn rfl
    rcases hd with ⟨q, rfl⟩ | rfl <;> simp [Builtin.append_, run_und ht, run_und hty, sizeT_run hi, hlen, h, hnews]
  | some b =>
    have := hst b rfl
    rcases hd with ⟨q, rfl⟩ | rfl <;> simp [Builtin.append_, run_und ht, run_und hty, sizeT_run hi, hlen, h, hnews, this]

theorem append_grow_run {t ty e rt : Nat} {d : TypeDesc} (ht : P.underlying t = some (.slice e)) (hty : P.underlying ty = some d) (hd : (∃ q, d = .slice q) ∨ d = .string) {i : TypeInfo} {zv : Value} (hi : P.info? e = some i) (hz : i.zero = some zv)
    {base : Option Addr} {sLen sCap m : Nat} {x : Value} {olds news : List Value} (hlen : (Builtin.lenOf x).run P w = .ok m w) (holds : (Builtin.firstCells i.size sLen (.slice base sLen sCap)).run P w.drew = .ok olds.toArray w.drew)
    (hnews : (Builtin.firstCells i.size m x).run P w.drew = .ok news.toArray w.drew) (h : sCap < sLen + m) (hfit : (sLen + m) * i.bytes ≤ 140737488355328) (hmax : sLen + m ≤ 9223372036854775807) :
    (Builtin.append_ #[t, ty] rt #[.slice base sLen sCap, x]).run P w = .ok (.slice (some ⟨w.heap.size, 0, none⟩) (sLen + m) (grownCap w (sLen + m) sCap e))
      (w.drew.alloc (.cells (olds.toArray ++ news.toArray ++ Builtin.zeroCells zv.cells (grownCap w (sLen + m) sCap e - (sLen + m))) e)) := by
  have hn : ¬ (sLen + m ≤ sCap) := by omega
  have h63 : ¬ (9223372036854775807 < ((sLen : Int) + (m : Int))) := by omega
  have h48 : ¬ (281474976710656 < Builtin.nextslicecap (sLen + m) sCap * i.bytes) := by
    have := growslice_fits (need := sLen + m) (old := sCap) (bytes := i.bytes) h hfit; omega
  rcases hd with ⟨q, rfl⟩ | rfl <;>
    (simp [Builtin.append_, run_und ht, run_und hty, sizeOf, typeInfo, zeroValue, hi, hz, hlen, hn, h63, h48, Question.forced, holds, hnews, newRow, grownCap]
     congr 2
     apply Array.ext'
     simp [List.append_assoc])

end
end Go.Sw

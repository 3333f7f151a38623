/- The evaluator over values that are not known: trees of the ways that a function may take, and the proof that what they end in is what the machine of the model does; conditions: as each theorem names them. -/
import Derived.Test.YtmcipmgcmbbbcaaGreatDoorT00
import Derived.Test.YtmcipmgcmbbbcaaGreatDoorW08
/-! What a tree says is what the evaluator does: code and functions. -/
namespace Go.Sw
open Go

theorem Le.guard {α : Type} {w : String} {b : Bool} {x y : Res α} (h : Le x y) : Le (guardR w b x) (guardR w b y) := by cases b <;> first | trivial | exact h

def LoopLe (L L' : LoopOp) : Prop := ∀ b b' : St → Res (Ex × St), (∀ st, Le (b st) (b' st)) → ∀ st, Le (L b st) (L' b' st)

theorem iter_le : ∀ {m n : Nat}, m ≤ n → LoopLe (iter m) (iter n)
  | 0, _, _ => fun _ _ _ _ => trivial
  | m + 1, 0, h => absurd h (by omega)
  | m + 1, n + 1, h => fun b b' hb st => by
    unfold iter
    refine Le.bind (hb st) fun p => ?_
    obtain ⟨e, st'⟩ := p
    cases e with
    | normal => exact iter_le (Nat.le_of_succ_le_succ h) b b' hb st'
    | _ => exact Le.refl _

theorem iter_succ {n : Nat} {body : St → Res (Ex × St)} {st : St} : iter (n + 1) body st = (body st).bind fun p => match p with | (e, st') => match e with | .normal => iter n body st' | e => .ok (e, st') := rfl

theorem both_le {r1 r2 q1 q2 : Res (Ex × St)} (h1 : Le r1 q1) (h2 : Le r2 q2) : Le (both r1 r2) (both q1 q2) := by
  unfold both
  split
  · have h1 : q1 = _ := h1
    have h2 : q2 = _ := h2
    subst h1; subst h2
    exact Le.refl _
  · trivial

section
variable {C : Cfg} {call : Call} {L L' : LoopOp} {f : Nat} {h : Hint}

theorem code_le (hL : LoopLe L L') : ∀ (c : Code) (blk : Nat) (st : St), Le (evCode C call L f h blk c st) (evCode C call L' f h blk c st)
  | .skip, _, _ => Le.refl _
  | .label _, _, _ => Le.refl _
  | .region _ _ _, _, _ => Le.refl _
  | .seq a b, blk, st => by
    unfold evCode
    refine Le.bind (code_le hL a blk st) fun p => ?_
    obtain ⟨e, st'⟩ := p
    cases e with
    | normal => exact code_le hL b blk st'
    | _ => exact Le.refl _
  | .cond c x y, blk, st => by
    unfold evCode
    split
    · split
      · exact code_le hL x blk st
      · exact code_le hL y blk st
    · exact both_le (code_le hL x blk st) (code_le hL y blk st)
    · exact Le.refl _
  | .block id c, blk, st => by
    unfold evCode
    refine Le.bind (code_le hL c id st) fun p => ?_
    exact Le.refl _
  | .loop c, blk, st => by
    unfold evCode
    exact hL _ _ (fun st => code_le hL c blk _) st
  | .exit _, _, _ => Le.refl _
  | .scope c, blk, st => by
    unfold evCode
    exact code_le hL c blk st
  | .ret, _, _ => Le.refl _
  | .rangeFunc _ _ _ _, _, _ => Le.refl _
  | .goto _, _, _ => Le.refl _
  | .refuse _, _, _ => Le.refl _

theorem deferred_le (hL : LoopLe L L') {pn : Option AV} {g : Nat} {args : List AV} {H : Heap} : Le (evDeferred C call L pn g args H) (evDeferred C call L' pn g args H) := by
  unfold evDeferred
  split
  · exact Le.refl _
  · refine Le.guard ?_
    split
    · split
      · exact Le.bind (code_le hL _ _ _) fun _ => Le.refl _
      · exact Le.bind (code_le hL _ _ _) fun _ => Le.refl _
    · exact Le.bind (code_le hL _ _ _) fun _ => Le.refl _
    · exact Le.refl _

theorem leave_le (hL : LoopLe L L') : ∀ (l : List Dfr) (pn : Option AV) (H : Heap), Le (evLeave C call L l pn H) (evLeave C call L' l pn H)
  | [], _, _ => Le.refl _
  | .mark :: l, pn, H => leave_le hL l pn H
  | .clo g cap :: l, pn, H => by
    unfold evLeave
    exact Le.bind (deferred_le hL) fun p => leave_le hL l _ _

theorem funEnd_le (hL : LoopLe L L') {rs : List ResultVar} {st : St} {pn : Option AV} : Le (funEnd C call L rs st pn) (funEnd C call L' rs st pn) := by
  unfold funEnd
  exact Le.bind (leave_le hL _ _ _) fun _ => Le.refl _
end

/-! Loops' beginnings. -/
section
variable {γ : Type}

/-- what is done from a loop's beginning on. -/
noncomputable def semAt (C : Cfg) (call : Call) (L L1 : LoopOp) (f : Nat) (h : Hint) (b : Nat) (blk : Nat) : Code → (Ex × St → Res γ) → St → Res γ
  | .seq x y, K, st => match hasLoop b blk x with
    | true => semAt C call L L1 f h b blk x (fun p => match p.1 with
      | .normal => (evCode C call L f h blk y p.2).bind K
      | e => K (e, p.2)) st
    | false => semAt C call L L1 f h b blk y K st
  | .cond _ x y, K, st => match hasLoop b blk x with
    | true => semAt C call L L1 f h b blk x K st
    | false => semAt C call L L1 f h b blk y K st
  | .block id c, K, st => semAt C call L L1 f h b id c (fun p => match p.1 with
    | .exit i => (match Nat.beq i id with | true => K (.normal, p.2) | false => K (.exit i, p.2))
    | e => K (e, p.2)) st
  | .loop c, K, st => match Nat.beq blk b with
    | true => (L1 (fun st => evCode C call L f h blk c (keepAt h blk st)) st).bind K
    | false => semAt C call L L1 f h b blk c (fun p => match p.1 with
      | .normal => (L (fun st => evCode C call L f h blk c (keepAt h blk st)) p.2).bind K
      | e => K (e, p.2)) st
  | .scope c, K, st => semAt C call L L1 f h b blk c K st
  | _, _, _ => .bad ""

variable {C : Cfg} {call : Call} {L L' L1 L1' : LoopOp} {f : Nat} {h : Hint} {b : Nat}

theorem sem_le (hL : LoopLe L L') (hL1 : LoopLe L1 L1') : ∀ (c : Code) (blk : Nat) (K K' : Ex × St → Res γ) (st : St), (∀ p, Le (K p) (K' p)) → Le (semAt C call L L1 f h b blk c K st) (semAt C call L' L1' f h b blk c K' st)
  | .seq x y, blk, K, K', st, hK => by
    unfold semAt
    split
    · refine sem_le hL hL1 x blk _ _ st fun p => ?_
      obtain ⟨e, s⟩ := p
      cases e with
      | normal => exact Le.bind (code_le hL y blk s) hK
      | _ => exact hK _
    · exact sem_le hL hL1 y blk _ _ st hK
  | .cond _ x y, blk, K, K', st, hK => by
    unfold semAt
    split
    · exact sem_le hL hL1 x blk _ _ st hK
    · exact sem_le hL hL1 y blk _ _ st hK
  | .block id c, blk, K, K', st, hK => by
    unfold semAt
    refine sem_le hL hL1 c id _ _ st fun p => ?_
    obtain ⟨e, s⟩ := p
    cases e with
    | exit i => cases hi : Nat.beq i id <;> simp only [hi] <;> exact hK _
    | _ => exact hK _
  | .loop c, blk, K, K', st, hK => by
    unfold semAt
    split
    · exact Le.bind (hL1 _ _ (fun st => code_le hL c blk _) st) hK
    · refine sem_le hL hL1 c blk _ _ st fun p => ?_
      obtain ⟨e, s⟩ := p
      cases e with
      | normal => exact Le.bind (hL _ _ (fun st => code_le hL c blk _) s) hK
      | _ => exact hK _
  | .scope c, blk, K, K', st, hK => by
    unfold semAt
    exact sem_le hL hL1 c blk _ _ st hK
  | .skip, _, _, _, _, _ => trivial
  | .label _, _, _, _, _, _ => trivial
  | .region _ _ _, _, _, _, _, _ => trivial
  | .exit _, _, _, _, _, _ => trivial
  | .ret, _, _, _, _, _ => trivial
  | .rangeFunc _ _ _ _, _, _, _, _, _ => trivial
  | .goto _, _, _, _, _, _ => trivial
  | .refuse _, _, _, _, _, _ => trivial

theorem memN_iff' {n : Nat} : ∀ {l : List Nat}, memN n l = true ↔ n ∈ l
  | [] => by simp [memN]
  | m :: l => by
    unfold memN
    cases hb : Nat.beq n m with
    | true => simp [Nat.eq_of_beq_eq_true hb]
    | false =>
      have : n ≠ m := fun e => by subst e; rw [Nat.beq_refl] at hb; cases hb
      simp [this, memN_iff' (l := l)]

theorem has_iff : ∀ (c : Code) (blk : Nat), hasLoop b blk c = true ↔ b ∈ loopsIn blk c
  | .seq x y, blk => by simp [hasLoop, loopsIn, has_iff x blk, has_iff y blk]
  | .cond _ x y, blk => by simp [hasLoop, loopsIn, has_iff x blk, has_iff y blk]
  | .block id c, blk => by simp [hasLoop, loopsIn, has_iff c id]
  | .loop c, blk => by
    have : (blk = b) ↔ (b = blk) := ⟨Eq.symm, Eq.symm⟩
    simp [hasLoop, loopsIn, has_iff c blk, this]
  | .scope c, blk => by simp [hasLoop, loopsIn, has_iff c blk]
  | .skip, _ => by simp [hasLoop, loopsIn]
  | .label _, _ => by simp [hasLoop, loopsIn]
  | .region _ _ _, _ => by simp [hasLoop, loopsIn]
  | .exit _, _ => by simp [hasLoop, loopsIn]
  | .ret, _ => by simp [hasLoop, loopsIn]
  | .rangeFunc _ _ _ _, _ => by simp [hasLoop, loopsIn]
  | .goto _, _ => by simp [hasLoop, loopsIn]
  | .refuse _, _ => by simp [hasLoop, loopsIn]

theorem nodupB_ok : ∀ {l : List Nat}, nodupB l = true → l.Nodup
  | [], _ => List.nodup_nil
  | x :: l, hn => by
    unfold nodupB at hn
    simp only [Bool.and_eq_true, Bool.not_eq_true'] at hn
    refine List.nodup_cons.mpr ⟨fun hm => ?_, nodupB_ok hn.2⟩
    rw [memN_iff'.mpr hm] at hn
    cases hn.1

/-! What is kept is kept again. -/
theorem assoc_keepL {ks : List Nat} {s : Nat} : ∀ (l : List (Nat × List Slot)), (assoc s (keepL ks l)).isSome = true → (assoc s l).isSome = true ∧ memN s ks = true
  | [], hs => by simp [keepL, assoc] at hs
  | (k, c) :: l, hs => by
    unfold keepL at hs
    cases hm : memN k ks with
    | true =>
      rw [hm] at hs
      simp only [assoc] at hs ⊢
      cases hb : Nat.beq k s with
      | true => rw [← Nat.eq_of_beq_eq_true hb]; exact ⟨rfl, hm⟩
      | false => rw [hb] at hs; exact assoc_keepL l hs
    | false =>
      rw [hm] at hs
      have := assoc_keepL l hs
      simp only [assoc]
      cases hb : Nat.beq k s with
      | true => exact ⟨rfl, this.2⟩
      | false => exact this

theorem keepL_idem {ks : List Nat} : ∀ (l : List (Nat × List Slot)), keepL ks (keepL ks l) = keepL ks l
  | [] => rfl
  | (k, c) :: l => by
    cases hm : memN k ks with
    | true => simp only [keepL, hm, keepL_idem l]
    | false => simp only [keepL, hm, keepL_idem l]

theorem fixLoc_idem {M : List (Nat × List Slot)} (s : Slot) : fixLoc M (fixLoc M s) = fixLoc M s := by
  cases s with
  | loc b o =>
    unfold fixLoc
    cases ha : assoc b M with
    | none => simp only [ha]
    | some x => simp only [ha]
  | _ => rfl

theorem keepT_get' {ts : List (Nat × Slot)} {M : List (Nat × List Slot)} : ∀ (ks : List Nat) (t : Nat), t ∈ ks → getT (keepT ts M ks) t = fixLoc M (getT ts t)
  | k :: ks, t, ht => by
    unfold keepT
    rw [getT_cons]
    by_cases hk : k = t
    · subst hk; simp
    · rw [if_neg hk]
      rcases List.mem_cons.mp ht with e | e
      · exact absurd e.symm hk
      · exact keepT_get' ks t e

theorem keepT_idem {ts : List (Nat × Slot)} {M : List (Nat × List Slot)} {ks0 : List Nat} : ∀ (ks : List Nat), (∀ t ∈ ks, t ∈ ks0) → keepT (keepT ts M ks0) M ks = keepT ts M ks
  | [], _ => rfl
  | k :: ks, hs => by
    unfold keepT
    rw [keepT_get' ks0 k (hs k (by simp)), fixLoc_idem, keepT_idem ks (fun t ht => hs t (by simp [ht]))]

theorem keepAt_idem (blk : Nat) (st : St) : keepAt h blk (keepAt h blk st) = keepAt h blk st := by
  unfold keepAt
  cases hk : keepOf blk h.keep with
  | none => rfl
  | some ks =>
    simp only
    rw [keepL_idem, keepT_idem ks (fun _ h => h)]

theorem iter_keep {blk : Nat} {c : Code} {n : Nat} (st : St) : iter n (fun st => evCode C call L f h blk c (keepAt h blk st)) (keepAt h blk st) = iter n (fun st => evCode C call L f h blk c (keepAt h blk st)) st := by
  cases n with
  | zero => rfl
  | succ n => unfold iter; simp only [keepAt_idem]

/-! Trees of code. -/

def outR (hs : Nat → St → Res γ) : Out γ → Res γ
  | .done b => .ok b
  | .head b st => hs b st
def SemT (hs : Nat → St → Res γ) (t : Tr (Out γ)) : Res γ := t.run.bind (outR hs)

theorem res_assoc {α β δ : Type} (r : Res α) (g : α → Res β) (k : β → Res δ) : (r.bind g).bind k = r.bind fun x => (g x).bind k := by cases r <;> rfl

theorem SemT_bind {α : Type} {hs : Nat → St → Res γ} (t : Tr α) (k : α → Tr (Out γ)) : SemT hs (t.bind k) = t.run.bind fun x => SemT hs (k x) := by
  unfold SemT
  rw [run_bind, res_assoc]

theorem SemT_br {hs : Nat → St → Res γ} {b : Bool} {t e : Tr (Out γ)} {r : Res γ} (h1 : b = true → Le (SemT hs t) r) (h2 : b = false → Le (SemT hs e) r) : Le (SemT hs (.br b t e)) r := by
  cases b
  · exact h2 rfl
  · exact h1 rfl

theorem SemT_cond {hs : Nat → St → Res γ} {c : Operand} {st : St} {x y : St → Tr (Out γ)} {X Y : Res (Ex × St)} {K : Ex × St → Res γ} (hx : Le (SemT hs (x st)) (X.bind K)) (hy : Le (SemT hs (y st)) (Y.bind K)) :
    Le (SemT hs (tCond c st x y)) ((match opd st c with | .v (.bool b) => (match b with | true => X | false => Y) | .coin => both X Y | _ => .bad "cond").bind K) := by
  unfold tCond
  split
  · rename_i t
    have ho : opd st (.tmp t) = getT st.tmps t := rfl
    split
    · rename_i b hb
      rw [ho, hb]
      refine SemT_br (fun e => ?_) (fun e => ?_)
      · subst e; rw [subSt_eq hb]; exact hx
      · subst e; rw [subSt_eq hb]; exact hy
    · trivial
  · split
    · rename_i b hb
      rw [hb]
      cases b
      · exact hy
      · exact hx
    · trivial

section
variable {N : Nat} {tc : TCall}

theorem code_sem (hc : TCS tc call) {hs : Nat → St → Res γ} : ∀ (c : Code) (blk : Nat) (k : Ex → St → Tr (Out γ)) (K : Ex × St → Res γ) (st : St), (loopsIn blk c).Nodup →
    (∀ e st, Le (SemT hs (k e st)) (K (e, st))) → (∀ b st, b ∈ loopsIn blk c → Le (hs b st) (semAt C call (iter N) (iter N) f h b blk c K st)) →
    Le (SemT hs (tCode C tc f h blk c k st)) ((evCode C call (iter N) f h blk c st).bind K)
  | .skip, _, k, K, st, _, hk, _ => hk _ _
  | .label _, _, k, K, st, _, hk, _ => hk _ _
  | .exit _, _, k, K, st, _, hk, _ => hk _ _
  | .ret, _, k, K, st, _, hk, _ => hk _ _
  | .rangeFunc _ _ _ _, _, k, K, st, _, hk, _ => trivial
  | .goto _, _, k, K, st, _, hk, _ => trivial
  | .refuse _, _, k, K, st, _, hk, _ => trivial
  | .scope c, blk, k, K, st, hn, hk, hx => by
    unfold tCode evCode
    exact code_sem hc c blk k K st hn hk (fun b st hb => hx b st hb)
  | .region id ops dr, blk, k, K, st, hn, hk, hx => by
    unfold tCode evCode
    rw [SemT_bind]
    refine Le.bind (TS.region ?_) fun p => hk p.1 p.2
    cases dr with
    | true => exact TS.draw hc
    | false => exact TS.opers hc _ _
  | .seq x y, blk, k, K, st, hn, hk, hx => by
    unfold tCode evCode
    rw [res_assoc]
    have hn' : (loopsIn blk x ++ loopsIn blk y).Nodup := hn
    obtain ⟨n1, n2, n3⟩ := List.nodup_append.mp hn'
    refine Le.trans (code_sem hc x blk _ (fun p => match p.1 with | .normal => (evCode C call (iter N) f h blk y p.2).bind K | e => K (e, p.2)) st n1 (fun e s => ?_) (fun b s hb => ?_)) ?_
    · cases e with
      | normal =>
        refine code_sem hc y blk k K s n2 hk (fun b s hb => ?_)
        have := hx b s (List.mem_append.mpr (.inr hb))
        unfold semAt at this
        have hnx : hasLoop b blk x = false := by
          cases hq : hasLoop b blk x with
          | false => rfl
          | true => exact absurd rfl (n3 b ((has_iff x blk).mp hq) b hb)
        rw [hnx] at this
        exact this
      | _ => exact hk _ _
    · have := hx b s (List.mem_append.mpr (.inl hb))
      unfold semAt at this
      rw [(has_iff x blk).mpr hb] at this
      exact this
    · refine Le.bind (Le.refl _) fun p => ?_
      obtain ⟨e, s⟩ := p
      cases e <;> exact Le.refl _
  | .cond c x y, blk, k, K, st, hn, hk, hx => by
    unfold tCode evCode
    have hn' : (loopsIn blk x ++ loopsIn blk y).Nodup := hn
    obtain ⟨n1, n2, n3⟩ := List.nodup_append.mp hn'
    refine SemT_cond (code_sem hc x blk k K st n1 hk fun b s hb => ?_) (code_sem hc y blk k K st n2 hk fun b s hb => ?_)
    · have := hx b s (List.mem_append.mpr (.inl hb))
      unfold semAt at this
      rw [(has_iff x blk).mpr hb] at this
      exact this
    · have := hx b s (List.mem_append.mpr (.inr hb))
      unfold semAt at this
      have hnx : hasLoop b blk x = false := by
        cases hq : hasLoop b blk x with
        | false => rfl
        | true => exact absurd rfl (n3 b ((has_iff x blk).mp hq) b hb)
      rw [hnx] at this
      exact this
  | .block id c, blk, k, K, st, hn, hk, hx => by
    unfold tCode evCode
    rw [res_assoc]
    refine Le.trans (code_sem hc c id _ (fun p => match p.1 with | .exit i => (match Nat.beq i id with | true => K (.normal, p.2) | false => K (.exit i, p.2)) | e => K (e, p.2)) st hn (fun e s => ?_) (fun b s hb => ?_)) ?_
    · cases e with
      | exit i => cases hi : Nat.beq i id <;> simp only [hi] <;> exact hk _ _
      | _ => exact hk _ _
    · exact hx b s hb
    · refine Le.bind (Le.refl _) fun p => ?_
      obtain ⟨e, s⟩ := p
      cases e with
      | exit i => cases hi : Nat.beq i id <;> simp only [hi] <;> exact Le.refl _
      | _ => exact Le.refl _
  | .loop c, blk, k, K, st, hn, hk, hx => by
    unfold tCode evCode
    have := hx blk (keepAt h blk st) (by simp [loopsIn])
    unfold semAt at this
    rw [Nat.beq_refl] at this
    simp only at this
    rw [iter_keep] at this
    exact this

theorem at_sem (hc : TCS tc call) {hs : Nat → St → Res γ} : ∀ (c : Code) (blk : Nat) (k : Ex → St → Tr (Out γ)) (K : Ex × St → Res γ) (st : St), (loopsIn blk c).Nodup → b ∈ loopsIn blk c →
    (∀ e st, Le (SemT hs (k e st)) (K (e, st))) → (∀ b st, b ∈ loopsIn blk c → Le (hs b st) (semAt C call (iter N) (iter N) f h b blk c K st)) →
    Le (SemT hs (tAt C tc f h b blk c k st)) (semAt C call (iter N) (iter (N + 1)) f h b blk c K st)
  | .skip, _, k, K, st, _, hb, _, _ => by simp [loopsIn] at hb
  | .label _, _, k, K, st, _, hb, _, _ => by simp [loopsIn] at hb
  | .exit _, _, k, K, st, _, hb, _, _ => by simp [loopsIn] at hb
  | .ret, _, k, K, st, _, hb, _, _ => by simp [loopsIn] at hb
  | .rangeFunc _ _ _ _, _, k, K, st, _, hb, _, _ => by simp [loopsIn] at hb
  | .goto _, _, k, K, st, _, hb, _, _ => by simp [loopsIn] at hb
  | .refuse _, _, k, K, st, _, hb, _, _ => by simp [loopsIn] at hb
  | .region _ _ _, _, k, K, st, _, hb, _, _ => by simp [loopsIn] at hb
  | .scope c, blk, k, K, st, hn, hb, hk, hx => by
    unfold tAt semAt
    exact at_sem hc c blk k K st hn hb hk (fun b st hb => hx b st hb)
  | .seq x y, blk, k, K, st, hn, hb, hk, hx => by
    unfold tAt semAt
    have hn' : (loopsIn blk x ++ loopsIn blk y).Nodup := hn
    obtain ⟨n1, n2, n3⟩ := List.nodup_append.mp hn'
    have hy : ∀ b s, b ∈ loopsIn blk y → Le (hs b s) (semAt C call (iter N) (iter N) f h b blk y K s) := by
      intro b s hb
      have := hx b s (List.mem_append.mpr (.inr hb))
      unfold semAt at this
      have hnx : hasLoop b blk x = false := by
        cases hq : hasLoop b blk x with
        | false => rfl
        | true => exact absurd rfl (n3 b ((has_iff x blk).mp hq) b hb)
      rw [hnx] at this
      exact this
    cases hq : hasLoop b blk x with
    | true =>
      refine at_sem hc x blk _ _ st n1 ((has_iff x blk).mp hq) (fun e s => ?_) (fun b s hb => ?_)
      · cases e with
        | normal => exact code_sem hc y blk k K s n2 hk hy
        | _ => exact hk _ _
      · have := hx b s (List.mem_append.mpr (.inl hb))
        unfold semAt at this
        rw [(has_iff x blk).mpr hb] at this
        exact this
    | false =>
      have hb' : b ∈ loopsIn blk y := by
        rcases List.mem_append.mp (show b ∈ loopsIn blk x ++ loopsIn blk y from hb) with h1 | h1
        · rw [(has_iff x blk).mpr h1] at hq; cases hq
        · exact h1
      exact at_sem hc y blk k K st n2 hb' hk hy
  | .cond c x y, blk, k, K, st, hn, hb, hk, hx => by
    unfold tAt semAt
    have hn' : (loopsIn blk x ++ loopsIn blk y).Nodup := hn
    obtain ⟨n1, n2, n3⟩ := List.nodup_append.mp hn'
    cases hq : hasLoop b blk x with
    | true =>
      refine at_sem hc x blk _ _ st n1 ((has_iff x blk).mp hq) hk (fun b s hb => ?_)
      have := hx b s (List.mem_append.mpr (.inl hb))
      unfold semAt at this
      rw [(has_iff x blk).mpr hb] at this
      exact this
    | false =>
      have hb' : b ∈ loopsIn blk y := by
        rcases List.mem_append.mp (show b ∈ loopsIn blk x ++ loopsIn blk y from hb) with h1 | h1
        · rw [(has_iff x blk).mpr h1] at hq; cases hq
        · exact h1
      refine at_sem hc y blk k K st n2 hb' hk (fun b s hb => ?_)
      have := hx b s (List.mem_append.mpr (.inr hb))
      unfold semAt at this
      have hnx : hasLoop b blk x = false := by
        cases hq : hasLoop b blk x with
        | false => rfl
        | true => exact absurd rfl (n3 b ((has_iff x blk).mp hq) b hb)
      rw [hnx] at this
      exact this
  | .block id c, blk, k, K, st, hn, hb, hk, hx => by
    unfold tAt semAt
    refine at_sem hc c id _ _ st hn hb (fun e s => ?_) (fun b s hb => hx b s hb)
    cases e with
    | exit i => cases hi : Nat.beq i id <;> simp only [hi] <;> exact hk _ _
    | _ => exact hk _ _
  | .loop c, blk, k, K, st, hn, hb, hk, hx => by
    have hn' : (blk :: loopsIn blk c).Nodup := hn
    obtain ⟨n1, n2⟩ := List.nodup_cons.mp hn'
    -- the way on behind a round
    have hkk : ∀ e s, Le (SemT hs ((fun (e : Ex) (st' : St) => (match e with | .normal => .ok (.head blk (keepAt h blk st')) | e => k e st' : Tr (Out γ))) e s))
        ((fun p : Ex × St => match p.1 with | .normal => ((iter N) (fun st => evCode C call (iter N) f h blk c (keepAt h blk st)) p.2).bind K | e => K (e, p.2)) (e, s)) := by
      intro e s
      cases e with
      | normal =>
        have := hx blk (keepAt h blk s) (by simp [loopsIn])
        unfold semAt at this
        rw [Nat.beq_refl] at this
        simp only at this
        rw [iter_keep] at this
        exact this
      | _ => exact hk _ _
    have hxx : ∀ b s, b ∈ loopsIn blk c → Le (hs b s) (semAt C call (iter N) (iter N) f h b blk c (fun p : Ex × St => match p.1 with | .normal => ((iter N) (fun st => evCode C call (iter N) f h blk c (keepAt h blk st)) p.2).bind K | e => K (e, p.2)) s) := by
      intro b s hb
      have := hx b s (List.mem_cons.mpr (.inr hb))
      unfold semAt at this
      have hne : Nat.beq blk b = false := by
        cases hq : Nat.beq blk b with
        | false => rfl
        | true => have e := Nat.eq_of_beq_eq_true hq; exact absurd (e ▸ hb) n1
      rw [hne] at this
      exact this
    unfold tAt semAt
    cases hq : Nat.beq blk b with
    | true =>
      simp only
      refine Le.trans (code_sem hc c blk _ _ (keepAt h blk st) n2 hkk hxx) ?_
      rw [iter_succ, res_assoc]
      refine Le.bind (Le.refl _) fun p => ?_
      obtain ⟨e, s⟩ := p
      cases e <;> exact Le.refl _
    | false =>
      have hb' : b ∈ loopsIn blk c := by
        rcases List.mem_cons.mp (show b ∈ blk :: loopsIn blk c from hb) with h1 | h1
        · subst h1; rw [Nat.beq_refl] at hq; cases hq
        · exact h1
      exact at_sem hc c blk _ _ st n2 hb' hkk hxx

theorem SemT_noHead {t : Tr (Out γ)} : (noHead t).run = SemT (fun _ _ => .bad "") t := by
  unfold noHead SemT
  rw [run_bind]
  cases t.run with
  | ok o => cases o <;> rfl
  | _ => rfl
end
end

section
variable {C : Cfg} {call : Call} {N : Nat} {tc : TCall}

theorem TS.noHead {γ : Type} (hc : TCS tc call) {f : Nat} {h : Hint} {c : Code} {blk : Nat} {k : Ex → St → Tr (Out γ)} {K : Ex × St → Res γ} {st : St} (hn : nodupB (loopsIn blk c) = true) (hk : ∀ e st, Le (SemT (fun _ _ => .bad "") (k e st)) (K (e, st))) :
    TS (Sw.noHead (tCode C tc f h blk c k st)) ((evCode C call (iter N) f h blk c st).bind K) := by
  unfold TS
  rw [SemT_noHead]
  exact code_sem hc c blk k K st (nodupB_ok hn) hk (fun _ _ _ => trivial)

theorem dfr_sem {rc : Bool} (e : Ex) (st : St) : Le (SemT (fun _ _ => .bad "") (dfrOut rc e st)) ((fun p : Ex × St => match p.1, p.2.defs with | .normal, [] => Res.ok (rc, p.2.heap) | .ret, [] => .ok (rc, p.2.heap) | _, _ => .bad "a deferred call's end") (e, st)) := by
  unfold dfrOut
  simp only
  split
  · rename_i h; simp only [h]; exact rfl
  · rename_i h; simp only [h]; exact rfl
  · trivial

theorem TS.deferred (hc : TCS tc call) {pn : Option AV} {f : Nat} {args : List AV} {H : Heap} : TS (tDeferred C tc pn f args H) (evDeferred C call (iter N) pn f args H) := by
  unfold tDeferred evDeferred
  cases C.P.funcs[f]? with
  | none => exact TS.bad
  | some fn =>
    refine TS.guardS ?_
    cases fn.body with
    | none => exact TS.bad
    | some c =>
      cases c with
      | seq a b =>
        cases a with
        | region id ops dr =>
          cases dr with
          | true => exact TS.gs fun hn => TS.noHead hc hn fun e st => dfr_sem e st
          | false =>
            simp only
            cases isRecover ops with
            | some d => exact TS.gs fun hn => TS.noHead hc hn fun e st => dfr_sem e st
            | none => exact TS.gs fun hn => TS.noHead hc hn fun e st => dfr_sem e st
        | _ => exact TS.gs fun hn => TS.noHead hc hn fun e st => dfr_sem e st
      | _ => exact TS.gs fun hn => TS.noHead hc hn fun e st => dfr_sem e st

theorem TS.leave (hc : TCS tc call) : ∀ (l : List Dfr) (pn : Option AV) (H : Heap), TS (tLeave C tc l pn H) (evLeave C call (iter N) l pn H)
  | [], _, _ => rfl
  | .mark :: l, pn, H => TS.leave hc l pn H
  | .clo g cap :: l, pn, H => by
    unfold tLeave evLeave
    exact TS.bind (TS.deferred hc) fun p => TS.leave hc l _ _

theorem TS.funEnd (hc : TCS tc call) {rs : List ResultVar} {st : St} {pn : Option AV} : TS (tFunEnd C tc rs st pn) (Sw.funEnd C call (iter N) rs st pn) := by
  unfold tFunEnd Sw.funEnd
  refine TS.bind (TS.leave hc _ _ _) fun p => ?_
  obtain ⟨pn', H'⟩ := p
  cases pn' with
  | some v => exact rfl
  | none => exact TS.bind (TS.lift _) fun q => TS.guardS rfl

/-- a frame's end. -/
noncomputable def endR (C : Cfg) (call : Call) (L : LoopOp) (rs : List ResultVar) (p : Ex × St) : Res (Slot × Heap) := match p.1 with
  | .exit _ => .bad "exit"
  | .panic v => Sw.funEnd C call L rs p.2 (some v)
  | _ => Sw.funEnd C call L rs p.2 none

theorem end_sem (hc : TCS tc call) {hs : Nat → St → Res (Slot × Heap)} {rs : List ResultVar} (e : Ex) (st : St) : Le (SemT hs (tEnd C tc rs e st)) (endR C call (iter N) rs (e, st)) := by
  have key : ∀ pn, Le (SemT hs ((tFunEnd C tc rs st pn).bind fun r => .ok (.done r))) (Sw.funEnd C call (iter N) rs st pn) := by
    intro pn
    rw [SemT_bind]
    have := TS.funEnd (N := N) (C := C) hc (rs := rs) (st := st) (pn := pn)
    unfold TS at this
    cases hr : (tFunEnd C tc rs st pn).run with
    | ok r => rw [hr] at this; exact this
    | panic v H => rw [hr] at this; exact this
    | bad w => trivial
    | oof => trivial
  unfold tEnd endR
  cases e with
  | exit _ => trivial
  | _ => exact key _

theorem endR_le {L L' : LoopOp} (hL : LoopLe L L') {rs : List ResultVar} (p : Ex × St) : Le (endR C call L rs p) (endR C call L' rs p) := by
  obtain ⟨e, st⟩ := p
  unfold endR
  cases e with
  | exit _ => trivial
  | _ => exact funEnd_le hL

/-- what is reached is what the function does. -/
theorem reach_sem (hc : TCS tc call) {f : Nat} {fn : Func} {c : Code} (hf : C.P.funcs[f]? = some fn) (hb : fn.body = some c) {t : Tr (Out (Slot × Heap))} {r : Res (Slot × Heap)} (hr : Rea C tc f t r) :
    ∃ N0, ∀ N, N0 ≤ N → Le r (SemT (fun b st => semAt C call (iter N) (iter N) f (C.hint f) b 0 c (endR C call (iter N) fn.results.toList) st) t) := by
  induction hr with
  | ok r => exact ⟨0, fun N _ => rfl⟩
  | panic v H => exact ⟨0, fun N _ => rfl⟩
  | brT b t e r h1 _ ih => obtain ⟨N0, ih⟩ := ih; exact ⟨N0, fun N hN => by subst h1; exact ih N hN⟩
  | brF b t e r h1 _ ih => obtain ⟨N0, ih⟩ := ih; exact ⟨N0, fun N hN => by subst h1; exact ih N hN⟩
  | head b st r _ ih =>
    obtain ⟨N0, ih⟩ := ih
    refine ⟨N0 + 1, fun N hN => ?_⟩
    obtain ⟨M, rfl⟩ : ∃ M, N = M + 1 := ⟨N - 1, by omega⟩
    have h1 := ih M (by omega)
    refine Le.trans h1 ?_
    unfold tHd
    rw [hf]
    simp only [hb]
    cases hn : nodupB (loopsIn 0 c) with
    | false => trivial
    | true =>
      cases hl : hasLoop b 0 c with
      | false => trivial
      | true =>
        have := at_sem (C := C) (call := call) (N := M) (f := f) (h := C.hint f) (b := b) hc (hs := fun b st => semAt C call (iter M) (iter M) f (C.hint f) b 0 c (endR C call (iter M) fn.results.toList) st) c 0
          (tEnd C tc fn.results.toList) (endR C call (iter M) fn.results.toList) st (nodupB_ok hn) ((has_iff c 0).mp hl) (fun e s => end_sem hc e s) (fun b s _ => Le.refl _)
        refine Le.trans this ?_
        exact sem_le (iter_le (Nat.le_succ M)) (iter_le (Nat.le_refl _)) c 0 _ _ st (endR_le (iter_le (Nat.le_succ M)))

theorem reach_fun (hc : TCS tc call) {f : Nat} {xs : List AV} {H : Heap} {r : Res (Slot × Heap)} (hr : Rea C tc f (tFun C tc f xs H) r) : ∃ N, Le r (evFun C call (iter N) f xs H) := by
  cases hf : C.P.funcs[f]? with
  | none => unfold tFun at hr; rw [hf] at hr; cases hr
  | some fn =>
    cases hb : fn.body with
    | none => unfold tFun at hr; rw [hf] at hr; simp only [hb] at hr; cases hr
    | some c =>
      obtain ⟨N, hN⟩ := reach_sem (call := call) hc hf hb hr
      refine ⟨N, Le.trans (hN N (Nat.le_refl N)) ?_⟩
      unfold tFun evFun
      rw [hf]
      simp only [hb]
      cases hn : nodupB (loopsIn 0 c) with
      | false => trivial
      | true =>
        refine Le.trans (code_sem hc c 0 (tEnd C tc fn.results.toList) (endR C call (iter N) fn.results.toList) (startSt xs H) (nodupB_ok hn) (fun e s => end_sem hc e s) (fun b s _ => Le.refl _)) ?_
        refine Le.bind (Le.refl _) fun p => ?_
        obtain ⟨e, s⟩ := p
        cases e <;> exact Le.refl _

theorem dfrEnd_eq {rc : Bool} {r : Res (Ex × St)} : dfrEnd rc r = r.bind fun p : Ex × St => match p.1, p.2.defs with | .normal, [] => Res.ok (rc, p.2.heap) | .ret, [] => .ok (rc, p.2.heap) | _, _ => .bad "a deferred call's end" := rfl
end
end Go.Sw
/-! Contracts: what a tree reaches is what a call does. -/
namespace Go.Sw
open Go

abbrev FSpec := List AV → Heap → Tr (Slot × Heap)
abbrev Specs := Nat → Option FSpec

/-- calls by contracts. -/
def tcOf (T : Specs) : TCall := fun f xs H => match f with
  | .fn g => (match T g with | some F => F xs H | none => .bad)
  | .yld _ => .bad

def cfgT (C : Cfg) (T : Specs) : Cfg := { C with orc := fun g => match T g with | some F => some (fun _ xs H => (F xs H).run) | none => none, tbl := fun _ _ => none }

def SpecOK (P : Program) (f : Nat) (F : FSpec) : Prop := OrcOK P f (fun _ xs H => (F xs H).run)
def TOK (P : Program) (T : Specs) : Prop := ∀ g F, T g = some F → SpecOK P g F

theorem TOK.cfg {C : Cfg} {T : Specs} (hP : ProgOK C.P) (hT : TOK C.P T) : CfgOK (cfgT C T) := by
  refine ⟨hP, fun g F hF => ?_, fun _ _ _ h => by cases h⟩
  unfold cfgT at hF
  simp only at hF
  split at hF
  · rename_i F' hF'
    cases hF
    exact hT g F' hF'
  · cases hF

theorem tcOf_ok (C : Cfg) (T : Specs) : TCS (tcOf T) (ev (cfgT C T) 1) := by
  intro f xs H
  cases f with
  | yld l => exact TS.bad
  | fn g =>
    unfold tcOf
    simp only
    split
    · rename_i F hF
      have : ev (cfgT C T) 1 (.fn g) xs H = (F xs H).run := by
        unfold ev evStep cfgT
        simp only [hF]
      unfold TS
      rw [this]
      exact Le.refl _
    · exact TS.bad

section
variable {C : Cfg} {tc : TCall} {f : Nat}

theorem reach_br {b : Bool} {t e : Tr (Out (Slot × Heap))} {r : Res (Slot × Heap)} : Rea C tc f (.br b t e) r ↔ (if b = true then Rea C tc f t r else Rea C tc f e r) := by
  constructor
  · intro h
    cases h with
    | brT _ _ _ _ h1 h2 => rw [if_pos h1]; exact h2
    | brF _ _ _ _ h1 h2 => rw [if_neg (by rw [h1]; decide)]; exact h2
  · intro h
    cases b with
    | true => exact .brT _ _ _ _ rfl h
    | false => exact .brF _ _ _ _ rfl h
theorem reach_ok {x : Slot × Heap} {r : Res (Slot × Heap)} : Rea C tc f (.ok (.done x)) r ↔ r = .ok x := by
  constructor
  · intro h; cases h; rfl
  · intro h; subst h; exact .ok _
theorem reach_panic {v : AV} {H : Heap} {r : Res (Slot × Heap)} : Rea C tc f (.panic v H) r ↔ r = .panic v H := by
  constructor
  · intro h; cases h; rfl
  · intro h; subst h; exact .panic _ _
theorem reach_bad {r : Res (Slot × Heap)} : Rea C tc f .bad r ↔ False := ⟨fun h => (by cases h), False.elim⟩
theorem reach_head {b : Nat} {st : St} {r : Res (Slot × Heap)} : Rea C tc f (.ok (.head b st)) r ↔ Rea C tc f (tHd C tc f b st) r := by
  constructor
  · intro h; cases h; assumption
  · intro h; exact .head _ _ _ h
theorem reach_gd {b : Bool} {t : Tr (Out (Slot × Heap))} {r : Res (Slot × Heap)} : Rea C tc f (gd b t) r ↔ (b = true ∧ Rea C tc f t r) := by
  unfold gd
  rw [reach_br, reach_bad]
  cases b <;> simp
end

/-- one call, by what its tree reaches. -/
theorem call_of {C : Cfg} {T : Specs} (hP : ProgOK C.P) (hT : TOK C.P T) {f : Nat} {xs : List AV} {H : Heap} {r : Res (Slot × Heap)} (hr : Rea C (tcOf T) f (tFun C (tcOf T) f xs H) r)
    {w : World} {g : Gh} {ow : Ow} {args : Array Value} (hv : VRs g xs args.toList) (hh : HR w g ow H) (gc : GCons w g) (bd : BD w ow) (gv : GV g) {R : Ending → World → Prop} (hR : ResPost w g ow r = some R) :
    Enters C.P f ∧ CallsIn fw 0 C.P f args w R := by
  obtain ⟨N, hN⟩ := reach_fun (call := ev (cfgT C T) 1) (tcOf_ok C T) hr
  have hC : CallOK C.P (ev (cfgT C T) 1) := ev_ok (TOK.cfg hP hT) 1
  have : evFun C (ev (cfgT C T) 1) (iter N) f xs H = r := by
    cases r with
    | ok x => exact hN
    | panic v H => exact hN
    | bad w => cases hR
    | oof => cases hR
  exact fun_ok hP hC hv hh gc bd gv (by rw [this]; exact hR)

/-- the contracts of a group whose calls among themselves become less. -/
def Tlt (T G : Specs) (μ : Nat → List AV → Nat) (n : Nat) : Specs := fun g => match G g with
  | some F => some fun ys K => gd (decide (μ g ys < n)) (F ys K)
  | none => T g

theorem spec_rec {C : Cfg} {T : Specs} (hT : TOK C.P T) (G : Specs) (μ : Nat → List AV → Nat)
    (hstep : ∀ f F, G f = some F → ∀ xs H r, (F xs H).run = r → (∀ w, r ≠ .bad w) → r ≠ .oof → TOK C.P (Tlt T G μ (μ f xs)) →
      ∀ w g ow (args : Array Value), VRs g xs args.toList → HR w g ow H → GCons w g → BD w ow → GV g → ∀ R, ResPost w g ow r = some R → Enters C.P f ∧ CallsIn fw 0 C.P f args w R) :
    ∀ f F, G f = some F → SpecOK C.P f F := by
  have key : ∀ n, TOK C.P (Tlt T G μ n) := by
    intro n
    induction n using Nat.strongRecOn with
    | ind n ih =>
      intro g F hF
      unfold Tlt at hF
      split at hF
      · rename_i F0 hF0
        cases hF
        intro call hcall xs H w gg ow args hv hh gc bd gv R hR
        have hR : ResPost w gg ow (gd (decide (μ g xs < n)) (F0 xs H)).run = some R := hR
        cases hd : decide (μ g xs < n) with
        | false => unfold gd at hR; rw [hd] at hR; cases hR
        | true =>
          unfold gd at hR
          rw [hd] at hR
          have hlt : μ g xs < n := by simpa using hd
          have hR : ResPost w gg ow (F0 xs H).run = some R := hR
          refine hstep g F0 hF0 xs H _ rfl (fun w hw => ?_) (fun hw => ?_) (ih _ hlt) w gg ow args hv hh gc bd gv R hR
          · rw [hw] at hR; cases hR
          · rw [hw] at hR; cases hR
      · exact hT g F hF
  intro f F hF call hcall xs H w g ow args hv hh gc bd gv R hR
  refine hstep f F hF xs H _ rfl (fun w hw => ?_) (fun hw => ?_) (key _) w g ow args hv hh gc bd gv R hR
  · simp only [hw] at hR; cases hR
  · simp only [hw] at hR; cases hR

/-! Functions of values alone. -/

abbrev PSpec := List AV → Tr Slot
/-- a contract of values alone: the heap is as it was. -/
noncomputable def valF (S : PSpec) : FSpec := fun xs H => (S xs).mapP (fun r => .ok (r, H)) fun _ _ => .bad
noncomputable def valG (G : Nat → Option PSpec) : Specs := fun g => match G g with | some S => some (valF S) | none => none

theorem valF_run {S : PSpec} {xs : List AV} {H : Heap} : (valF S xs H).run = match (S xs).run with
    | .ok r => .ok (r, H)
    | .panic _ _ => .bad ""
    | .bad _ => .bad ""
    | .oof => .oof := by
  unfold valF
  rw [run_mapP]
  cases (S xs).run <;> rfl

theorem valF_ok {S : PSpec} {xs : List AV} {H : Heap} {x : Res (Slot × Heap)} (h : (valF S xs H).run = x) (h1 : ∀ w, x ≠ .bad w) (h2 : x ≠ .oof) : ∃ r, (S xs).run = .ok r ∧ x = .ok (r, H) := by
  rw [valF_run] at h
  cases hr : (S xs).run with
  | ok r => rw [hr] at h; exact ⟨r, rfl, h.symm⟩
  | panic v K => rw [hr] at h; exact (h1 _ h.symm).elim
  | bad w => rw [hr] at h; exact (h1 _ h.symm).elim
  | oof => rw [hr] at h; exact (h2 h.symm).elim

theorem pureOK_of {C : Cfg} {T : Specs} (hP : ProgOK C.P) (hT : TOK C.P T) {f : Nat} {xs : List AV} {s : Slot} (h1 : noRefs xs = true) (h2 : noRefS s = true) {H' : Heap} (hr : Rea C (tcOf T) f (tFun C (tcOf T) f xs []) (.ok (s, H'))) : PureOK C.P f xs s := by
  refine ⟨h1, h2, fun w g ow args hv hh gc bd gv => ?_⟩
  obtain ⟨q1, q2⟩ := call_of hP hT hr hv hh gc bd gv (R := OkPost w g ow s H') rfl
  exact ⟨q1, CallsIn.mono q2 fun e w' h => ⟨H', h⟩⟩

/-- functions of values alone, which call each other with less. -/
theorem val_rec {C : Cfg} {T : Specs} (hP : ProgOK C.P) (hT : TOK C.P T) (G : Nat → Option PSpec) (μ : Nat → List AV → Nat)
    (hstep : ∀ f S, G f = some S → ∀ xs r, (S xs).run = .ok r → noRefs xs = true ∧ noRefS r = true ∧
      ∃ H', Rea C (tcOf (Tlt T (valG G) μ (μ f xs))) f (tFun C (tcOf (Tlt T (valG G) μ (μ f xs))) f xs []) (.ok (r, H'))) :
    ∀ f S, G f = some S → SpecOK C.P f (valF S) := by
  intro f S hS
  refine spec_rec hT (valG G) μ (fun f F hF xs H r hr h1 h2 hTT w g ow args hv hh gc bd gv R hR => ?_) f (valF S) (by unfold valG; rw [hS])
  unfold valG at hF
  split at hF
  · rename_i S' hS'
    cases hF
    obtain ⟨s, k1, rfl⟩ := valF_ok hr h1 h2
    obtain ⟨k2, k3, H', hreach⟩ := hstep f S' hS' xs s k1
    have hR : some (OkPost w g ow s H) = some R := hR
    cases hR
    exact (pureOK_of hP hTT k2 k3 hreach).lift hv hh gc bd gv
  · cases hF

/-- without calls of its own. -/
theorem val_one {C : Cfg} {T : Specs} (hP : ProgOK C.P) (hT : TOK C.P T) {f : Nat} {S : PSpec}
    (hstep : ∀ xs r, (S xs).run = .ok r → noRefs xs = true ∧ noRefS r = true ∧ ∃ H', Rea C (tcOf T) f (tFun C (tcOf T) f xs []) (.ok (r, H'))) : SpecOK C.P f (valF S) := by
  intro call hcall xs H w g ow args hv hh gc bd gv R hR
  have hR : ResPost w g ow (valF S xs H).run = some R := hR
  obtain ⟨s, k1, k4⟩ := valF_ok (S := S) (xs := xs) (H := H) rfl (fun w hw => by rw [hw] at hR; cases hR) (fun hw => by rw [hw] at hR; cases hR)
  rw [k4] at hR
  obtain ⟨k2, k3, H', hreach⟩ := hstep xs s k1
  have hR : some (OkPost w g ow s H) = some R := hR
  cases hR
  exact (pureOK_of hP hT k2 k3 hreach).lift hv hh gc bd gv

/-- what is known of one call, as a row wants it. -/
theorem pure_at {P : Program} {f : Nat} {S : PSpec} (h : SpecOK P f (valF S)) {xs : List AV} {r : Slot} (hr : (S xs).run = .ok r) (h1 : noRefs xs = true) (h2 : noRefS r = true) : PureOK P f xs r := by
  refine ⟨h1, h2, fun w g ow args hv hh gc bd gv => ?_⟩
  have hx : (valF S xs []).run = .ok (r, []) := by rw [valF_run, hr]
  obtain ⟨q1, q2⟩ := h (fun _ _ _ => .oof) (fun xs H w g ow args _ _ _ _ _ => ⟨(fun f R hR => by cases hR), (fun l B R _ hR => by cases hR)⟩) xs [] w g ow args hv hh gc bd gv (OkPost w g ow r []) (by simp only [hx]; rfl)
  exact ⟨q1, CallsIn.mono q2 fun e w' h => ⟨[], h⟩⟩
end Go.Sw
namespace Go.Sw
open Go
/-- a result as a value, where it is one. -/
def wk (s : Slot) : Slot := match toAV s with | some x => .v x | none => s

theorem SR_wk {w : World} {g : Gh} {sv : Nat → Option Nat} {ow : Ow} {h : Hold} {s : Slot} {v : Value} (e : SR w g sv ow h s v) : SR w g sv ow h (wk s) v := by
  unfold wk
  split
  · rename_i x hx
    exact SR.toAV s v x e hx
  · exact e
theorem noLoc_wk {s : Slot} (h : noLoc s = true) : noLoc (wk s) = true := by
  unfold wk
  split
  · rfl
  · exact h
theorem OkPost.wk {w : World} {g : Gh} {ow : Ow} {r : Slot} {H' : Heap} {e : Ending} {w' : World} (h : OkPost w g ow r H' e w') : OkPost w g ow (Sw.wk r) H' e w' := by
  cases e with
  | returned v =>
    obtain ⟨g', ow', h1, h2, h3⟩ := h
    exact ⟨g', ow', SR_wk h1, noLoc_wk h2, h3⟩
  | panicked c => exact h.elim
  | outgrown => exact h.elim

theorem pureOK_wk {C : Cfg} {T : Specs} (hP : ProgOK C.P) (hT : TOK C.P T) {f : Nat} {xs : List AV} {s : Slot} (h1 : noRefs xs = true) (h2 : noRefS (wk s) = true) {H' : Heap} (hr : Rea C (tcOf T) f (tFun C (tcOf T) f xs []) (.ok (s, H'))) : PureOK C.P f xs (wk s) := by
  refine ⟨h1, h2, fun w g ow args hv hh gc bd gv => ?_⟩
  obtain ⟨q1, q2⟩ := call_of hP hT hr hv hh gc bd gv (R := OkPost w g ow s H') rfl
  exact ⟨q1, CallsIn.mono q2 fun e w' h => ⟨H', h.wk⟩⟩

theorem val_recw {C : Cfg} {T : Specs} (hP : ProgOK C.P) (hT : TOK C.P T) (G : Nat → Option PSpec) (μ : Nat → List AV → Nat)
    (hstep : ∀ f S, G f = some S → ∀ xs r, (S xs).run = .ok r → noRefs xs = true ∧ noRefS r = true ∧
      ∃ r0 H', (r0 = r ∨ wk r0 = r) ∧ Rea C (tcOf (Tlt T (valG G) μ (μ f xs))) f (tFun C (tcOf (Tlt T (valG G) μ (μ f xs))) f xs []) (.ok (r0, H'))) :
    ∀ f S, G f = some S → SpecOK C.P f (valF S) := by
  intro f S hS
  refine spec_rec hT (valG G) μ (fun f F hF xs H r hr h1 h2 hTT w g ow args hv hh gc bd gv R hR => ?_) f (valF S) (by unfold valG; rw [hS])
  unfold valG at hF
  split at hF
  · rename_i S' hS'
    cases hF
    obtain ⟨s, k1, rfl⟩ := valF_ok hr h1 h2
    obtain ⟨k2, k3, r0, H', hw, hreach⟩ := hstep f S' hS' xs s k1
    have hR : some (OkPost w g ow s H) = some R := hR
    cases hR
    rcases hw with rfl | rfl
    · exact (pureOK_of hP hTT k2 k3 hreach).lift hv hh gc bd gv
    · exact (pureOK_wk hP hTT k2 k3 hreach).lift hv hh gc bd gv
  · cases hF
end Go.Sw

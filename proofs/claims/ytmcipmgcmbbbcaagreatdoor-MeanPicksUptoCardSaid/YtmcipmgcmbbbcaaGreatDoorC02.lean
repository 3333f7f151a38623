/- Contracts of the functions that the law reaches, for all well-formed values; conditions: as each theorem names them (the contracts of the functions called). -/
import Derived.Test.YtmcipmgcmbbbcaaGreatDoorC01
import Derived.Test.YtmcipmgcmbbbcaaGreatDoorT02
/-! Picks. -/
set_option maxRecDepth 100000
namespace Go.Proofs
open Go.Sw Go

def z0 : V := .mk 0 0 [] []
def retVE (v : V) (e : Int) : Tr Slot := .ok (.tup [.v (oV v), .v (.int .i64 e)])
/-- the part that a choice picks. -/
def pickV (s : V) (c : Int) : V := s.ps.getD (modI c s.ps.length).toNat default
noncomputable def S_Pick : PSpec := spec [arV, arI .i64] fun s c => .br (!s.valid || !eqI s.k 5) (retVE z0 2) (.br s.ps.isEmpty (retVE z0 5) (retVE (pickV s c) 0))
noncomputable def T_Pick : Specs := T0.with (T0.with (T0.with T0 110 (valF S_valid)) 112 (valF S_mod)) 111 (valF S_copied)
noncomputable def S_none : PSpec := spec [arV] fun v => retB (v.req z0)
noncomputable def T_none : Specs := T0.with T0 24 (valF S_eq)
noncomputable def S_known : PSpec := spec [] (retB true)
noncomputable def T_picks : Specs := T0.with (T0.with (T0.with (T0.with (T0.with (T0.with (T0.with (T0.with T0 48 (valF S_small)) 51 (valF S_Pick)) 49 (valF S_rvalid)) 52 (valF S_isSet)) 53 (valF S_mod)) 24 (valF S_eq)) 54 (valF S_has)) 22 (valF S_none)
noncomputable def T_picksK : Specs := T0.with T_picks 17 (valF S_known)
theorem e_pick (k : Int) (n : Int) (s : List UInt8) (l : List V) (c : Int) {r : Res (Slot × Heap)} (h : Rea cfgS (tcOf (T_Pick)) 51 (.br (noRefs [(encV (V.mk k n s l))]) (.br (isV (encV (V.mk k n s l))) (.br (!V.valid (vOf (encV (V.mk k n s l)))) (.ok (.done ((.tup [(.v (encV (V.mk 0 0 [] []))), (.v (.int .i64 (2)))]), []))) (.br (!decide (k = 5)) (.ok (.done ((.tup [(.v (encV (V.mk 0 0 [] []))), (.v (.int .i64 (2)))]), []))) (.br (decide ((↑(List.length (encVs l)) : Int) = 0)) (.ok (.done ((.tup [(.v (encV (V.mk 0 0 [] []))), (.v (.int .i64 (5)))]), []))) (.br (!decide ((↑(List.length (encVs l)) : Int) = 0)) (.br (inRange (modI c (↑(List.length (encVs l)) : Int)) (List.length (encVs l))) (.br (shapeB (gA (encVs l) (modI c (↑(List.length (encVs l)) : Int))) shV) (.br (noRefs [(rx (gA (encVs l) (modI c (↑(List.length (encVs l)) : Int))) shV)]) (.br (noRefs [(rx (gA (encVs l) (modI c (↑(List.length (encVs l)) : Int))) shV)]) (.br (isV (rx (gA (encVs l) (modI c (↑(List.length (encVs l)) : Int))) shV)) (.br (noRefS (.v (oV (vOf (rx (gA (encVs l) (modI c (↑(List.length (encVs l)) : Int))) shV))))) (.ok (.done ((.tup [(.v (oV (vOf (rx (gA (encVs l) (modI c (↑(List.length (encVs l)) : Int))) shV)))), (.v (.int .i64 (0)))]), []))) .bad) .bad) .bad) .bad) .bad) .bad) .bad)))) .bad) .bad) r) : Rea cfgS (tcOf (T_Pick)) 51 (tFun cfgS (tcOf (T_Pick)) 51 [encV (V.mk k n s l), AV.int .i64 c] []) r :=
  rea_cut (.b (.b (.t (.b (.t (.t (.t (.t .a)))) (.f (.f (.b .a (.b .a (.t (.t (.b (.t .a) .a))))))))) .a) .a) _ (by kernel_rfl) h
theorem e_none (k : Int) (n : Int) (s : List UInt8) (l : List V) {r : Res (Slot × Heap)} (h : Rea cfgS (tcOf (T_none)) 22 (.br (noRefs [(encV (V.mk k n s l)), (encV (V.mk 0 0 [] []))]) (.br (isV (encV (V.mk k n s l))) (.ok (.done ((.v (.bool (V.req (vOf (encV (V.mk k n s l))) (vOf (encV (V.mk 0 0 [] [])))))), []))) .bad) .bad) r) : Rea cfgS (tcOf (T_none)) 22 (tFun cfgS (tcOf (T_none)) 22 [encV (V.mk k n s l)] []) r :=
  rea_cut (.b (.b (.t (.t .a)) .a) .a) _ (by kernel_rfl) h
def S_picks_0 (x0 : Bool) (x1 : Int) (x2 : Int) (x3 : Int) (x4 : List UInt8) (x5 : List AV) (x6 : Int) (x7 : Int) (x8 : List UInt8) (x9 : List AV) : St := ⟨[(3, (.loc 3 0)), (5, (.loc 5 0)), (9, (.v (.bool x0))), (10, (.v (.int .i64 x1)))], [(3, [(.v (.int .i64 x2)), (.v (.int .i64 x3)), (.v (.str x4)), (.v (.list x5))]), (5, [(.v (.int .i64 x6)), (.v (.int .i64 x7)), (.v (.str x8)), (.v (.list x9))])], [], [], .false, []⟩
theorem e_picks (k : Int) (n : Int) (s : List UInt8) (l : List V) (c : Int) (k2 : Int) (n2 : Int) (s2 : List UInt8) (l2 : List V) {r : Res (Slot × Heap)} (h : Rea cfgS (tcOf (T_picksK)) 10 (.br (noRefs [(encV (V.mk k n s l))]) (.br (isV (encV (V.mk k n s l))) (.br (!V.rsmall (vOf (encV (V.mk k n s l)))) (.ok (.done ((.v (.bool (true))), []))) (.br (noRefs [(encV (V.mk k2 n2 s2 l2))]) (.br (isV (encV (V.mk k2 n2 s2 l2))) (.br (!V.rsmall (vOf (encV (V.mk k2 n2 s2 l2)))) (.ok (.done ((.v (.bool (true))), []))) (.br (noRefs [(encV (V.mk k n s l)), (.int .i64 (c))]) (.br (isV (encV (V.mk k n s l))) (.br (!V.valid (vOf (encV (V.mk k n s l))) || !eqI (V.k (vOf (encV (V.mk k n s l)))) 5) (.br (noRefs [(encV (V.mk k n s l))]) (.br (isV (encV (V.mk k n s l))) (.br (!V.rvalid (vOf (encV (V.mk k n s l)))) (.ok (.done ((.v (.bool (true))), []))) (.br (noRefs [(encV (V.mk k n s l))]) (.br (isV (encV (V.mk k n s l))) (.br (!decide (V.k (vOf (encV (V.mk k n s l))) = 5)) (.ok (.done ((.v (.bool (true))), []))) (.br (decide ((↑(List.length (encVs l)) : Int) = 0)) (.ok (.done ((.v (.bool (false))), []))) (.ok (.done ((.v (.bool (false))), []))))) .bad) .bad)) .bad) .bad) (.br (List.isEmpty (V.ps (vOf (encV (V.mk k n s l))))) (.br (noRefs [(encV (V.mk k n s l))]) (.br (isV (encV (V.mk k n s l))) (.br (!V.rvalid (vOf (encV (V.mk k n s l)))) (.ok (.done ((.v (.bool (false))), []))) (.br (noRefs [(encV (V.mk k n s l))]) (.br (isV (encV (V.mk k n s l))) (.br (!decide (V.k (vOf (encV (V.mk k n s l))) = 5)) (.ok (.done ((.v (.bool (false))), []))) (.br (decide ((↑(List.length (encVs l)) : Int) = 0)) (.ok (.done ((.v (.bool (true))), []))) (.ok (.done ((.v (.bool (false))), []))))) .bad) .bad)) .bad) .bad) (.br (noRefS (.tup [(.v (oV (pickV (vOf (encV (V.mk k n s l))) c))), (.v (.int .i64 (0)))])) (.br (noRefs [(encV (V.mk k n s l))]) (.br (isV (encV (V.mk k n s l))) (.br (!V.rvalid (vOf (encV (V.mk k n s l)))) (.ok (.done ((.v (.bool (false))), []))) (.br (noRefs [(encV (V.mk k n s l))]) (.br (isV (encV (V.mk k n s l))) (.br (!decide (V.k (vOf (encV (V.mk k n s l))) = 5)) (.ok (.done ((.v (.bool (false))), []))) (.br (decide ((↑(List.length (encVs l)) : Int) = 0)) (.ok (.done ((.v (.bool (false))), []))) (.br (!decide ((↑(List.length (encVs l)) : Int) = 0)) (.br (inRange (modI c (↑(List.length (encVs l)) : Int)) (List.length (encVs l))) (.br (shapeB (gA (encVs l) (modI c (↑(List.length (encVs l)) : Int))) shV) (.br (noRefs [(oV (pickV (vOf (encV (V.mk k n s l))) c)), (rx (gA (encVs l) (modI c (↑(List.length (encVs l)) : Int))) shV)]) (.br (noRefs [(oV (pickV (vOf (encV (V.mk k n s l))) c)), (rx (gA (encVs l) (modI c (↑(List.length (encVs l)) : Int))) shV)]) (.br (isV (oV (pickV (vOf (encV (V.mk k n s l))) c))) (.br (isV (rx (gA (encVs l) (modI c (↑(List.length (encVs l)) : Int))) shV)) (.br (!V.req (vOf (oV (pickV (vOf (encV (V.mk k n s l))) c))) (vOf (rx (gA (encVs l) (modI c (↑(List.length (encVs l)) : Int))) shV))) (.ok (.done ((.v (.bool (false))), []))) (.ok (.head 0 (S_picks_0 (false) (0) (k) (n) (s) (encVs l) (k2) (n2) (s2) (encVs l2))))) .bad) .bad) .bad) .bad) .bad) .bad) .bad))) .bad) .bad)) .bad) .bad) .bad))) .bad) .bad)) .bad) .bad)) .bad) .bad) r) : Rea cfgS (tcOf (T_picksK)) 10 (tFun cfgS (tcOf (T_picksK)) 10 [encV (V.mk k n s l), AV.int .i64 c, encV (V.mk k2 n2 s2 l2)] []) r :=
  rea_cut (.b (.b (.t (.b (.t (.t (.t (.t (.t (.t .a)))))) (.f (.b (.b (.t (.f (.b (.t (.t .a)) (.b (.b (.b (.t (.b (.b (.t (.b (.t (.t (.t (.t (.t (.t (.t (.t (.t (.t (.t (.t .a)))))))))))) (.f (.b (.b (.t (.f (.b (.t (.t (.t (.t (.t (.t (.t (.t .a)))))))) (.b (.f (.f (.f (.f (.f .a))))) (.t (.t (.t (.t (.t (.t (.t (.t (.t (.t (.t (.t (.t (.t .a)))))))))))))))))) .a) .a)))) .a) .a)) (.b (.t (.b (.b (.t (.b (.t (.t (.t (.t (.f (.f (.f (.f (.f .a))))))))) (.f (.b (.b (.t (.f (.b (.f (.f (.f (.f (.f .a))))) (.b (.t (.t (.t (.t (.t (.t (.t (.t .a)))))))) (.t (.t (.t (.t (.t (.t (.t (.t (.t (.t (.t (.t (.t (.t .a)))))))))))))))))) .a) .a)))) .a) .a)) (.b (.b (.b (.t (.b (.t (.t (.t (.t (.f (.f (.f (.f (.f .a))))))))) (.f (.b (.b (.t (.f (.b (.f (.f (.f (.f (.f .a))))) (.b (.f (.f (.f (.f (.f .a))))) (.f (.f (.f (.f (.f (.f (.f (.t (.f (.t (.b (.t (.f (.b (.b (.f (.b (.f (.b (.b (.b (.t (.f .a)) .a) .a) .a)) .a)) .a) .a))) .a))))))))))))))) .a) .a)))) .a) .a) .a))) .a) .a)))) .a) .a)))) .a) .a) _ (by kernel_rfl) h
theorem h_picks_0 (x0 : Bool) (x1 : Int) (x2 : Int) (x3 : Int) (x4 : List UInt8) (x5 : List AV) (x6 : Int) (x7 : Int) (x8 : List UInt8) (x9 : List AV) {r : Res (Slot × Heap)} (h : Rea cfgS (tcOf (T_picksK)) 10 (.br (decide (x1 < (↑(List.length x5) : Int))) (.br (noRefs [(.agg [(.int .i64 (x2)), (.int .i64 (x3)), (.str (x4)), (.list (x5))]), (.int .i64 (w6 (x1 - (↑(List.length x5) : Int))))]) (.br (isV (AV.agg [AV.int .i64 x2, AV.int .i64 x3, AV.str x4, AV.list x5])) (.br (!V.valid (vOf (AV.agg [AV.int .i64 x2, AV.int .i64 x3, AV.str x4, AV.list x5])) || !eqI (V.k (vOf (AV.agg [AV.int .i64 x2, AV.int .i64 x3, AV.str x4, AV.list x5]))) 5) (.ok (.done ((.v (.bool (false))), []))) (.br (List.isEmpty (V.ps (vOf (AV.agg [AV.int .i64 x2, AV.int .i64 x3, AV.str x4, AV.list x5])))) (.ok (.done ((.v (.bool (false))), []))) (.br (noRefS (.tup [(.v (oV (pickV (vOf (AV.agg [AV.int .i64 x2, AV.int .i64 x3, AV.str x4, AV.list x5])) (w6 (x1 - (↑(List.length x5) : Int)))))), (.v (.int .i64 (0)))])) (.br (x0) (.ok (.head 0 (S_picks_0 (true) (w6 (x1 + 1)) (x2) (x3) (x4) (x5) (x6) (x7) (x8) (x9)))) (.br (noRefs [(oV (pickV (vOf (AV.agg [AV.int .i64 x2, AV.int .i64 x3, AV.str x4, AV.list x5])) (w6 (x1 - (↑(List.length x5) : Int))))), (.agg [(.int .i64 (x6)), (.int .i64 (x7)), (.str (x8)), (.list (x9))])]) (.br (isV (oV (pickV (vOf (AV.agg [AV.int .i64 x2, AV.int .i64 x3, AV.str x4, AV.list x5])) (w6 (x1 - (↑(List.length x5) : Int)))))) (.br (isV (AV.agg [AV.int .i64 x6, AV.int .i64 x7, AV.str x8, AV.list x9])) (.ok (.head 0 (S_picks_0 (V.req (vOf (oV (pickV (vOf (AV.agg [AV.int .i64 x2, AV.int .i64 x3, AV.str x4, AV.list x5])) (w6 (x1 - (↑(List.length x5) : Int)))))) (vOf (AV.agg [AV.int .i64 x6, AV.int .i64 x7, AV.str x8, AV.list x9]))) (w6 (x1 + 1)) (x2) (x3) (x4) (x5) (x6) (x7) (x8) (x9)))) .bad) .bad) .bad)) .bad))) .bad) .bad) (.br (noRefs [(.agg [(.int .i64 (x2)), (.int .i64 (x3)), (.str (x4)), (.list (x5))]), (.agg [(.int .i64 (x6)), (.int .i64 (x7)), (.str (x8)), (.list (x9))])]) (.br (isV (AV.agg [AV.int .i64 x2, AV.int .i64 x3, AV.str x4, AV.list x5])) (.br (isV (AV.agg [AV.int .i64 x6, AV.int .i64 x7, AV.str x8, AV.list x9])) (.br (x0 == rhas (V.ps (vOf (AV.agg [AV.int .i64 x2, AV.int .i64 x3, AV.str x4, AV.list x5]))) (vOf (AV.agg [AV.int .i64 x6, AV.int .i64 x7, AV.str x8, AV.list x9]))) (.ok (.done ((.v (.bool (true))), []))) (.br (noRefs [(.agg [(.int .i64 (x6)), (.int .i64 (x7)), (.str (x8)), (.list (x9))])]) (.br (isV (AV.agg [AV.int .i64 x6, AV.int .i64 x7, AV.str x8, AV.list x9])) (.br (!V.rvalid (vOf (AV.agg [AV.int .i64 x6, AV.int .i64 x7, AV.str x8, AV.list x9]))) (.ok (.done ((.v (.bool (true))), []))) (.ok (.done ((.v (.bool (false))), [])))) .bad) .bad)) .bad) .bad) .bad)) r) : Rea cfgS (tcOf (T_picksK)) 10 (.ok (.head 0 (S_picks_0 x0 x1 x2 x3 x4 x5 x6 x7 x8 x9))) r :=
  rea_head (.b (.b (.b (.b (.t (.t .a)) (.b (.t (.t .a)) (.b (.f (.b (.t (.t (.t .a))) (.f (.f (.b (.b (.b (.t .a) .a) .a) .a))))) .a))) .a) .a) (.b (.b (.b (.t (.b (.t (.t (.t (.t (.t (.t .a)))))) (.f (.b (.b (.t (.f (.b (.t (.t .a)) (.f .a)))) .a) .a)))) .a) .a) .a)) (by kernel_rfl) h

theorem modI_in {c : Int} {n : Nat} (h : 0 < n) (hb : n ≤ big40) : inRange (modI c n) n = true := by
  have h1 := Int.tmod_lt_of_pos c (show (0 : Int) < n by omega)
  have h2 : -(n : Int) < c.tmod n := by
    have := Int.neg_tmod c n
    have h3 := Int.tmod_lt_of_pos (-c) (show (0 : Int) < n by omega)
    omega
  unfold modI
  by_cases hq : c.tmod n < 0
  · rw [w6_id (by simp [big40] at hb; omega) (by simp [big40] at hb; omega)]
    simp only [hq, decide_true, cond_true]
    exact inR (by omega) (by omega)
  · simp only [hq, decide_false, cond_false]
    exact inR (by omega) h1
theorem modI_back {i n : Nat} (h : i < n) (hb : n ≤ big40) : modI (w6 ((i : Int) - n)) n = i := by
  have e : w6 ((i : Int) - n) = (i : Int) - n := w6_id (by simp [big40] at hb; omega) (by omega)
  rw [e]
  unfold modI
  have e2 : ((i : Int) - n) = -((n : Int) - i) := by omega
  rw [e2, Int.neg_tmod]
  by_cases h0 : i = 0
  · subst h0; simp
  · have : ((n : Int) - i).tmod n = n - i := Int.tmod_eq_of_lt (by omega) (by omega)
    rw [this]
    have hq : -((n : Int) - i) < 0 := by omega
    have e3 : w6 (-((n : Int) - i) + n) = i := by
      rw [w6_id (by omega) (by simp [big40] at hb; omega)]; omega
    simp only [hq, decide_true, cond_true, e3]
theorem spec_pick : SpecOK Tryz.prog 51 (valF S_Pick) := val2 (C := cfgS) (T := T_Pick) progOK (((T0_ok.with spec_mvalid).with spec_mod).with spec_copied) fun v c r w _ h => by
  obtain ⟨k, n, s, l⟩ := v
  have w' : (V.mk k n s l).wf = true := w
  obtain ⟨-, hl, hw, -⟩ := wf_parts w
  have hz : noRefS (.tup [.v (encV (V.mk 0 0 [] [])), .v (.int .i64 2)]) = true := rfl
  cases hv : (V.mk k n s l).valid with
  | false =>
    simp [hv, Tr.run, retVE] at h
    subst h
    exact ⟨rfl, [], e_pick _ _ _ _ _ (by simp [reach_br, noRefs, noRef_encV, w', hv, reach_ok, z0])⟩
  | true =>
    by_cases h5 : k = 5
    · subst h5
      cases l with
      | nil =>
        simp [hv, Tr.run, retVE] at h
        subst h
        exact ⟨rfl, [], e_pick _ _ _ _ _ (by simp [reach_br, noRefs, noRef_encV, w', hv, reach_ok, z0])⟩
      | cons p post =>
        simp [hv, Tr.run, retVE] at h
        subst h
        have hr := modI_in (c := c) (n := (p :: post).length) (by simp) hl
        have hidx : (modI c ((p :: post).length : Nat)).toNat < (p :: post).length := by
          unfold inRange at hr
          simp only [Bool.and_eq_true, decide_eq_true_eq] at hr
          omega
        have hg := gA_getD (l := p :: post) hr
        have hpw := wfs_getD hw hidx
        have hne : ¬ (((p :: post).length : Nat) : Int) = 0 := by simp; omega
        refine ⟨by simp [noRefS, noRefSs, noRef_encV, noRef], [], e_pick _ _ _ _ _ ?_⟩
        simp only [reach_br, noRefs, noRef_encV, isV_enc, vOf_enc, w', hv, encVs_len, hne, hr, hg, shV, shape_enc, rx_enc, hpw, oV_eq, noRefS, reach_ok, decide_true, decide_false, Bool.not_true, Bool.not_false, if_true, if_false, Bool.false_eq_true]
        simp [pickV]
    · have h5' := eqI_ne h5
      simp [hv, Tr.run, retVE, h5'] at h
      subst h
      exact ⟨rfl, [], e_pick _ _ _ _ _ (by simp [reach_br, noRefs, noRef_encV, w', hv, reach_ok, z0, h5])⟩
theorem spec_none : SpecOK Tryz.prog 22 (valF S_none) := val1 (C := cfgS) (T := T_none) progOK (T0_ok.with spec_eq) fun v r w h => by
  cases h
  obtain ⟨k, n, s, l⟩ := v
  have w' : (V.mk k n s l).wf = true := w
  exact ⟨rfl, [], e_none _ _ _ _ (by simp [reach_br, noRefs, noRef_encV, w', reach_ok, z0])⟩
noncomputable def S_picks : PSpec := spec [arV, arI .i64, arV] fun _ _ _ => retB true
theorem loop_picks {n : Int} {s : List UInt8} (v : V) (wv : v.wf = true) (l : List V) (wl : (V.mk 5 n s l).wf = true) (hv : (V.mk 5 n s l).valid = true) (hfin : v.rvalid = true → (l.any fun p => p.req v) = rhas l v) : ∀ (post pre : List V), pre ++ post = l →
    Rea cfgS (tcOf T_picksK) 10 (.ok (.head 0 (S_picks_0 (pre.any fun p => p.req v) pre.length 5 n s (encVs l) v.k v.n v.s (encVs v.ps)))) (.ok (.v (.bool true), []))
  | [], pre, e => by
    obtain ⟨rfl, h⟩ := at_end e
    refine h_picks_0 _ _ _ _ _ _ _ _ _ _ ?_
    have e1 : AV.agg [AV.int .i64 v.k, AV.int .i64 v.n, AV.str v.s, AV.list (encVs v.ps)] = encV v := oV_eq v
    have e2 : AV.agg [AV.int .i64 5, AV.int .i64 n, AV.str s, AV.list (encVs pre)] = encV (V.mk 5 n s pre) := by simp [encV]
    simp only [reach_br, encVs_len, h, e1, e2, noRefs, noRef_encV, isV_enc, vOf_enc, wl, wv, V.ps_mk, reach_ok, decide_false, if_true]
    cases hr : v.rvalid with
    | true => simp [hfin hr]
    | false => cases hq : ((pre.any fun p => p.req v) == rhas pre v) <;> simp
  | p :: post, pre, e => by
    obtain ⟨-, hl, hw, -⟩ := wf_parts wl
    have a := at_p e hl hw
    have ih := loop_picks (n := n) (s := s) v wv l wl hv hfin post (pre ++ [p]) a.e
    refine h_picks_0 _ _ _ _ _ _ _ _ _ _ ?_
    have e1 : AV.agg [AV.int .i64 v.k, AV.int .i64 v.n, AV.str v.s, AV.list (encVs v.ps)] = encV v := oV_eq v
    have e2 : AV.agg [AV.int .i64 5, AV.int .i64 n, AV.str s, AV.list (encVs l)] = encV (V.mk 5 n s l) := by simp [encV]
    have hlt : pre.length < l.length := by have := a.lt; omega
    have hp : pickV (V.mk 5 n s l) (w6 ((pre.length : Int) - (l.length : Nat))) = p := by
      unfold pickV
      rw [V.ps_mk, modI_back hlt hl, ← e]
      simp
    have hne : l.isEmpty = false := by rw [← e]; simp
    have h5 : (!(V.mk 5 n s l).valid || !eqI (V.mk 5 n s l).k 5) = false := by simp [hv]
    simp only [reach_br, encVs_len, a.lt, e1, e2, noRefs, noRef, noRef_encV, noRefs_encV, isV_enc, vOf_enc, wl, wv, h5, V.ps_mk, hne, hp, oV_eq, noRefS, noRefSs, a.wf, a.i, decide_true, if_true, if_false, Bool.false_eq_true]
    have hany : ((pre ++ [p]).any fun p => p.req v) = ((pre.any fun p => p.req v) || p.req v) := by simp
    rw [hany] at ih
    cases hx : (pre.any fun p => p.req v) with
    | true => simpa [hx] using ih
    | false => simpa [hx] using ih
theorem spec_picks (hk : SpecOK Tryz.prog 17 (valF S_known)) : SpecOK Tryz.prog 10 (valF S_picks) :=
  val3 (C := cfgS) (T := T_picksK) progOK (((((((((T0_ok.with spec_small).with spec_pick).with spec_rvalid).with spec_isSet).with spec_Mod).with spec_eq).with spec_has).with spec_none).with hk) fun v c v2 r w _ w2 h => by
  cases h
  obtain ⟨k, n, s, l⟩ := v
  obtain ⟨k2, n2, s2, l2⟩ := v2
  have w' : (V.mk k n s l).wf = true := w
  have w2' : (V.mk k2 n2 s2 l2).wf = true := w2
  obtain ⟨-, hl, hw, -⟩ := wf_parts w
  refine ⟨rfl, [], e_picks _ _ _ _ _ _ _ _ _ ?_⟩
  simp only [reach_br, noRefs, noRef, noRef_encV, isV_enc, vOf_enc, w', w2', V.k_mk, V.ps_mk, valid_eq, encVs_len, reach_ok, if_true]
  cases h1 : (V.mk k n s l).rsmall with
  | false => simp
  | true =>
  cases h2 : (V.mk k2 n2 s2 l2).rsmall with
  | false => simp
  | true =>
  cases h3 : (V.mk k n s l).rvalid with
  | false => simp
  | true =>
  by_cases h5 : k = 5
  · subst h5
    cases l with
    | nil => simp
    | cons p post =>
      have hr := modI_in (c := c) (n := (p :: post).length) (by simp) hl
      have hidx : (modI c ((p :: post).length : Nat)).toNat < (p :: post).length := by
        unfold inRange at hr
        simp only [Bool.and_eq_true, decide_eq_true_eq] at hr
        omega
      have hg := gA_getD (l := p :: post) hr
      have hpw := wfs_getD hw hidx
      have hne : ¬ (((p :: post).length : Nat) : Int) = 0 := by simp; omega
      have hpk : pickV (V.mk 5 n s (p :: post)) c = (p :: post).getD (modI c ((p :: post).length : Nat)).toNat default := rfl
      have hq : (V.mk 5 n s (p :: post)).valid = true := by rw [valid_eq]; exact h3
      have hsh : shapeds (p :: post) = true := by
        have : (V.mk 5 n s (p :: post)).shaped = true := by
          unfold V.valid at hq
          simp only [Bool.and_eq_true] at hq
          exact hq.2
        rcases shaped_inv this with h | h | h | h | h <;> simp_all
      have hlp := loop_picks (n := n) (s := s) (V.mk k2 n2 s2 l2) w2' (p :: post) w' hq (fun hr2 => by
        have : (V.mk k2 n2 s2 l2).shaped = true := by
          rw [← valid_eq] at hr2
          unfold V.valid at hr2
          simp only [Bool.and_eq_true] at hr2
          exact hr2.2
        exact (has_iff' hsh this).symm) (p :: post) [] rfl
      have hre : ∀ x : V, x.req x = true := fun x => (req_iff x x).mpr rfl
      simp only [hne, hr, hg, hpk, shV, shape_enc, rx_enc, hpw, oV_eq, noRefS, noRefSs, noRef, noRef_encV, isV_enc, vOf_enc, hre, eqI_self, decide_true, decide_false, Bool.not_true, Bool.not_false, Bool.or_self, List.isEmpty_cons, if_true, if_false, Bool.false_eq_true]
      simpa using hlp
  · simp [h5, eqI_ne h5]
end Go.Proofs

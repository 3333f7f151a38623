/- Contracts of the functions that the law reaches, for all well-formed values; conditions: as each theorem names them (the contracts of the functions called). -/
import Derived.Test.YtmcipmgcmbbbcaaGreatDoorC00
/-! Values as defined; copies; picks. -/
set_option maxRecDepth 100000
namespace Go.Proofs
open Go.Sw Go

noncomputable def S_valid : PSpec := spec [arV] fun v => retB v.valid
noncomputable def T_valid : Specs := T0.with (T0.with T0 249 (valF S_fits)) 250 (valF S_shaped)
noncomputable def S_check : PSpec := spec [arV] fun v => .br v.valid (retI 0) (retI 2)
noncomputable def T_check : Specs := T0.with T0 206 (valF S_valid)
noncomputable def T_mvalid : Specs := T0.with T0 163 (valF S_check)
noncomputable def S_mod : PSpec := spec [arI .i64, arI .i64] fun a n => gd (!decide (n = 0)) (retI (modI a n))
noncomputable def S_copied : PSpec := spec [arV] fun v => .ok (.v (oV v))
noncomputable def L_copied : List (Nat × PSpec) := [(111, S_copied)]
noncomputable def T_copied (b : Nat) : Specs := Tg T0 L_copied muV b
theorem e_valid (k : Int) (n : Int) (s : List UInt8) (l : List V) {r : Res (Slot × Heap)} (h : Rea cfgS (tcOf (T_valid)) 206 (.br (noRefs [(encV (V.mk k n s l))]) (.br (isV (encV (V.mk k n s l))) (.br (decide (Prod.fst (V.weigh (vOf (encV (V.mk k n s l))) 200 8) ≤ 200) && decide (Prod.snd (V.weigh (vOf (encV (V.mk k n s l))) 200 8) ≤ 8)) (.br (noRefs [(encV (V.mk k n s l))]) (.br (isV (encV (V.mk k n s l))) (.ok (.done ((.v (.bool (V.shaped (vOf (encV (V.mk k n s l)))))), []))) .bad) .bad) (.ok (.done ((.v (.bool (false))), [])))) .bad) .bad) r) : Rea cfgS (tcOf (T_valid)) 206 (tFun cfgS (tcOf (T_valid)) 206 [encV (V.mk k n s l)] []) r :=
  rea_cut (.b (.b (.t (.b (.t (.b (.b (.t .a) .a) .a)) (.f (.f .a)))) .a) .a) _ (by kernel_rfl) h
theorem e_check (k : Int) (n : Int) (s : List UInt8) (l : List V) {r : Res (Slot × Heap)} (h : Rea cfgS (tcOf (T_check)) 163 (.br (noRefs [(encV (V.mk k n s l))]) (.br (isV (encV (V.mk k n s l))) (.br (!V.valid (vOf (encV (V.mk k n s l)))) (.ok (.done ((.v (.int .i64 (2))), []))) (.ok (.done ((.v (.int .i64 (0))), [])))) .bad) .bad) r) : Rea cfgS (tcOf (T_check)) 163 (tFun cfgS (tcOf (T_check)) 163 [encV (V.mk k n s l)] []) r :=
  rea_cut (.b (.b (.t .a) .a) .a) _ (by kernel_rfl) h
theorem e_mvalid (k : Int) (n : Int) (s : List UInt8) (l : List V) {r : Res (Slot × Heap)} (h : Rea cfgS (tcOf (T_mvalid)) 110 (.br (noRefs [(encV (V.mk k n s l))]) (.br (isV (encV (V.mk k n s l))) (.br (V.valid (vOf (encV (V.mk k n s l)))) (.ok (.done ((.v (.bool (decide (0 = 0)))), []))) (.ok (.done ((.v (.bool (decide (2 = 0)))), [])))) .bad) .bad) r) : Rea cfgS (tcOf (T_mvalid)) 110 (tFun cfgS (tcOf (T_mvalid)) 110 [encV (V.mk k n s l)] []) r :=
  rea_cut (.b (.b (.b (.t .a) (.t .a)) .a) .a) _ (by kernel_rfl) h
theorem e_mod (a : Int) (n : Int) {r : Res (Slot × Heap)} (h : Rea cfgS (tcOf (T0)) 112 (.br (!decide (n = 0)) (.br (decide (Int.tmod a n < 0)) (.ok (.done ((.v (.int .i64 (w6 (Int.tmod a n + n)))), []))) (.ok (.done ((.v (.int .i64 (Int.tmod a n))), [])))) .bad) r) : Rea cfgS (tcOf (T0)) 112 (tFun cfgS (tcOf (T0)) 112 [AV.int .i64 a, AV.int .i64 n] []) r :=
  rea_cut .a _ (by kernel_rfl) h
theorem e_Mod (a : Int) (n : Int) {r : Res (Slot × Heap)} (h : Rea cfgS (tcOf (T0)) 53 (.br (!decide (n = 0)) (.br (decide (Int.tmod a n < 0)) (.ok (.done ((.v (.int .i64 (w6 (Int.tmod a n + n)))), []))) (.ok (.done ((.v (.int .i64 (Int.tmod a n))), [])))) .bad) r) : Rea cfgS (tcOf (T0)) 53 (tFun cfgS (tcOf (T0)) 53 [AV.int .i64 a, AV.int .i64 n] []) r :=
  rea_cut .a _ (by kernel_rfl) h
def S_copied_0 (x0 : List AV) (x1 : Int) (x2 : Int) (x3 : Int) (x4 : Int) (x5 : List UInt8) (x6 : List AV) (x7 : Int) (x8 : Int) (x9 : List UInt8) : St := ⟨[(1, (.loc 1 0)), (2, (.loc 2 0)), (3, .nil0), (7, (.v (.list x0))), (8, (.v (.int .i64 x1))), (9, (.v (.int .i64 x2)))], [(1, [(.v (.int .i64 x3)), (.v (.int .i64 x4)), (.v (.str x5)), (.v (.list x6))]), (2, [(.v (.int .i64 x7)), (.v (.int .i64 x8)), (.v (.str x9)), .nil0])], [], [], .false, []⟩
def S_copied_1 (x0 : List AV) (x1 : List AV) (x2 : Int) (x3 : Int) (x4 : Int) (x5 : Int) (x6 : List UInt8) (x7 : List AV) (x8 : Int) (x9 : Int) (x10 : List UInt8) : St := ⟨[(1, (.loc 1 0)), (2, (.loc 2 0)), (3, (.own 4 x0)), (7, (.v (.list x1))), (8, (.v (.int .i64 x2))), (9, (.v (.int .i64 x3)))], [(1, [(.v (.int .i64 x4)), (.v (.int .i64 x5)), (.v (.str x6)), (.v (.list x7))]), (2, [(.v (.int .i64 x8)), (.v (.int .i64 x9)), (.v (.str x10)), .nil0])], [], [], .false, []⟩
theorem e_copied (b : Nat) (k : Int) (n : Int) (s : List UInt8) (l : List V) {r : Res (Slot × Heap)} (h : Rea cfgS (tcOf (T_copied b)) 111 (.ok (.head 0 (S_copied_0 (encVs l) ((↑(List.length (encVs l)) : Int)) (0) (k) (n) (s) (encVs l) (0) (0) ([])))) r) : Rea cfgS (tcOf (T_copied b)) 111 (tFun cfgS (tcOf (T_copied b)) 111 [encV (V.mk k n s l)] []) r :=
  rea_cut .a _ (by kernel_rfl) h
theorem h_copied_0 (b : Nat) (x0 : List AV) (x1 : Int) (x2 : Int) (x3 : Int) (x4 : Int) (x5 : List UInt8) (x6 : List AV) (x7 : Int) (x8 : Int) (x9 : List UInt8) {r : Res (Slot × Heap)} (h : Rea cfgS (tcOf (T_copied b)) 111 (.br (decide (x2 < x1)) (.br (inRange x2 (List.length x0)) (.br (shapeB (gA x0 x2) shV) (.br (noRefs [(rx (gA x0 x2) shV)]) (.br (decide (muV 111 [rx (gA x0 x2) shV] < b)) (.br (isV (rx (gA x0 x2) shV)) (.br (noRefS (.v (oV (vOf (rx (gA x0 x2) shV))))) (.ok (.head 0 (S_copied_1 ([oV (vOf (rx (gA x0 x2) shV))]) (x0) (x1) (w6 (x2 + 1)) (x3) (x4) (x5) (x6) (x7) (x8) (x9)))) .bad) .bad) .bad) .bad) .bad) .bad) (.ok (.done ((.agg [(.v (.int .i64 (x3))), (.v (.int .i64 (x4))), (.v (.str (x5))), .nil0]), [])))) r) : Rea cfgS (tcOf (T_copied b)) 111 (.ok (.head 0 (S_copied_0 x0 x1 x2 x3 x4 x5 x6 x7 x8 x9))) r :=
  rea_head (.b (.b (.b (.b (.b (.b (.b (.t (.t .a)) .a) .a) .a) .a) .a) .a) .a) (by kernel_rfl) h
theorem h_copied_1 (b : Nat) (x0 : List AV) (x1 : List AV) (x2 : Int) (x3 : Int) (x4 : Int) (x5 : Int) (x6 : List UInt8) (x7 : List AV) (x8 : Int) (x9 : Int) (x10 : List UInt8) {r : Res (Slot × Heap)} (h : Rea cfgS (tcOf (T_copied b)) 111 (.br (decide (x3 < x2)) (.br (inRange x3 (List.length x1)) (.br (shapeB (gA x1 x3) shV) (.br (noRefs [(rx (gA x1 x3) shV)]) (.br (decide (muV 111 [rx (gA x1 x3) shV] < b)) (.br (isV (rx (gA x1 x3) shV)) (.br (noRefS (.v (oV (vOf (rx (gA x1 x3) shV))))) (.br (decide (List.length x0 + List.length [oV (vOf (rx (gA x1 x3) shV))] ≤ bigLen)) (.ok (.head 0 (S_copied_1 (x0 ++ [oV (vOf (rx (gA x1 x3) shV))]) (x1) (x2) (w6 (x3 + 1)) (x4) (x5) (x6) (x7) (x8) (x9) (x10)))) .bad) .bad) .bad) .bad) .bad) .bad) .bad) (.ok (.done ((.v (.agg [(.int .i64 (x4)), (.int .i64 (x5)), (.str (x6)), (.list (x0))])), [])))) r) : Rea cfgS (tcOf (T_copied b)) 111 (.ok (.head 0 (S_copied_1 x0 x1 x2 x3 x4 x5 x6 x7 x8 x9 x10))) r :=
  rea_head (.b (.b (.b (.b (.b (.b (.b (.t .a) .a) .a) .a) .a) .a) .a) .a) (by kernel_rfl) h

theorem spec_valid : SpecOK Tryz.prog 206 (valF S_valid) := val1 (C := cfgS) (T := T_valid) progOK ((T0_ok.with spec_fits).with spec_shaped) fun v r w h => by
  cases h
  obtain ⟨k, n, s, l⟩ := v
  have w : (V.mk k n s l).wf = true := w
  refine ⟨rfl, [], e_valid _ _ _ _ ?_⟩
  simp only [reach_br, noRefs, noRef_encV, isV_enc, vOf_enc, w, reach_ok, if_true, V.valid, V.fits]
  cases h1 : (decide ((V.weigh (V.mk k n s l) 200 8).1 ≤ 200) && decide ((V.weigh (V.mk k n s l) 200 8).2 ≤ 8)) <;> simp
theorem spec_check : SpecOK Tryz.prog 163 (valF S_check) := val1 (C := cfgS) (T := T_check) progOK (T0_ok.with spec_valid) fun v r w h => by
  obtain ⟨k, n, s, l⟩ := v
  have w : (V.mk k n s l).wf = true := w
  cases hv : (V.mk k n s l).valid with
  | true =>
    simp only [hv, Tr.run] at h
    cases h
    exact ⟨rfl, [], e_check _ _ _ _ (by simp [reach_br, noRefs, noRef_encV, w, reach_ok, hv])⟩
  | false =>
    simp only [hv, Tr.run] at h
    cases h
    exact ⟨rfl, [], e_check _ _ _ _ (by simp [reach_br, noRefs, noRef_encV, w, reach_ok, hv])⟩
theorem spec_mvalid : SpecOK Tryz.prog 110 (valF S_valid) := val1 (C := cfgS) (T := T_mvalid) progOK (T0_ok.with spec_check) fun v r w h => by
  cases h
  obtain ⟨k, n, s, l⟩ := v
  have w : (V.mk k n s l).wf = true := w
  refine ⟨rfl, [], e_mvalid _ _ _ _ ?_⟩
  cases hv : (V.mk k n s l).valid <;> simp [reach_br, noRefs, noRef_encV, w, reach_ok, hv]
theorem spec_mod : SpecOK Tryz.prog 112 (valF S_mod) := val2 (C := cfgS) progOK T0_ok fun a n r _ _ h => by
  obtain ⟨h1, h2⟩ := gd_ok h
  cases h2
  refine ⟨rfl, [], e_mod _ _ ?_⟩
  simp only [reach_br, h1, if_true, modI, reach_ok]
  cases hq : decide (Int.tmod a n < 0) <;> simp
theorem spec_Mod : SpecOK Tryz.prog 53 (valF S_mod) := val2 (C := cfgS) progOK T0_ok fun a n r _ _ h => by
  obtain ⟨h1, h2⟩ := gd_ok h
  cases h2
  refine ⟨rfl, [], e_Mod _ _ ?_⟩
  simp only [reach_br, h1, if_true, modI, reach_ok]
  cases hq : decide (Int.tmod a n < 0) <;> simp
theorem encVs_snoc (l : List V) (p : V) : encVs l ++ [encV p] = encVs (l ++ [p]) := by simp [encVs_map]
theorem loop_copied {b : Nat} {k n : Int} {s : List UInt8} {x7 : List AV} {x8 x9 : Int} {x10 : List UInt8} (l : List V) (hl : l.length ≤ big40) (hw : V.wfs l = true) (hb : V.sizes l < b) : ∀ (post pre : List V), pre ++ post = l →
    Rea cfgS (tcOf (T_copied b)) 111 (.ok (.head 0 (S_copied_1 (encVs pre) (encVs l) l.length pre.length k n s x7 x8 x9 x10))) (.ok (.v (encV (.mk k n s l)), []))
  | [], pre, e => by
    have e : pre = l := by simpa using e
    subst e
    refine h_copied_1 _ _ _ _ _ _ _ _ _ _ _ _ ?_
    simp [reach_br, reach_ok, encV]
  | p :: post, pre, e => by
    subst e
    have hlen : (pre.length : Int) < ((pre ++ p :: post).length : Nat) := by simp; omega
    have hi : w6 ((pre.length : Int) + 1) = ((pre ++ [p]).length : Nat) := by
      rw [w6_id] <;> simp [big40] at * <;> omega
    have hp : p.wf = true := by
      simp only [wfs_append, V.wfs, Bool.and_eq_true] at hw; exact hw.2.1
    have hs : p.size < b := by
      simp only [sizes_append, V.sizes] at hb; omega
    have hbig : pre.length + 1 ≤ bigLen := by
      simp [big40, bigLen] at *; omega
    have ih := loop_copied (b := b) (k := k) (n := n) (s := s) (x7 := x7) (x8 := x8) (x9 := x9) (x10 := x10) (pre ++ p :: post) hl hw hb post (pre ++ [p]) (by simp)
    refine h_copied_1 _ _ _ _ _ _ _ _ _ _ _ _ ?_
    simp only [reach_br, gA_enc rfl, shV, shape_enc, rx_enc, hlen, decide_true, encVs_len, inR (Int.natCast_nonneg _) hlen, noRefs, noRefS, noRef_encV, muV, vOf_enc, isV_enc, V.eta, oV_eq, hp, hs, hi, hbig, List.length_cons, List.length_nil, Nat.zero_add, encVs_snoc, if_true]
    exact ih
theorem spec_copied : SpecOK Tryz.prog 111 (valF S_copied) := by
  refine val_groupw (C := cfgS) progOK T0_ok L_copied muV (fun p hp xs r hr => ?_) rfl
  simp only [L_copied, List.mem_cons, List.not_mem_nil, or_false] at hp
  subst hp
  obtain ⟨v, ys, rfl, w1, hr⟩ := spec_cons hr
  obtain ⟨rfl, hr⟩ := spec_nil hr
  cases hr
  obtain ⟨k, n, s, l⟩ := v
  have hw : (V.mk k n s l).wf = true := w1
  simp only [V.wf, Bool.and_eq_true, decide_eq_true_eq] at hw
  right
  refine ⟨by simp [noRefs, noRef_encV], by simp [noRefS, noRef_encV], ?_⟩
  have hb : muV 111 [encV (V.mk k n s l)] = 1 + V.sizes l := by simp [muV, V.size]
  have h0 : (Array.toList (ByteArray.data (ByteArray.mk #[]))) = ([] : List UInt8) := rfl
  cases l with
  | nil =>
    refine ⟨.agg [.v (.int .i64 k), .v (.int .i64 n), .v (.str s), .nil0], [], rfl, e_copied _ _ _ _ _ (h_copied_0 _ _ _ _ _ _ _ _ _ _ _ ?_)⟩
    simp [reach_br, reach_ok, encVs]
  | cons p post =>
    refine ⟨.v (encV (V.mk k n s (p :: post))), [], by simp [wk, toAV], e_copied _ _ _ _ _ (h_copied_0 _ _ _ _ _ _ _ _ _ _ _ ?_)⟩
    have hlen : (0 : Int) < ((p :: post).length : Nat) := by simp
    have hp : p.wf = true ∧ V.wfs post = true := by simpa [V.wfs] using hw.2
    have hs : p.size < (V.mk k n s (p :: post)).size := by simp [V.size, V.sizes]; omega
    have g : gA (encVs (p :: post)) 0 = encV p := gA_enc (pre := []) rfl
    have hi : w6 (0 + 1) = (([p] : List V).length : Nat) := by
      rw [w6_id] <;> simp
    have hlp := loop_copied (b := (V.mk k n s (p :: post)).size) (k := k) (n := n) (s := s) (x7 := encVs (p :: post)) (x8 := 0) (x9 := 0) (x10 := []) (p :: post) hw.1.2 hw.2 (by simp [V.size]) post [p] rfl
    simp only [reach_br, hb, g, shV, shape_enc, rx_enc, hlen, decide_true, encVs_len, inR (Int.le_refl 0) hlen, noRefs, noRefS, noRef_encV, muV, vOf_enc, isV_enc, V.eta, oV_eq, hp.1, hs, hi, if_true]
    exact hlp
end Go.Proofs
/-! The document's functions of values: orders, texts, sizes. -/
set_option maxRecDepth 100000
namespace Go.Proofs
open Go.Sw Go

noncomputable def S_order : PSpec := spec [arI .i64, arI .i64] fun a b => retI (cmpI a b)
noncomputable def S_letters : PSpec := spec [arS] fun s => retB (okText s)
noncomputable def S_rW : PSpec := spec [arV, arI .i64, arI .i64] fun v m d => retI (v.rw m d)
noncomputable def L_rW : List (Nat × PSpec) := [(107, S_rW)]
noncomputable def T_rW (b : Nat) : Specs := Tg T0 L_rW muV b
noncomputable def S_brief : PSpec := spec [arV] fun v => retB v.brief
noncomputable def L_brief : List (Nat × PSpec) := [(108, S_brief)]
noncomputable def T_brief (b : Nat) : Specs := Tg T0 L_brief muV b
noncomputable def S_rcmp : PSpec := spec [arV, arV] fun a b => retI (a.rcmp b)
noncomputable def L_rcmp : List (Nat × PSpec) := [(101, S_rcmp)]
noncomputable def B_rcmp : Specs := T0.with T0 154 (valF S_order)
noncomputable def T_rcmp (b : Nat) : Specs := Tg B_rcmp L_rcmp muV b
theorem e_rin (a : Int) (b : Int) (c : Int) {r : Res (Slot × Heap)} (h : Rea cfgS (tcOf (T0)) 161 (.br (decide (b ≤ a)) (.ok (.done ((.v (.bool (decide (a ≤ c)))), []))) (.ok (.done ((.v (.bool (false))), [])))) r) : Rea cfgS (tcOf (T0)) 161 (tFun cfgS (tcOf (T0)) 161 [AV.int .i64 a, AV.int .i64 b, AV.int .i64 c] []) r :=
  rea_cut (.b (.t (.t .a)) (.f (.f (.f .a)))) _ (by kernel_rfl) h
theorem e_order (a : Int) (b : Int) {r : Res (Slot × Heap)} (h : Rea cfgS (tcOf (T0)) 154 (.br (decide (a < b)) (.ok (.done ((.v (.int .i64 (-1))), []))) (.br (decide (b < a)) (.ok (.done ((.v (.int .i64 (1))), []))) (.ok (.done ((.v (.int .i64 (0))), []))))) r) : Rea cfgS (tcOf (T0)) 154 (tFun cfgS (tcOf (T0)) 154 [AV.int .i64 a, AV.int .i64 b] []) r :=
  rea_cut .a _ (by kernel_rfl) h
def S_letters_0 (x0 : List UInt8) (x1 : Int) : St := ⟨[(0, (.v (.str x0))), (3, (.v (.int .i64 x1)))], [], [], [], .false, []⟩
theorem e_letters (s : List UInt8) {r : Res (Slot × Heap)} (h : Rea cfgS (tcOf (T0)) 162 (.ok (.head 0 (S_letters_0 (s) (0)))) r) : Rea cfgS (tcOf (T0)) 162 (tFun cfgS (tcOf (T0)) 162 [AV.str s] []) r :=
  rea_cut .a _ (by kernel_rfl) h
theorem h_letters_0 (x0 : List UInt8) (x1 : Int) {r : Res (Slot × Heap)} (h : Rea cfgS (tcOf (T0)) 162 (.br (decide (x1 < (↑(List.length x0) : Int))) (.br (inRange x1 (List.length x0)) (.br (decide ((↑(UInt8.toNat (List.getD x0 (Int.toNat x1) 0)) : Int) < 32)) (.ok (.done ((.v (.bool (false))), []))) (.br (inRange x1 (List.length x0)) (.br (decide (126 < (↑(UInt8.toNat (List.getD x0 (Int.toNat x1) 0)) : Int))) (.ok (.done ((.v (.bool (false))), []))) (.br (inRange x1 (List.length x0)) (.br (decide ((↑(UInt8.toNat (List.getD x0 (Int.toNat x1) 0)) : Int) = 34)) (.ok (.done ((.v (.bool (false))), []))) (.br (inRange x1 (List.length x0)) (.br (decide ((↑(UInt8.toNat (List.getD x0 (Int.toNat x1) 0)) : Int) = 92)) (.ok (.done ((.v (.bool (false))), []))) (.ok (.head 0 (S_letters_0 (x0) (w6 (x1 + 1)))))) .bad)) .bad)) .bad)) .bad) (.ok (.done ((.v (.bool (decide ((↑(List.length x0) : Int) ≤ 20)))), [])))) r) : Rea cfgS (tcOf (T0)) 162 (.ok (.head 0 (S_letters_0 x0 x1))) r :=
  rea_head (.b (.b (.b (.t (.t (.t (.t (.t (.t (.t (.t (.t (.t (.t (.t (.t (.t (.t .a))))))))))))))) (.f (.f (.b (.f (.b (.t (.t (.t (.t (.t (.t (.t (.t (.t (.t .a)))))))))) (.f (.f (.b (.f (.b (.t (.t (.t (.t (.t .a))))) (.f (.f (.b (.f .a) .a))))) .a))))) .a)))) .a) .a) (by kernel_rfl) h
def S_rW_0 (x0 : Int) (x1 : Int) (x2 : Int) (x3 : Int) (x4 : Int) (x5 : List UInt8) (x6 : List AV) : St := ⟨[(1, (.v (.int .i64 x0))), (2, (.v (.int .i64 x1))), (3, (.loc 3 0)), (7, (.v (.int .i64 x2)))], [(3, [(.v (.int .i64 x3)), (.v (.int .i64 x4)), (.v (.str x5)), (.v (.list x6))])], [], [], .false, []⟩
theorem e_rW (b : Nat) (k : Int) (n : Int) (s : List UInt8) (l : List V) (m : Int) (d : Int) {r : Res (Slot × Heap)} (h : Rea cfgS (tcOf (T_rW b)) 107 (.br (decide (m < 1)) (.ok (.done ((.v (.int .i64 (-1))), []))) (.br (decide (d < 1)) (.ok (.done ((.v (.int .i64 (-1))), []))) (.ok (.head 0 (S_rW_0 (w6 (m - 1)) (d) (0) (k) (n) (s) (encVs l)))))) r) : Rea cfgS (tcOf (T_rW b)) 107 (tFun cfgS (tcOf (T_rW b)) 107 [encV (V.mk k n s l), AV.int .i64 m, AV.int .i64 d] []) r :=
  rea_cut (.b (.t (.t (.t .a))) (.f .a)) _ (by kernel_rfl) h
theorem h_rW_0 (b : Nat) (x0 : Int) (x1 : Int) (x2 : Int) (x3 : Int) (x4 : Int) (x5 : List UInt8) (x6 : List AV) {r : Res (Slot × Heap)} (h : Rea cfgS (tcOf (T_rW b)) 107 (.br (decide (x2 < (↑(List.length x6) : Int))) (.br (decide (0 ≤ x0)) (.br (inRange x2 (List.length x6)) (.br (shapeB (gA x6 x2) shV) (.br (noRefs [(rx (gA x6 x2) shV), (.int .i64 (x0)), (.int .i64 (w6 (x1 - 1)))]) (.br (decide (muV 107 [rx (gA x6 x2) shV, AV.int .i64 x0, AV.int .i64 (w6 (x1 - 1))] < b)) (.br (isV (rx (gA x6 x2) shV)) (.ok (.head 0 (S_rW_0 (V.rw (vOf (rx (gA x6 x2) shV)) x0 (w6 (x1 - 1))) (x1) (w6 (x2 + 1)) (x3) (x4) (x5) (x6)))) .bad) .bad) .bad) .bad) .bad) (.ok (.done ((.v (.int .i64 (x0))), [])))) (.ok (.done ((.v (.int .i64 (x0))), [])))) r) : Rea cfgS (tcOf (T_rW b)) 107 (.ok (.head 0 (S_rW_0 x0 x1 x2 x3 x4 x5 x6))) r :=
  rea_head (.b (.t (.b (.b (.b (.b (.b (.b (.t .a) .a) .a) .a) .a) .a) .a)) (.f (.f (.f .a)))) (by kernel_rfl) h
def S_brief_0 (x0 : Int) (x1 : Int) (x2 : Int) (x3 : List UInt8) (x4 : List AV) : St := ⟨[(1, (.loc 1 0)), (3, (.v (.int .i64 x0)))], [(1, [(.v (.int .i64 x1)), (.v (.int .i64 x2)), (.v (.str x3)), (.v (.list x4))])], [], [], .false, []⟩
theorem e_brief (b : Nat) (k : Int) (n : Int) (s : List UInt8) (l : List V) {r : Res (Slot × Heap)} (h : Rea cfgS (tcOf (T_brief b)) 108 (.ok (.head 0 (S_brief_0 (0) (k) (n) (s) (encVs l)))) r) : Rea cfgS (tcOf (T_brief b)) 108 (tFun cfgS (tcOf (T_brief b)) 108 [encV (V.mk k n s l)] []) r :=
  rea_cut .a _ (by kernel_rfl) h
theorem h_brief_0 (b : Nat) (x0 : Int) (x1 : Int) (x2 : Int) (x3 : List UInt8) (x4 : List AV) {r : Res (Slot × Heap)} (h : Rea cfgS (tcOf (T_brief b)) 108 (.br (decide (x0 < (↑(List.length x4) : Int))) (.br (inRange x0 (List.length x4)) (.br (shapeB (gA x4 x0) shV) (.br (noRefs [(rx (gA x4 x0) shV)]) (.br (decide (muV 108 [rx (gA x4 x0) shV] < b)) (.br (isV (rx (gA x4 x0) shV)) (.br (!V.brief (vOf (rx (gA x4 x0) shV))) (.ok (.done ((.v (.bool (false))), []))) (.ok (.head 0 (S_brief_0 (w6 (x0 + 1)) (x1) (x2) (x3) (x4))))) .bad) .bad) .bad) .bad) .bad) (.ok (.done ((.v (.bool (decide ((↑(List.length x3) : Int) ≤ 30)))), [])))) r) : Rea cfgS (tcOf (T_brief b)) 108 (.ok (.head 0 (S_brief_0 x0 x1 x2 x3 x4))) r :=
  rea_head (.b (.b (.b (.b (.b (.b (.t .a) .a) .a) .a) .a) .a) .a) (by kernel_rfl) h
def S_rcmp_0 (x0 : Int) (x1 : Int) (x2 : Int) (x3 : List UInt8) (x4 : List AV) (x5 : Int) (x6 : Int) (x7 : List UInt8) (x8 : List AV) : St := ⟨[(2, (.loc 2 0)), (3, (.loc 3 0)), (5, (.v (.int .i64 x0)))], [(2, [(.v (.int .i64 x1)), (.v (.int .i64 x2)), (.v (.str x3)), (.v (.list x4))]), (3, [(.v (.int .i64 x5)), (.v (.int .i64 x6)), (.v (.str x7)), (.v (.list x8))])], [], [], .false, []⟩
theorem e_rcmp (b : Nat) (k : Int) (n : Int) (s : List UInt8) (l : List V) (k2 : Int) (n2 : Int) (s2 : List UInt8) (l2 : List V) {r : Res (Slot × Heap)} (h : Rea cfgS (tcOf (T_rcmp b)) 101 (.br (!decide (k = k2)) (.ok (.done ((.v (.int .i64 (cmpI k k2))), []))) (.br (decide (k = 3)) (.br (s == s2) (.ok (.done ((.v (.int .i64 (0))), []))) (.br (Op.bytesLess s s2) (.ok (.done ((.v (.int .i64 (-1))), []))) (.ok (.done ((.v (.int .i64 (1))), []))))) (.br (decide (k = 1)) (.ok (.done ((.v (.int .i64 (w6 (cmpI n n2 + cmpI (↑(List.length (encVs l)) : Int) (↑(List.length (encVs l2)) : Int))))), []))) (.br (decide (k = 2)) (.ok (.done ((.v (.int .i64 (w6 (cmpI n n2 + cmpI (↑(List.length (encVs l)) : Int) (↑(List.length (encVs l2)) : Int))))), []))) (.br (!decide ((↑(List.length (encVs l)) : Int) = (↑(List.length (encVs l2)) : Int))) (.ok (.done ((.v (.int .i64 (w6 (cmpI n n2 + cmpI (↑(List.length (encVs l)) : Int) (↑(List.length (encVs l2)) : Int))))), []))) (.ok (.head 0 (S_rcmp_0 (0) (k) (n) (s) (encVs l) (k2) (n2) (s2) (encVs l2))))))))) r) : Rea cfgS (tcOf (T_rcmp b)) 101 (tFun cfgS (tcOf (T_rcmp b)) 101 [encV (V.mk k n s l), encV (V.mk k2 n2 s2 l2)] []) r :=
  rea_cut (.b (.t (.t .a)) (.b .a (.b (.t (.t (.t (.t (.t (.t (.t (.t (.t (.t (.t (.t (.t (.t (.t (.t (.t (.t .a)))))))))))))))))) (.f (.f (.b (.t (.t (.t (.t (.t (.t (.t (.t (.t (.t (.t (.t (.t (.t .a)))))))))))))) (.f (.f (.f (.f (.f (.f (.b (.t (.t (.t (.t (.t (.t .a)))))) .a))))))))))))) _ (by kernel_rfl) h
theorem h_rcmp_0 (b : Nat) (x0 : Int) (x1 : Int) (x2 : Int) (x3 : List UInt8) (x4 : List AV) (x5 : Int) (x6 : Int) (x7 : List UInt8) (x8 : List AV) {r : Res (Slot × Heap)} (h : Rea cfgS (tcOf (T_rcmp b)) 101 (.br (decide (x0 < (↑(List.length x4) : Int))) (.br (inRange x0 (List.length x4)) (.br (shapeB (gA x4 x0) shV) (.br (inRange x0 (List.length x8)) (.br (shapeB (gA x8 x0) shV) (.br (noRefs [(rx (gA x4 x0) shV), (rx (gA x8 x0) shV)]) (.br (noRefs [(rx (gA x4 x0) shV), (rx (gA x8 x0) shV)]) (.br (decide (muV 101 [rx (gA x4 x0) shV, rx (gA x8 x0) shV] < b)) (.br (isV (rx (gA x4 x0) shV)) (.br (isV (rx (gA x8 x0) shV)) (.br (!decide (V.rcmp (vOf (rx (gA x4 x0) shV)) (vOf (rx (gA x8 x0) shV)) = 0)) (.ok (.done ((.v (.int .i64 (V.rcmp (vOf (rx (gA x4 x0) shV)) (vOf (rx (gA x8 x0) shV))))), []))) (.ok (.head 0 (S_rcmp_0 (w6 (x0 + 1)) (x1) (x2) (x3) (x4) (x5) (x6) (x7) (x8))))) .bad) .bad) .bad) .bad) .bad) .bad) .bad) .bad) .bad) (.ok (.done ((.v (.int .i64 (0))), [])))) r) : Rea cfgS (tcOf (T_rcmp b)) 101 (.ok (.head 0 (S_rcmp_0 x0 x1 x2 x3 x4 x5 x6 x7 x8))) r :=
  rea_head (.b (.b (.b (.b (.b (.b (.b (.b (.b (.b (.t .a) .a) .a) .a) .a) .a) .a) .a) .a) .a) .a) (by kernel_rfl) h

theorem spec_rin : SpecOK Tryz.prog 161 (valF S_in) := val3 (C := cfgS) progOK T0_ok fun x y z r _ _ _ h => by
  cases h
  refine ⟨rfl, [], e_rin _ _ _ ?_⟩
  simp only [reach_br]
  cases h1 : decide (y ≤ x) <;> simp [reach_ok]
theorem spec_order : SpecOK Tryz.prog 154 (valF S_order) := val2 (C := cfgS) progOK T0_ok fun x y r _ _ h => by
  cases h
  refine ⟨rfl, [], e_order _ _ ?_⟩
  simp only [reach_br, cmpI]
  cases h1 : decide (x < y) <;> cases h2 : decide (y < x) <;> simp [reach_ok]
theorem loop_letters (s : List UInt8) (hs : s.length ≤ big40) : ∀ (d pos : Nat), s.length - pos = d → pos ≤ s.length →
    Rea cfgS (tcOf T0) 162 (.ok (.head 0 (S_letters_0 s pos))) (.ok (.v (.bool ((s.drop pos).all okByte && decide (s.length ≤ 20))), []))
  | 0, pos, hd, hp => by
    refine h_letters_0 _ _ ?_
    have e : pos = s.length := by omega
    subst e
    simp [reach_br, reach_ok]
    omega
  | d + 1, pos, hd, hp => by
    refine h_letters_0 _ _ ?_
    have hlt : pos < s.length := by omega
    have hdrop : s.drop pos = s[pos] :: s.drop (pos + 1) := List.drop_eq_getElem_cons hlt
    have hget : s.getD (Int.toNat (pos : Int)) 0 = s[pos] := by simp [List.getD, hlt]
    have hl : ((pos : Nat) : Int) < (s.length : Nat) := by omega
    have hr : inRange (pos : Int) s.length = true := inR (Int.natCast_nonneg _) hl
    have hi : w6 ((pos : Int) + 1) = ((pos + 1 : Nat) : Int) := by
      rw [w6_id] <;> simp [big40] at * <;> omega
    have ih := loop_letters s hs d (pos + 1) (by omega) hlt
    rw [hdrop, List.all_cons]
    simp only [reach_br, reach_ok, hl, hr, hget, hi, decide_true, if_true]
    by_cases h1 : s[pos].toNat < 32
    · have : (s[pos].toNat : Int) < 32 := by omega
      have hno : okByte s[pos] = false := by simp [okByte]; omega
      simp [this, hno]
    by_cases h2 : 126 < s[pos].toNat
    · have : (126 : Int) < s[pos].toNat := by omega
      have h2' : ¬ s[pos].toNat ≤ 126 := by omega
      simp [this, okByte, h2']
    by_cases h3 : s[pos].toNat = 34
    · simp [okByte, h3]
    by_cases h4 : s[pos].toNat = 92
    · simp [okByte, h4]
    have g1 : ¬ (s[pos].toNat : Int) < 32 := by omega
    have g2 : ¬ (126 : Int) < s[pos].toNat := by omega
    have g3 : ¬ (s[pos].toNat : Int) = 34 := by omega
    have g4 : ¬ (s[pos].toNat : Int) = 92 := by omega
    have hok : okByte s[pos] = true := by
      simp [okByte, h3, h4]; omega
    simp only [g1, g2, g3, g4, decide_false, hok, Bool.true_and]
    simpa using ih
theorem spec_letters : SpecOK Tryz.prog 162 (valF S_letters) := val1 (C := cfgS) progOK T0_ok fun s r w h => by
  cases h
  refine ⟨rfl, [], e_letters _ ?_⟩
  have := loop_letters s w s.length 0 rfl (Nat.zero_le _)
  simpa [okText] using this
theorem loop_rW {b : Nat} {d k n : Int} {s : List UInt8} (l : List V) (hl : l.length ≤ big40) (hw : V.wfs l = true) (hb : V.sizes l < b) : ∀ (post pre : List V) (m : Int), pre ++ post = l →
    Rea cfgS (tcOf (T_rW b)) 107 (.ok (.head 0 (S_rW_0 m d pre.length k n s (encVs l)))) (.ok (.v (.int .i64 (rws post m d)), []))
  | [], pre, m, e => by
    obtain ⟨rfl, h⟩ := at_end e
    refine h_rW_0 _ _ _ _ _ _ _ _ ?_
    simp [reach_br, reach_ok, rws]
  | p :: post, pre, m, e => by
    have a := at_p e hl hw
    have ih := loop_rW (b := b) (d := d) (k := k) (n := n) (s := s) l hl hw hb post (pre ++ [p])
    refine h_rW_0 _ _ _ _ _ _ _ _ ?_
    have hs : p.size < b := by have := a.sz; omega
    simp only [reach_br, a.g, shV, shape_enc, rx_enc, a.lt, decide_true, encVs_len, a.r, noRefs, noRef, noRef_encV, muV, vOf_enc, isV_enc, a.wf, hs, a.i, if_true, reach_ok, rws]
    cases hq : decide (0 ≤ m) with
    | true => simpa using ih _ a.e
    | false => simp
theorem spec_rW : SpecOK Tryz.prog 107 (valF S_rW) := by
  refine val_group (C := cfgS) progOK T0_ok L_rW muV (fun p hp xs r hr => ?_) rfl
  simp only [L_rW, List.mem_cons, List.not_mem_nil, or_false] at hp
  subst hp
  obtain ⟨v, ys, rfl, w1, hr⟩ := spec_cons hr
  obtain ⟨m, ys, rfl, -, hr⟩ := spec_cons hr
  obtain ⟨d, ys, rfl, -, hr⟩ := spec_cons hr
  obtain ⟨rfl, hr⟩ := spec_nil hr
  cases hr
  obtain ⟨k, n, s, l⟩ := v
  obtain ⟨-, hl, hw, -⟩ := wf_parts w1
  refine ⟨by simp [noRefs, noRef, noRef_encV], rfl, [], e_rW _ _ _ _ _ _ _ ?_⟩
  have := loop_rW (b := muV 107 [encV (V.mk k n s l), AV.int .i64 m, AV.int .i64 d]) (d := d) (k := k) (n := n) (s := s) l hl hw (by simp [muV, V.size]) l [] (w6 (m - 1)) rfl
  simp only [List.length_nil, Int.ofNat_zero] at this
  simp only [V.rw, reach_br, reach_ok]
  cases h1 : decide (m < 1) <;> cases h2 : decide (d < 1) <;> simp [this]
theorem loop_brief {b : Nat} {k n : Int} {s : List UInt8} (l : List V) (hl : l.length ≤ big40) (hw : V.wfs l = true) (hb : V.sizes l < b) : ∀ (post pre : List V), pre ++ post = l →
    Rea cfgS (tcOf (T_brief b)) 108 (.ok (.head 0 (S_brief_0 pre.length k n s (encVs l)))) (.ok (.v (.bool (briefs post && decide ((s.length : Int) ≤ 30))), []))
  | [], pre, e => by
    obtain ⟨rfl, h⟩ := at_end e
    refine h_brief_0 _ _ _ _ _ _ ?_
    simp [reach_br, reach_ok, briefs]
  | p :: post, pre, e => by
    have a := at_p e hl hw
    have ih := loop_brief (b := b) (k := k) (n := n) (s := s) l hl hw hb post (pre ++ [p]) a.e
    refine h_brief_0 _ _ _ _ _ _ ?_
    have hs : p.size < b := by have := a.sz; omega
    simp only [reach_br, a.g, shV, shape_enc, rx_enc, a.lt, decide_true, encVs_len, a.r, noRefs, noRef_encV, muV, vOf_enc, isV_enc, a.wf, hs, a.i, if_true, reach_ok, briefs]
    cases hq : p.brief with
    | true => simpa using ih
    | false => simp
theorem spec_brief : SpecOK Tryz.prog 108 (valF S_brief) := by
  refine val_group (C := cfgS) progOK T0_ok L_brief muV (fun p hp xs r hr => ?_) rfl
  simp only [L_brief, List.mem_cons, List.not_mem_nil, or_false] at hp
  subst hp
  obtain ⟨v, ys, rfl, w1, hr⟩ := spec_cons hr
  obtain ⟨rfl, hr⟩ := spec_nil hr
  cases hr
  obtain ⟨k, n, s, l⟩ := v
  obtain ⟨-, hl, hw, -⟩ := wf_parts w1
  refine ⟨by simp [noRefs, noRef_encV], rfl, [], e_brief _ _ _ _ _ ?_⟩
  have := loop_brief (b := muV 108 [encV (V.mk k n s l)]) (k := k) (n := n) (s := s) l hl hw (by simp [muV, V.size]) l [] rfl
  simpa [V.brief] using this
theorem loop_rcmp {b : Nat} {k n k2 n2 : Int} {s s2 : List UInt8} (l l2 : List V) (hl : l.length ≤ big40) (hw : V.wfs l = true) (hl2 : l2.length ≤ big40) (hw2 : V.wfs l2 = true) (hb : V.sizes l < b) (he : l.length = l2.length) : ∀ (post pre post2 pre2 : List V), pre ++ post = l → pre2 ++ post2 = l2 → pre.length = pre2.length →
    Rea cfgS (tcOf (T_rcmp b)) 101 (.ok (.head 0 (S_rcmp_0 pre.length k n s (encVs l) k2 n2 s2 (encVs l2)))) (.ok (.v (.int .i64 (rcmps post post2)), []))
  | [], pre, post2, pre2, e, e2, en => by
    obtain ⟨rfl, h⟩ := at_end e
    refine h_rcmp_0 _ _ _ _ _ _ _ _ _ _ ?_
    simp [reach_br, reach_ok, rcmps]
  | p :: post, pre, [], pre2, e, e2, en => by
    exfalso
    have := congrArg List.length e
    have := congrArg List.length e2
    simp at *
    omega
  | p :: post, pre, q :: post2, pre2, e, e2, en => by
    have a := at_p e hl hw
    have c := at_p e2 hl2 hw2
    have cg := c.g
    have cr := c.r
    rw [← en] at cg cr
    have ih := loop_rcmp (b := b) (k := k) (n := n) (s := s) (k2 := k2) (n2 := n2) (s2 := s2) l l2 hl hw hl2 hw2 hb he post (pre ++ [p]) post2 (pre2 ++ [q]) a.e c.e (by simp [en])
    refine h_rcmp_0 _ _ _ _ _ _ _ _ _ _ ?_
    have hs : p.size < b := by have := a.sz; omega
    simp only [reach_br, a.g, cg, shV, shape_enc, rx_enc, a.lt, decide_true, encVs_len, a.r, cr, noRefs, noRef_encV, muV, vOf_enc, isV_enc, a.wf, c.wf, hs, a.i, if_true, reach_ok, rcmps]
    by_cases hq : p.rcmp q = 0
    · simpa [hq] using ih
    · simp [hq]
theorem spec_rcmp : SpecOK Tryz.prog 101 (valF S_rcmp) := by
  refine val_group (C := cfgS) progOK (T0_ok.with spec_order) L_rcmp muV (fun p hp xs r hr => ?_) rfl
  simp only [L_rcmp, List.mem_cons, List.not_mem_nil, or_false] at hp
  subst hp
  obtain ⟨v, ys, rfl, w1, hr⟩ := spec_cons hr
  obtain ⟨v2, ys, rfl, w2, hr⟩ := spec_cons hr
  obtain ⟨rfl, hr⟩ := spec_nil hr
  cases hr
  obtain ⟨k, n, s, l⟩ := v
  obtain ⟨k2, n2, s2, l2⟩ := v2
  obtain ⟨-, hl, hw, -⟩ := wf_parts w1
  obtain ⟨-, hl2, hw2, -⟩ := wf_parts w2
  refine ⟨by simp [noRefs, noRef_encV], rfl, [], e_rcmp _ _ _ _ _ _ _ _ _ ?_⟩
  simp only [reach_br, reach_ok, V.rcmp, encVs_len, V.k_mk, V.n_mk, V.s_mk, V.ps_mk]
  by_cases h0 : k = k2
  · subst h0
    by_cases h3 : k = 3
    · subst h3
      cases h4 : s == s2 <;> cases h5 : Op.bytesLess s s2 <;> simp [cmpT, h4, h5]
    · by_cases h1 : k = 1
      · subst h1
        simp
      · by_cases h2 : k = 2
        · subst h2
          simp
        · by_cases he : l.length = l2.length
          · have := loop_rcmp (b := muV 101 [encV (V.mk k n s l), encV (V.mk k n2 s2 l2)]) (k := k) (n := n) (s := s) (k2 := k) (n2 := n2) (s2 := s2) l l2 hl hw hl2 hw2 (by simp [muV, V.size]) he l [] l2 [] rfl rfl rfl
            simpa [h1, h2, h3, he] using this
          · have he' : ¬ ((l.length : Nat) : Int) = (l2.length : Nat) := by omega
            simp [h1, h2, h3, he']
  · simp [h0]
end Go.Proofs
/-! The document's functions of values: forms, equality, parts. -/
set_option maxRecDepth 100000
namespace Go.Proofs
open Go.Sw Go

noncomputable def S_rsh : PSpec := spec [arV] fun v => retB v.rshaped
noncomputable def L_rsh : List (Nat × PSpec) := [(109, S_rsh)]
noncomputable def B_rsh : Specs := T0.with (T0.with (T0.with T0 161 (valF S_in)) 162 (valF S_letters)) 101 (valF S_rcmp)
noncomputable def T_rsh (b : Nat) : Specs := Tg B_rsh L_rsh muV b
noncomputable def S_small : PSpec := spec [arV] fun v => retB v.rsmall
noncomputable def T_small : Specs := T0.with (T0.with T0 107 (valF S_rW)) 108 (valF S_brief)
noncomputable def S_rvalid : PSpec := spec [arV] fun v => retB v.rvalid
noncomputable def T_rvalid : Specs := T0.with (T0.with T0 107 (valF S_rW)) 109 (valF S_rsh)
noncomputable def S_isSet : PSpec := spec [arV] fun v => retB (decide (v.k = 5))
noncomputable def S_has : PSpec := spec [arV, arV] fun s v => retB (rhas s.ps v)
noncomputable def T_has : Specs := T0.with T0 101 (valF S_rcmp)
noncomputable def S_eq : PSpec := spec [arV, arV] fun a b => retB (a.req b)
noncomputable def S_lists : PSpec := spec [arVs, arVs] fun a b => retB (reqs a b)
def muE (f : Nat) (xs : List AV) : Nat := match xs with
  | [.list l, _] => 2 * V.sizes (vsOf l) + 1
  | [a, _] => 2 * (vOf a).size
  | _ => 0
noncomputable def L_eq : List (Nat × PSpec) := [(24, S_eq), (32, S_lists)]
noncomputable def T_eq (b : Nat) : Specs := Tg T0 L_eq muE b
def S_rsh_0 (x0 : Int) (x1 : Int) (x2 : Int) (x3 : List UInt8) (x4 : List AV) : St := ⟨[(1, (.loc 1 0)), (3, (.v (.int .i64 x0)))], [(1, [(.v (.int .i64 x1)), (.v (.int .i64 x2)), (.v (.str x3)), (.v (.list x4))])], [], [], .false, []⟩
def S_rsh_1 (x0 : Int) (x1 : Int) (x2 : Int) (x3 : List UInt8) (x4 : List AV) : St := ⟨[(1, (.loc 1 0)), (4, (.v (.int .i64 x0)))], [(1, [(.v (.int .i64 x1)), (.v (.int .i64 x2)), (.v (.str x3)), (.v (.list x4))])], [], [], .false, []⟩
theorem e_rsh (b : Nat) (k : Int) (n : Int) (s : List UInt8) (l : List V) {r : Res (Slot × Heap)} (h : Rea cfgS (tcOf (T_rsh b)) 109 (.ok (.head 0 (S_rsh_0 (0) (k) (n) (s) (encVs l)))) r) : Rea cfgS (tcOf (T_rsh b)) 109 (tFun cfgS (tcOf (T_rsh b)) 109 [encV (V.mk k n s l)] []) r :=
  rea_cut .a _ (by kernel_rfl) h
theorem h_rsh_0 (b : Nat) (x0 : Int) (x1 : Int) (x2 : Int) (x3 : List UInt8) (x4 : List AV) {r : Res (Slot × Heap)} (h : Rea cfgS (tcOf (T_rsh b)) 109 (.br (decide (x0 < (↑(List.length x4) : Int))) (.br (inRange x0 (List.length x4)) (.br (shapeB (gA x4 x0) shV) (.br (noRefs [(rx (gA x4 x0) shV)]) (.br (decide (muV 109 [rx (gA x4 x0) shV] < b)) (.br (isV (rx (gA x4 x0) shV)) (.br (!V.rshaped (vOf (rx (gA x4 x0) shV))) (.ok (.done ((.v (.bool (false))), []))) (.ok (.head 0 (S_rsh_0 (w6 (x0 + 1)) (x1) (x2) (x3) (x4))))) .bad) .bad) .bad) .bad) .bad) (.br (decide (x1 = 1)) (.br (decide (-1000000000 ≤ x2) && decide (x2 ≤ 1000000000)) (.br (x3 == []) (.ok (.done ((.v (.bool (decide ((↑(List.length x4) : Int) = 0)))), []))) (.ok (.done ((.v (.bool (false))), [])))) (.ok (.done ((.v (.bool (false))), [])))) (.br (decide (x1 = 2)) (.br (decide (0 ≤ x2) && decide (x2 ≤ 1)) (.br (x3 == []) (.ok (.done ((.v (.bool (decide ((↑(List.length x4) : Int) = 0)))), []))) (.ok (.done ((.v (.bool (false))), [])))) (.ok (.done ((.v (.bool (false))), [])))) (.br (decide (x1 = 3)) (.br (decide (x2 = 0)) (.br (decide (List.length x3 ≤ big40)) (.br (okText x3) (.ok (.done ((.v (.bool (decide ((↑(List.length x4) : Int) = 0)))), []))) (.ok (.done ((.v (.bool (false))), [])))) .bad) (.ok (.done ((.v (.bool (false))), [])))) (.br (decide (x1 = 4)) (.br (decide (x2 = 0)) (.br (x3 == []) (.ok (.done ((.v (.bool (decide (2 ≤ (↑(List.length x4) : Int)) && decide ((↑(List.length x4) : Int) ≤ 6)))), []))) (.ok (.done ((.v (.bool (false))), [])))) (.ok (.done ((.v (.bool (false))), [])))) (.br (decide (x1 = 5)) (.ok (.head 3 (S_rsh_1 (1) (x1) (x2) (x3) (x4)))) (.ok (.done ((.v (.bool (false))), []))))))))) r) : Rea cfgS (tcOf (T_rsh b)) 109 (.ok (.head 0 (S_rsh_0 x0 x1 x2 x3 x4))) r :=
  rea_head (.b (.b (.b (.b (.b (.b (.t .a) .a) .a) .a) .a) .a) (.b (.t (.t (.b (.t (.t (.b (.t (.t (.t .a))) (.f (.f (.f (.f .a))))))) (.f (.f (.f (.f (.f (.f (.f (.f .a))))))))))) (.b (.t (.t (.b (.t (.t (.b (.t (.t (.t .a))) (.f (.f (.f (.f .a))))))) (.f (.f (.f (.f (.f (.f (.f (.f .a))))))))))) (.b (.b (.t (.t (.t (.b (.t (.b (.t (.t (.t .a))) (.f (.f (.f (.f .a)))))) .a)))) (.f (.f (.f (.f (.f (.f (.f (.f .a))))))))) (.b (.b (.t (.t (.b (.t (.t (.t (.t (.t .a))))) (.f (.f (.f (.f .a))))))) (.f (.f (.f (.f (.f (.f (.f (.f .a))))))))) .a))))) (by kernel_rfl) h
theorem h_rsh_1 (b : Nat) (x0 : Int) (x1 : Int) (x2 : Int) (x3 : List UInt8) (x4 : List AV) {r : Res (Slot × Heap)} (h : Rea cfgS (tcOf (T_rsh b)) 109 (.br (decide (x0 < (↑(List.length x4) : Int))) (.br (inRange (w6 (x0 - 1)) (List.length x4)) (.br (shapeB (gA x4 (w6 (x0 - 1))) shV) (.br (inRange x0 (List.length x4)) (.br (shapeB (gA x4 x0) shV) (.br (noRefs [(rx (gA x4 (w6 (x0 - 1))) shV), (rx (gA x4 x0) shV)]) (.br (noRefs [(rx (gA x4 (w6 (x0 - 1))) shV), (rx (gA x4 x0) shV)]) (.br (isV (rx (gA x4 (w6 (x0 - 1))) shV)) (.br (isV (rx (gA x4 x0) shV)) (.br (decide (0 ≤ V.rcmp (vOf (rx (gA x4 (w6 (x0 - 1))) shV)) (vOf (rx (gA x4 x0) shV)))) (.ok (.done ((.v (.bool (false))), []))) (.ok (.head 3 (S_rsh_1 (w6 (x0 + 1)) (x1) (x2) (x3) (x4))))) .bad) .bad) .bad) .bad) .bad) .bad) .bad) .bad) (.br (decide (x2 = 0)) (.ok (.done ((.v (.bool (x3 == []))), []))) (.ok (.done ((.v (.bool (false))), []))))) r) : Rea cfgS (tcOf (T_rsh b)) 109 (.ok (.head 3 (S_rsh_1 x0 x1 x2 x3 x4))) r :=
  rea_head (.b (.b (.b (.b (.b (.b (.b (.b (.b (.t .a) .a) .a) .a) .a) .a) .a) .a) .a) (.b (.t (.t .a)) (.f (.f (.f .a))))) (by kernel_rfl) h
theorem e_small (k : Int) (n : Int) (s : List UInt8) (l : List V) {r : Res (Slot × Heap)} (h : Rea cfgS (tcOf (T_small)) 48 (.br (noRefs [(encV (V.mk k n s l)), (.int .i64 (260)), (.int .i64 (12))]) (.br (isV (encV (V.mk k n s l))) (.br (decide (0 ≤ V.rw (vOf (encV (V.mk k n s l))) 260 12)) (.br (noRefs [(encV (V.mk k n s l))]) (.br (isV (encV (V.mk k n s l))) (.ok (.done ((.v (.bool (V.brief (vOf (encV (V.mk k n s l)))))), []))) .bad) .bad) (.ok (.done ((.v (.bool (false))), [])))) .bad) .bad) r) : Rea cfgS (tcOf (T_small)) 48 (tFun cfgS (tcOf (T_small)) 48 [encV (V.mk k n s l)] []) r :=
  rea_cut (.b (.b (.t (.b (.t (.b (.b (.t .a) .a) .a)) (.f (.f .a)))) .a) .a) _ (by kernel_rfl) h
theorem e_rvalid (k : Int) (n : Int) (s : List UInt8) (l : List V) {r : Res (Slot × Heap)} (h : Rea cfgS (tcOf (T_rvalid)) 49 (.br (noRefs [(encV (V.mk k n s l)), (.int .i64 (200)), (.int .i64 (8))]) (.br (isV (encV (V.mk k n s l))) (.br (decide (0 ≤ V.rw (vOf (encV (V.mk k n s l))) 200 8)) (.br (noRefs [(encV (V.mk k n s l))]) (.br (isV (encV (V.mk k n s l))) (.ok (.done ((.v (.bool (V.rshaped (vOf (encV (V.mk k n s l)))))), []))) .bad) .bad) (.ok (.done ((.v (.bool (false))), [])))) .bad) .bad) r) : Rea cfgS (tcOf (T_rvalid)) 49 (tFun cfgS (tcOf (T_rvalid)) 49 [encV (V.mk k n s l)] []) r :=
  rea_cut (.b (.b (.t (.b (.t (.b (.b (.t .a) .a) .a)) (.f (.f .a)))) .a) .a) _ (by kernel_rfl) h
theorem e_isSet (k : Int) (n : Int) (s : List UInt8) (l : List V) {r : Res (Slot × Heap)} (h : Rea cfgS (tcOf (T0)) 52 (.ok (.done ((.v (.bool (decide (k = 5)))), []))) r) : Rea cfgS (tcOf (T0)) 52 (tFun cfgS (tcOf (T0)) 52 [encV (V.mk k n s l)] []) r :=
  rea_cut .a _ (by kernel_rfl) h
def S_has_0 (x0 : Int) (x1 : Int) (x2 : Int) (x3 : List UInt8) (x4 : List AV) (x5 : Int) (x6 : Int) (x7 : List UInt8) (x8 : List AV) : St := ⟨[(2, (.loc 2 0)), (3, (.loc 3 0)), (5, (.v (.int .i64 x0)))], [(2, [(.v (.int .i64 x1)), (.v (.int .i64 x2)), (.v (.str x3)), (.v (.list x4))]), (3, [(.v (.int .i64 x5)), (.v (.int .i64 x6)), (.v (.str x7)), (.v (.list x8))])], [], [], .false, []⟩
theorem e_has (k : Int) (n : Int) (s : List UInt8) (l : List V) (k2 : Int) (n2 : Int) (s2 : List UInt8) (l2 : List V) {r : Res (Slot × Heap)} (h : Rea cfgS (tcOf (T_has)) 54 (.ok (.head 0 (S_has_0 (0) (k) (n) (s) (encVs l) (k2) (n2) (s2) (encVs l2)))) r) : Rea cfgS (tcOf (T_has)) 54 (tFun cfgS (tcOf (T_has)) 54 [encV (V.mk k n s l), encV (V.mk k2 n2 s2 l2)] []) r :=
  rea_cut .a _ (by kernel_rfl) h
theorem h_has_0 (x0 : Int) (x1 : Int) (x2 : Int) (x3 : List UInt8) (x4 : List AV) (x5 : Int) (x6 : Int) (x7 : List UInt8) (x8 : List AV) {r : Res (Slot × Heap)} (h : Rea cfgS (tcOf (T_has)) 54 (.br (decide (x0 < (↑(List.length x4) : Int))) (.br (inRange x0 (List.length x4)) (.br (shapeB (gA x4 x0) shV) (.br (noRefs [(rx (gA x4 x0) shV), (.agg [(.int .i64 (x5)), (.int .i64 (x6)), (.str (x7)), (.list (x8))])]) (.br (noRefs [(rx (gA x4 x0) shV), (.agg [(.int .i64 (x5)), (.int .i64 (x6)), (.str (x7)), (.list (x8))])]) (.br (isV (rx (gA x4 x0) shV)) (.br (isV (AV.agg [AV.int .i64 x5, AV.int .i64 x6, AV.str x7, AV.list x8])) (.br (decide (V.rcmp (vOf (rx (gA x4 x0) shV)) (vOf (AV.agg [AV.int .i64 x5, AV.int .i64 x6, AV.str x7, AV.list x8])) = 0)) (.ok (.done ((.v (.bool (true))), []))) (.ok (.head 0 (S_has_0 (w6 (x0 + 1)) (x1) (x2) (x3) (x4) (x5) (x6) (x7) (x8))))) .bad) .bad) .bad) .bad) .bad) .bad) (.ok (.done ((.v (.bool (false))), [])))) r) : Rea cfgS (tcOf (T_has)) 54 (.ok (.head 0 (S_has_0 x0 x1 x2 x3 x4 x5 x6 x7 x8))) r :=
  rea_head (.b (.b (.b (.b (.b (.b (.b (.t .a) .a) .a) .a) .a) .a) .a) .a) (by kernel_rfl) h
theorem e_eq (b : Nat) (k : Int) (n : Int) (s : List UInt8) (l : List V) (k2 : Int) (n2 : Int) (s2 : List UInt8) (l2 : List V) {r : Res (Slot × Heap)} (h : Rea cfgS (tcOf (T_eq b)) 24 (.br (!decide (k = k2)) (.ok (.done ((.v (.bool (false))), []))) (.br (!decide (n = n2)) (.ok (.done ((.v (.bool (false))), []))) (.br (!s == s2) (.ok (.done ((.v (.bool (false))), []))) (.br (noRefs [(.list (encVs l)), (.list (encVs l2))]) (.br (decide (muE 32 [AV.list (encVs l), AV.list (encVs l2)] < b)) (.br (isVs (encVs l)) (.br (isVs (encVs l2)) (.ok (.done ((.v (.bool (reqs (vsOf (encVs l)) (vsOf (encVs l2))))), []))) .bad) .bad) .bad) .bad)))) r) : Rea cfgS (tcOf (T_eq b)) 24 (tFun cfgS (tcOf (T_eq b)) 24 [encV (V.mk k n s l), encV (V.mk k2 n2 s2 l2)] []) r :=
  rea_cut (.b (.t (.t (.t (.t (.t (.t (.t (.t (.t (.t (.t (.t .a)))))))))))) (.f (.f (.f (.f (.b (.t (.t (.t (.t (.t (.t .a)))))) (.f (.f (.f (.f (.b .a (.b (.b (.b (.b (.t .a) .a) .a) .a) .a)))))))))))) _ (by kernel_rfl) h
def S_lists_0 (x0 : List AV) (x1 : List AV) (x2 : Int) : St := ⟨[(0, (.v (.list x0))), (1, (.v (.list x1))), (5, (.v (.int .i64 x2)))], [], [], [], .false, []⟩
theorem e_lists (b : Nat) (l : List V) (l2 : List V) {r : Res (Slot × Heap)} (h : Rea cfgS (tcOf (T_eq b)) 32 (.br (!decide ((↑(List.length (encVs l)) : Int) = (↑(List.length (encVs l2)) : Int))) (.ok (.done ((.v (.bool (false))), []))) (.ok (.head 0 (S_lists_0 (encVs l) (encVs l2) (0))))) r) : Rea cfgS (tcOf (T_eq b)) 32 (tFun cfgS (tcOf (T_eq b)) 32 [AV.list (encVs l), AV.list (encVs l2)] []) r :=
  rea_cut .a _ (by kernel_rfl) h
theorem h_lists_0 (b : Nat) (x0 : List AV) (x1 : List AV) (x2 : Int) {r : Res (Slot × Heap)} (h : Rea cfgS (tcOf (T_eq b)) 32 (.br (decide (x2 < (↑(List.length x0) : Int))) (.br (inRange x2 (List.length x0)) (.br (shapeB (gA x0 x2) shV) (.br (inRange x2 (List.length x1)) (.br (shapeB (gA x1 x2) shV) (.br (noRefs [(rx (gA x0 x2) shV), (rx (gA x1 x2) shV)]) (.br (noRefs [(rx (gA x0 x2) shV), (rx (gA x1 x2) shV)]) (.br (decide (muE 24 [rx (gA x0 x2) shV, rx (gA x1 x2) shV] < b)) (.br (isV (rx (gA x0 x2) shV)) (.br (isV (rx (gA x1 x2) shV)) (.br (!V.req (vOf (rx (gA x0 x2) shV)) (vOf (rx (gA x1 x2) shV))) (.ok (.done ((.v (.bool (false))), []))) (.ok (.head 0 (S_lists_0 (x0) (x1) (w6 (x2 + 1)))))) .bad) .bad) .bad) .bad) .bad) .bad) .bad) .bad) .bad) (.ok (.done ((.v (.bool (true))), [])))) r) : Rea cfgS (tcOf (T_eq b)) 32 (.ok (.head 0 (S_lists_0 x0 x1 x2))) r :=
  rea_head (.b (.b (.b (.b (.b (.b (.b (.b (.b (.b (.t .a) .a) .a) .a) .a) .a) .a) .a) .a) .a) .a) (by kernel_rfl) h

theorem str0 (s : List UInt8) : (s == Array.toList (ByteArray.data (ByteArray.mk #[]))) = s.isEmpty := by
  show (s == []) = s.isEmpty
  cases s <;> rfl
theorem len0 (l : List V) : decide ((l.length : Int) = 0) = l.isEmpty := by
  cases l <;> simp <;> omega
theorem loop_rsh1 {b : Nat} {k n : Int} {s : List UInt8} (l : List V) (hl : l.length ≤ big40) (hw : V.wfs l = true) : ∀ (post pre : List V) (p : V), pre ++ p :: post = l →
    Rea cfgS (tcOf (T_rsh b)) 109 (.ok (.head 3 (S_rsh_1 ((pre.length : Int) + 1) k n s (encVs l)))) (.ok (.v (.bool (rincr (p :: post) && (decide (n = 0) && s.isEmpty))), []))
  | [], pre, p, e => by
    subst e
    refine h_rsh_1 _ _ _ _ _ _ ?_
    simp only [reach_br, reach_ok, rincr, str0, encVs_len]
    cases h0 : decide (n = 0) <;> simp
  | q :: post, pre, p, e => by
    have a := at_p e hl hw
    have c := at_p (pre := pre ++ [p]) (p := q) (post := post) (l := l) (by simpa using e) hl hw
    have e1 : (((pre ++ [p]).length : Nat) : Int) = (pre.length : Int) + 1 := by simp
    have cg := c.g
    have clt := c.lt
    have cr := c.r
    have ci := c.i
    rw [e1] at cg clt cr ci
    have hj : w6 ((pre.length : Int) + 1 - 1) = (pre.length : Nat) := by
      have := a.lt
      rw [w6_id] <;> simp [big40] at * <;> omega
    have e2 : (((pre ++ [p] ++ [q]).length : Nat) : Int) = ((pre ++ [p]).length : Nat) + 1 := by simp; omega
    have ih := loop_rsh1 (b := b) (k := k) (n := n) (s := s) l hl hw post (pre ++ [p]) q (by simpa using e)
    rw [e2] at ci
    refine h_rsh_1 _ _ _ _ _ _ ?_
    simp only [reach_br, hj, a.g, cg, shV, shape_enc, rx_enc, clt, decide_true, encVs_len, a.r, cr, noRefs, noRef_encV, vOf_enc, isV_enc, a.wf, c.wf, ci, if_true, reach_ok, rincr]
    cases hq : decide (0 ≤ p.rcmp q) with
    | true => simp
    | false => simpa using ih
theorem loop_rsh {b : Nat} {k n : Int} {s : List UInt8} (hs0 : s.length ≤ big40) (l : List V) (hl : l.length ≤ big40) (hw : V.wfs l = true) (hb : V.sizes l < b) : ∀ (post pre : List V), pre ++ post = l →
    Rea cfgS (tcOf (T_rsh b)) 109 (.ok (.head 0 (S_rsh_0 pre.length k n s (encVs l)))) (.ok (.v (.bool (rshapeds post && (
    bif decide (k = 1) then decide (-1000000000 ≤ n) && decide (n ≤ 1000000000) && s.isEmpty && l.isEmpty else
    bif decide (k = 2) then decide (0 ≤ n) && decide (n ≤ 1) && s.isEmpty && l.isEmpty else
    bif decide (k = 3) then decide (n = 0) && okText s && l.isEmpty else
    bif decide (k = 4) then decide (n = 0) && s.isEmpty && (decide ((2 : Int) ≤ l.length) && decide ((l.length : Int) ≤ 6)) else
    bif decide (k = 5) then rincr l && (decide (n = 0) && s.isEmpty) else false))), []))
  | [], pre, e => by
    obtain ⟨rfl, h⟩ := at_end e
    refine h_rsh_0 _ _ _ _ _ _ ?_
    simp only [reach_br, reach_ok, rshapeds, h, encVs_len, decide_false, str0, len0, hs0, decide_true, if_true]
    by_cases h1 : k = 1
    · simp only [h1, decide_true, if_true]
      cases h2 : (decide (-1000000000 ≤ n) && decide (n ≤ 1000000000)) <;> cases s <;> simp
    by_cases h2 : k = 2
    · simp only [h2, decide_true, if_true]
      cases h2 : (decide (0 ≤ n) && decide (n ≤ 1)) <;> cases s <;> simp
    by_cases h3 : k = 3
    · simp only [h3, decide_true, if_true]
      cases h2 : decide (n = 0) <;> cases h3 : okText s <;> simp
    by_cases h4 : k = 4
    · simp only [h4, decide_true, if_true]
      cases h2 : decide (n = 0) <;> cases s <;> simp
    by_cases h5 : k = 5
    · simp only [h5, decide_true]
      cases pre with
      | nil =>
        have := h_rsh_1 b 1 5 n s (encVs []) (r := .ok (.v (.bool (decide (n = 0) && s.isEmpty)), [])) (by
          simp only [reach_br, reach_ok, str0]
          cases h2 : decide (n = 0) <;> simp [encVs])
        simpa [rincr] using this
      | cons p post =>
        have := loop_rsh1 (b := b) (k := 5) (n := n) (s := s) (p :: post) hl hw post [] p rfl
        simpa using this
    simp [h1, h2, h3, h4, h5]
  | p :: post, pre, e => by
    have a := at_p e hl hw
    have ih := loop_rsh (b := b) (k := k) (n := n) (s := s) hs0 l hl hw hb post (pre ++ [p]) a.e
    refine h_rsh_0 _ _ _ _ _ _ ?_
    have hs : p.size < b := by have := a.sz; omega
    simp only [reach_br, a.g, shV, shape_enc, rx_enc, a.lt, decide_true, encVs_len, a.r, noRefs, noRef_encV, muV, vOf_enc, isV_enc, a.wf, hs, a.i, if_true, reach_ok, rshapeds]
    cases hq : p.rshaped with
    | true => simpa using ih
    | false => simp
theorem spec_rsh : SpecOK Tryz.prog 109 (valF S_rsh) := by
  refine val_group (C := cfgS) progOK (((T0_ok.with spec_rin).with spec_letters).with spec_rcmp) L_rsh muV (fun p hp xs r hr => ?_) rfl
  simp only [L_rsh, List.mem_cons, List.not_mem_nil, or_false] at hp
  subst hp
  obtain ⟨v, ys, rfl, w1, hr⟩ := spec_cons hr
  obtain ⟨rfl, hr⟩ := spec_nil hr
  cases hr
  obtain ⟨k, n, s, l⟩ := v
  obtain ⟨hs, hl, hw, -⟩ := wf_parts w1
  refine ⟨by simp [noRefs, noRef_encV], rfl, [], e_rsh _ _ _ _ _ ?_⟩
  have := loop_rsh (b := muV 109 [encV (V.mk k n s l)]) (k := k) (n := n) (s := s) hs l hl hw (by simp [muV, V.size]) l [] rfl
  exact this
theorem spec_small : SpecOK Tryz.prog 48 (valF S_small) := val1 (C := cfgS) (T := T_small) progOK ((T0_ok.with spec_rW).with spec_brief) fun v r w h => by
  cases h
  obtain ⟨k, n, s, l⟩ := v
  have w : (V.mk k n s l).wf = true := w
  refine ⟨rfl, [], e_small _ _ _ _ ?_⟩
  simp only [reach_br, noRefs, noRef, noRef_encV, isV_enc, vOf_enc, w, reach_ok, if_true, V.rsmall]
  cases h1 : decide (0 ≤ (V.mk k n s l).rw 260 12) <;> simp
theorem spec_rvalid : SpecOK Tryz.prog 49 (valF S_rvalid) := val1 (C := cfgS) (T := T_rvalid) progOK ((T0_ok.with spec_rW).with spec_rsh) fun v r w h => by
  cases h
  obtain ⟨k, n, s, l⟩ := v
  have w : (V.mk k n s l).wf = true := w
  refine ⟨rfl, [], e_rvalid _ _ _ _ ?_⟩
  simp only [reach_br, noRefs, noRef, noRef_encV, isV_enc, vOf_enc, w, reach_ok, if_true, V.rvalid]
  cases h1 : decide (0 ≤ (V.mk k n s l).rw 200 8) <;> simp
theorem spec_isSet : SpecOK Tryz.prog 52 (valF S_isSet) := val1 (C := cfgS) progOK T0_ok fun v r w h => by
  cases h
  obtain ⟨k, n, s, l⟩ := v
  exact ⟨rfl, [], e_isSet _ _ _ _ (by simp [reach_ok]; rfl)⟩
theorem loop_has {k n : Int} {s : List UInt8} (v : V) (wv : v.wf = true) (l : List V) (hl : l.length ≤ big40) (hw : V.wfs l = true) : ∀ (post pre : List V), pre ++ post = l →
    Rea cfgS (tcOf T_has) 54 (.ok (.head 0 (S_has_0 pre.length k n s (encVs l) v.k v.n v.s (encVs v.ps)))) (.ok (.v (.bool (rhas post v)), []))
  | [], pre, e => by
    obtain ⟨rfl, h⟩ := at_end e
    refine h_has_0 _ _ _ _ _ _ _ _ _ ?_
    simp [reach_br, reach_ok, rhas]
  | p :: post, pre, e => by
    have a := at_p e hl hw
    have ih := loop_has (k := k) (n := n) (s := s) v wv l hl hw post (pre ++ [p]) a.e
    refine h_has_0 _ _ _ _ _ _ _ _ _ ?_
    have hv : AV.agg [AV.int .i64 v.k, AV.int .i64 v.n, AV.str v.s, AV.list (encVs v.ps)] = encV v := oV_eq v
    simp only [reach_br, hv, a.g, shV, shape_enc, rx_enc, a.lt, decide_true, encVs_len, a.r, noRefs, noRef_encV, vOf_enc, isV_enc, a.wf, wv, a.i, if_true, reach_ok]
    by_cases hq : p.rcmp v = 0
    · simp [hq, rhas]
    · simpa [hq, rhas] using ih
theorem spec_has : SpecOK Tryz.prog 54 (valF S_has) := val2 (C := cfgS) (T := T_has) progOK (T0_ok.with spec_rcmp) fun v v2 r w w2 h => by
  cases h
  obtain ⟨k, n, s, l⟩ := v
  obtain ⟨k2, n2, s2, l2⟩ := v2
  obtain ⟨-, hl, hw, -⟩ := wf_parts w
  exact ⟨rfl, [], e_has _ _ _ _ _ _ _ _ (loop_has (V.mk k2 n2 s2 l2) w2 l hl hw l [] rfl)⟩
theorem loop_lists {b : Nat} (l l2 : List V) (hl : l.length ≤ big40) (hw : V.wfs l = true) (hl2 : l2.length ≤ big40) (hw2 : V.wfs l2 = true) (hb : 2 * V.sizes l < b) (he : l.length = l2.length) : ∀ (post pre post2 pre2 : List V), pre ++ post = l → pre2 ++ post2 = l2 → pre.length = pre2.length →
    Rea cfgS (tcOf (T_eq b)) 32 (.ok (.head 0 (S_lists_0 (encVs l) (encVs l2) pre.length))) (.ok (.v (.bool (reqs post post2)), []))
  | [], pre, post2, pre2, e, e2, en => by
    obtain ⟨rfl, h⟩ := at_end e
    refine h_lists_0 _ _ _ _ ?_
    have : post2 = [] := by
      have := congrArg List.length e2
      simp at this
      exact List.eq_nil_of_length_eq_zero (by omega)
    subst this
    simp [reach_br, reach_ok, reqs]
  | p :: post, pre, [], pre2, e, e2, en => by
    exfalso
    have := congrArg List.length e
    have := congrArg List.length e2
    simp at *
    omega
  | p :: post, pre, q :: post2, pre2, e, e2, en => by
    have a := at_p e hl hw
    have c := at_p e2 hl2 hw2
    have cg := c.g
    have cr := c.r
    rw [← en] at cg cr
    have ih := loop_lists (b := b) l l2 hl hw hl2 hw2 hb he post (pre ++ [p]) post2 (pre2 ++ [q]) a.e c.e (by simp [en])
    refine h_lists_0 _ _ _ _ ?_
    have hs : 2 * p.size < b := by have := a.sz; omega
    simp only [reach_br, a.g, cg, shV, shape_enc, rx_enc, a.lt, decide_true, encVs_len, a.r, cr, noRefs, noRef_encV, vOf_enc, isV_enc, a.wf, c.wf, a.i, if_true, reach_ok, reqs]
    have hm : muE 24 [encV p, encV q] = 2 * p.size := by
      obtain ⟨k, n, s, ps⟩ := p
      simp [encV, muE]
      exact congrArg (2 * ·) (congrArg V.size (vOf_enc (v := V.mk k n s ps)))
    cases hq : p.req q with
    | true => simpa [hm, hs] using ih
    | false => simp [hm, hs]
theorem spec_eqs : ∀ p ∈ L_eq, ∀ xs r, (p.2 xs).run = .ok r → Sh2 cfgS T0 L_eq muE p.1 xs r := by
  intro p hp xs r hr
  simp only [L_eq, List.mem_cons, List.not_mem_nil, or_false] at hp
  rcases hp with rfl | rfl
  · obtain ⟨v, ys, rfl, w1, hr⟩ := spec_cons hr
    obtain ⟨v2, ys, rfl, w2, hr⟩ := spec_cons hr
    obtain ⟨rfl, hr⟩ := spec_nil hr
    cases hr
    obtain ⟨k, n, s, l⟩ := v
    obtain ⟨k2, n2, s2, l2⟩ := v2
    obtain ⟨-, hl, hw, -⟩ := wf_parts w1
    obtain ⟨-, hl2, hw2, -⟩ := wf_parts w2
    refine ⟨by simp [noRefs, noRef_encV], rfl, [], e_eq _ _ _ _ _ _ _ _ _ ?_⟩
    have hm : muE 32 [AV.list (encVs l), AV.list (encVs l2)] < muE 24 [encV (V.mk k n s l), encV (V.mk k2 n2 s2 l2)] := by
      have : vOf (AV.agg [AV.int .i64 k, AV.int .i64 n, AV.str s, AV.list (encVs l)]) = V.mk k n s l := vOf_enc (v := V.mk k n s l)
      simp [muE, encV, this, V.size]; omega
    simp only [reach_br, hm, noRefs, noRef, noRefs_encV, isVs_enc, vsOf_enc, hw, hl, hw2, hl2, decide_true, Bool.and_self, if_true, reach_ok, V.req, V.k_mk, V.n_mk, V.s_mk, V.ps_mk]
    by_cases h1 : k = k2 <;> by_cases h2 : n = n2 <;> cases h3 : (s == s2) <;> simp [h1, h2]
  · obtain ⟨l, ys, rfl, w1, hr⟩ := spec_cons hr
    obtain ⟨l2, ys, rfl, w2, hr⟩ := spec_cons hr
    obtain ⟨rfl, hr⟩ := spec_nil hr
    cases hr
    have w1 : V.wfs l = true ∧ l.length ≤ big40 := w1
    have w2 : V.wfs l2 = true ∧ l2.length ≤ big40 := w2
    refine ⟨by simp [noRefs, noRef, noRefs_encV], rfl, [], e_lists _ _ _ ?_⟩
    simp only [reach_br, reach_ok, encVs_len]
    by_cases he : l.length = l2.length
    · have he' : ((l.length : Nat) : Int) = (l2.length : Nat) := by omega
      have := loop_lists (b := muE 32 [arVs.enc l, arVs.enc l2]) l l2 w1.2 w1.1 w2.2 w2.1 (by simp [muE]) he l [] l2 [] rfl rfl rfl
      simpa [he'] using this
    · have he' : ¬ ((l.length : Nat) : Int) = (l2.length : Nat) := by omega
      have hq : ∀ (a b : List V), a.length ≠ b.length → reqs a b = false := by
        intro a
        induction a with
        | nil => intro b hb; cases b with
          | nil => exact absurd rfl hb
          | cons y ys => rfl
        | cons x xs ih => intro b hb; cases b with
          | nil => rfl
          | cons y ys => simp [reqs, ih ys (by simpa using hb)]
      simp [he', hq l l2 he]
theorem spec_eq : SpecOK Tryz.prog 24 (valF S_eq) := val_group (C := cfgS) progOK T0_ok L_eq muE spec_eqs rfl
theorem spec_lists : SpecOK Tryz.prog 32 (valF S_lists) := val_group (C := cfgS) progOK T0_ok L_eq muE spec_eqs rfl
end Go.Proofs

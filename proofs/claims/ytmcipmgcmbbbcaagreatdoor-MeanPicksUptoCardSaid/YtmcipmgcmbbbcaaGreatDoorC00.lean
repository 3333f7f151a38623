/- Contracts of the functions that the law reaches, for all well-formed values; conditions: as each theorem names them (the contracts of the functions called). -/
import Derived.Test.YtmcipmgcmbbbcaaGreatDoorT02
import Derived.Test.YtmcipmgcmbbbcaaGreatDoorW09
import Derived.OwnWalkIn
import Derived.TacticsInMore
import Derived.RegionIn
import Derived.Shelf.Small.Strs
/-! The order of two strings' bytes, which the model gives from outside. -/
set_option maxRecDepth 100000
namespace Go.Proofs
open Go.Sw Go

open Go.RowKit
noncomputable def S_cmpStr : PSpec := fun xs => match xs with
  | [.str a, .str b] => .ok (.v (.int .i64 (Lib.compareBytes a b)))
  | _ => .bad

set_option maxHeartbeats 1000000 in
theorem cmpStr_walk (a b : ByteArray) (w : World) : CallsIn fw 0 Tryz.prog 319 #[.string a, .string b] w fun e w' => e = .returned (.int .i64 (Lib.compareBytes a.data.toList b.data.toList)) ∧ w' = w := by
  refine callsIn_of_wp Tryz.func319 rfl (show (319 : Nat) < nFuncs by decide) ?_
  simp only [Tryz.ntmps319, List.size_toArray, List.length_cons, List.length_nil, Nat.reduceAdd, Nat.reduceSub, Array.replicate_succ,
     Array.replicate_zero, List.push_toArray, List.append_toArray, List.nil_append, List.cons_append]
  (try gi_wp2)
  refine ⟨show (321 : Nat) < nFuncs by decide, ?_⟩
  rw [Oper.semAt_eq _ _ _ (by intro c h; cases h)]
  have : ∀ (ev : Operand → Value) (o : Oper), o.op = Op.call { callee := Callee.value (Operand.func 321), args := #[Operand.tmp 5, Operand.tmp 6], argTypes := #[9, 9] } → ev (.func 321) = .func (.func 321) #[] #[] → ev (.tmp 5) = .string a → ev (.tmp 6) = .string b → (execOp ev o).run Tryz.prog w = .ok (.value (.int .i64 (Lib.compareBytes a.data.toList b.data.toList))) w := by
    intro ev o h0 h1 h2 h3
    simp [execOp, h0, resolve, Deferred.ofValue, h1, h2, h3, invoke]
    rw [run_callFunc_extern Tryz.func321 (by kernel_rfl) (by kernel_rfl) (by kernel_rfl) (e := Extern.BytealgCompare.compare) (by kernel_rfl), Lib.run_compareString]
    rfl
  rw [this _ _ rfl rfl rfl rfl, Oper.uponIn_value]
  go_at_K
  gi_wp2
  rw [Oper.semAt_eq _ _ _ (by intro c h; cases h)]
  go_simp
  (try gi_wp2)
  go_ret
  exact ⟨rfl, rfl⟩
theorem spec_cmpStr : SpecOK Tryz.prog 319 (valF S_cmpStr) := by
  intro call hcall xs H w g ow args hv hh gc bd gv R hR
  have hR : ResPost w g ow (valF S_cmpStr xs H).run = some R := hR
  rw [valF_run] at hR
  unfold S_cmpStr at hR
  split at hR
  · rename_i a b r hr
    split at hr
    · rename_i a b
      cases hr
      cases hR
      obtain ⟨v1, l1, e1, ⟨s1, rfl, h1⟩, h2⟩ := hv
      obtain ⟨v2, l2, rfl, ⟨s2, rfl, h3⟩, h4⟩ := h2
      have h4 : l2 = [] := h4
      subst h4
      subst h1; subst h3
      have ea : args = #[.string s1, .string s2] := by
        cases args with
        | mk l => simp at e1; subst e1; rfl
      subst ea
      refine ⟨⟨show (319 : Nat) < nFuncs by decide, _, Tryz.func319, rfl, by decide⟩, CallsIn.mono (cmpStr_walk s1 s2 w) fun e w' h => ?_⟩
      obtain ⟨rfl, rfl⟩ := h
      exact ⟨g, ow, rfl, rfl, hh, gc, bd, Fut.refl _ _ _⟩
    · cases hr
  all_goals cases hR
end Go.Proofs
/-! Comparing. -/
set_option maxRecDepth 100000
namespace Go.Proofs
open Go.Sw Go

noncomputable def S_isNaNk : PSpec := spec [arI .i64] fun _ => retB false
noncomputable def S_cmpK : PSpec := spec [arI .i64, arI .i64] fun a b => retI (cmpI a b)
noncomputable def T_cmpK : Specs := T0.with T0 311 (valF S_isNaNk)
noncomputable def T_cmpI : Specs := T0.with T0 318 (valF S_isNaNk)
noncomputable def S_in : PSpec := spec [arI .i64, arI .i64, arI .i64] fun a b c => retB (decide (b ≤ a) && decide (a ≤ c))
noncomputable def S_sCmp : PSpec := spec [arS, arS] fun a b => retI (Lib.compareBytes a b)
noncomputable def T_sCmp : Specs := T0.with T0 319 (valF S_cmpStr)
noncomputable def S_pN : PSpec := spec [arVV] fun p => retI (cmpI p.1.n p.2.n)
noncomputable def S_pW : PSpec := spec [arVV] fun p => retI (Lib.compareBytes p.1.s p.2.s)
noncomputable def T_pN : Specs := T0.with T0 312 (valF S_cmpK)
noncomputable def T_pW : Specs := T0.with T0 313 (valF S_sCmp)
theorem e_nanK (a : Int) {r : Res (Slot × Heap)} (h : Rea cfgS (tcOf (T0)) 311 (.ok (.done ((.v (.bool (!decide (a = a)))), []))) r) : Rea cfgS (tcOf (T0)) 311 (tFun cfgS (tcOf (T0)) 311 [AV.int .i64 a] []) r :=
  rea_cut .a _ (by kernel_rfl) h
theorem e_nanI (a : Int) {r : Res (Slot × Heap)} (h : Rea cfgS (tcOf (T0)) 318 (.ok (.done ((.v (.bool (!decide (a = a)))), []))) r) : Rea cfgS (tcOf (T0)) 318 (tFun cfgS (tcOf (T0)) 318 [AV.int .i64 a] []) r :=
  rea_cut .a _ (by kernel_rfl) h
theorem e_cmpK (a : Int) (b : Int) {r : Res (Slot × Heap)} (h : Rea cfgS (tcOf (T_cmpK)) 295 (.br (decide (a < b)) (.ok (.done ((.v (.int .i64 (-1))), []))) (.br (decide (b < a)) (.ok (.done ((.v (.int .i64 (1))), []))) (.ok (.done ((.v (.int .i64 (0))), []))))) r) : Rea cfgS (tcOf (T_cmpK)) 295 (tFun cfgS (tcOf (T_cmpK)) 295 [AV.int .i64 a, AV.int .i64 b] []) r :=
  rea_cut (.t (.t (.t (.t (.f (.f .a)))))) _ (by kernel_rfl) h
theorem e_cmpI (a : Int) (b : Int) {r : Res (Slot × Heap)} (h : Rea cfgS (tcOf (T_cmpI)) 312 (.br (decide (a < b)) (.ok (.done ((.v (.int .i64 (-1))), []))) (.br (decide (b < a)) (.ok (.done ((.v (.int .i64 (1))), []))) (.ok (.done ((.v (.int .i64 (0))), []))))) r) : Rea cfgS (tcOf (T_cmpI)) 312 (tFun cfgS (tcOf (T_cmpI)) 312 [AV.int .i64 a, AV.int .i64 b] []) r :=
  rea_cut (.t (.t (.t (.t (.f (.f .a)))))) _ (by kernel_rfl) h
theorem e_inn (a : Int) (b : Int) (c : Int) {r : Res (Slot × Heap)} (h : Rea cfgS (tcOf (T0)) 279 (.br (decide (b ≤ a)) (.ok (.done ((.v (.bool (decide (a ≤ c)))), []))) (.ok (.done ((.v (.bool (false))), [])))) r) : Rea cfgS (tcOf (T0)) 279 (tFun cfgS (tcOf (T0)) 279 [AV.int .i64 a, AV.int .i64 b, AV.int .i64 c] []) r :=
  rea_cut (.b (.t (.t .a)) (.f (.f (.f .a)))) _ (by kernel_rfl) h
theorem e_sCmp (a : List UInt8) (b : List UInt8) {r : Res (Slot × Heap)} (h : Rea cfgS (tcOf (T_sCmp)) 313 (.ok (.done ((.v (.int .i64 (Lib.compareBytes a b))), []))) r) : Rea cfgS (tcOf (T_sCmp)) 313 (tFun cfgS (tcOf (T_sCmp)) 313 [AV.str a, AV.str b] []) r :=
  rea_cut (.t (.t .a)) _ (by kernel_rfl) h
theorem e_pN (k : Int) (n : Int) (s : List UInt8) (l : List V) (k2 : Int) (n2 : Int) (s2 : List UInt8) (l2 : List V) {r : Res (Slot × Heap)} (h : Rea cfgS (tcOf (T_pN)) 296 (.ok (.done ((.v (.int .i64 (cmpI n n2))), []))) r) : Rea cfgS (tcOf (T_pN)) 296 (tFun cfgS (tcOf (T_pN)) 296 [AV.agg [AV.int .i64 k, AV.int .i64 n, AV.str s, AV.list (encVs l), AV.int .i64 k2, AV.int .i64 n2, AV.str s2, AV.list (encVs l2)]] []) r :=
  rea_cut (.t (.t .a)) _ (by kernel_rfl) h
theorem e_pW (k : Int) (n : Int) (s : List UInt8) (l : List V) (k2 : Int) (n2 : Int) (s2 : List UInt8) (l2 : List V) {r : Res (Slot × Heap)} (h : Rea cfgS (tcOf (T_pW)) 297 (.br (decide (List.length s ≤ big40)) (.br (decide (List.length s2 ≤ big40)) (.ok (.done ((.v (.int .i64 (Lib.compareBytes s s2))), []))) .bad) .bad) r) : Rea cfgS (tcOf (T_pW)) 297 (tFun cfgS (tcOf (T_pW)) 297 [AV.agg [AV.int .i64 k, AV.int .i64 n, AV.str s, AV.list (encVs l), AV.int .i64 k2, AV.int .i64 n2, AV.str s2, AV.list (encVs l2)]] []) r :=
  rea_cut (.t (.b (.b (.t .a) .a) .a)) _ (by kernel_rfl) h

theorem spec_nanK : SpecOK Tryz.prog 311 (valF S_isNaNk) := val1 (C := cfgS) progOK T0_ok fun x r _ h => by
  cases h
  exact ⟨rfl, [], e_nanK _ (by simp [reach_ok])⟩
theorem spec_nanI : SpecOK Tryz.prog 318 (valF S_isNaNk) := val1 (C := cfgS) progOK T0_ok fun x r _ h => by
  cases h
  exact ⟨rfl, [], e_nanI _ (by simp [reach_ok])⟩
theorem spec_cmpK : SpecOK Tryz.prog 295 (valF S_cmpK) := val2 (C := cfgS) (T := T_cmpK) progOK (T0_ok.with spec_nanK) fun x y r _ _ h => by
  cases h
  refine ⟨rfl, [], e_cmpK _ _ ?_⟩
  simp only [reach_br, noRefs, noRef, noRefS, cmpI]
  cases h1 : decide (x < y) <;> cases h2 : decide (y < x) <;> simp [reach_ok]
theorem spec_cmpI : SpecOK Tryz.prog 312 (valF S_cmpK) := val2 (C := cfgS) (T := T_cmpI) progOK (T0_ok.with spec_nanI) fun x y r _ _ h => by
  cases h
  refine ⟨rfl, [], e_cmpI _ _ ?_⟩
  simp only [reach_br, noRefs, noRef, noRefS, cmpI]
  cases h1 : decide (x < y) <;> cases h2 : decide (y < x) <;> simp [reach_ok]
theorem spec_inn : SpecOK Tryz.prog 279 (valF S_in) := val3 (C := cfgS) progOK T0_ok fun x y z r _ _ _ h => by
  cases h
  refine ⟨rfl, [], e_inn _ _ _ ?_⟩
  simp only [reach_br]
  cases h1 : decide (y ≤ x) <;> simp [reach_ok]
theorem spec_sCmp : SpecOK Tryz.prog 313 (valF S_sCmp) := val2 (C := cfgS) (T := T_sCmp) progOK (T0_ok.with spec_cmpStr) fun x y r _ _ h => by
  cases h
  exact ⟨rfl, [], e_sCmp _ _ (by simp [reach_br, noRefs, noRef, noRefS, reach_ok])⟩
theorem spec_pN : SpecOK Tryz.prog 296 (valF S_pN) := val1 (C := cfgS) (T := T_pN) progOK (T0_ok.with spec_cmpI) fun p r w h => by
  cases h
  obtain ⟨⟨k, n, s, l⟩, ⟨k2, n2, s2, l2⟩⟩ := p
  exact ⟨rfl, [], e_pN _ _ _ _ _ _ _ _ (by simp [reach_br, noRefs, noRef, noRefS, reach_ok])⟩
theorem spec_pW : SpecOK Tryz.prog 297 (valF S_pW) := val1 (C := cfgS) (T := T_pW) progOK (T0_ok.with spec_sCmp) fun p r w h => by
  cases h
  obtain ⟨⟨k, n, s, l⟩, ⟨k2, n2, s2, l2⟩⟩ := p
  have w : (V.mk k n s l).wf = true ∧ (V.mk k2 n2 s2 l2).wf = true := w
  simp only [V.wf, Bool.and_eq_true, decide_eq_true_eq] at w
  exact ⟨rfl, [], e_pW _ _ _ _ _ _ _ _ (by simp [reach_br, noRefs, noRef, noRefS, reach_ok, w])⟩
end Go.Proofs
/-! Comparing values. -/
set_option maxRecDepth 100000
namespace Go.Proofs
open Go.Sw Go

noncomputable def S_cmp : PSpec := spec [arV, arV] fun a b => retI (a.cmp b)
noncomputable def S_cmpL : PSpec := spec [arVV] fun p => retI (p.1.cmpL p.2)
noncomputable def S_cmpF : PSpec := spec [arVs, arVs, arF 281] fun a b _ => retI (cmps a b)
noncomputable def L_cmp : List (Nat × PSpec) := [(281, S_cmp), (298, S_cmpL), (314, S_cmpF)]
noncomputable def B_cmp : Specs := T0.with (T0.with (T0.with (T0.with T0 295 (valF S_cmpK)) 312 (valF S_cmpK)) 296 (valF S_pN)) 297 (valF S_pW)
noncomputable def T_cmp (b : Nat) : Specs := Tg B_cmp L_cmp muC b
theorem e_cmp (b : Nat) (k : Int) (n : Int) (s : List UInt8) (l : List V) (k2 : Int) (n2 : Int) (s2 : List UInt8) (l2 : List V) {r : Res (Slot × Heap)} (h : Rea cfgS (tcOf (T_cmp b)) 281 (.br (!decide (cmpI k k2 = 0)) (.ok (.done ((.v (.int .i64 (cmpI k k2))), []))) (.br (decide (k < 1)) (.ok (.done ((.v (.int .i64 (0))), []))) (.br (decide (5 < k)) (.ok (.done ((.v (.int .i64 (0))), []))) (.br (decide (k = (↑5 : Int))) (.br (noRefs [(.agg [(.int .i64 (k)), (.int .i64 (n)), (.str (s)), (.list (encVs l)), (.int .i64 (k2)), (.int .i64 (n2)), (.str (s2)), (.list (encVs l2))])]) (.br (decide (muC 298 [AV.agg [AV.int .i64 k, AV.int .i64 n, AV.str s, AV.list (encVs l), AV.int .i64 k2, AV.int .i64 n2, AV.str s2, AV.list (encVs l2)]] < b)) (.br (isV (encV (V.mk k n s l)) && isV (encV (V.mk k2 n2 s2 l2))) (.ok (.done ((.v (.int .i64 (V.cmpL (vOf (encV (V.mk k n s l))) (vOf (encV (V.mk k2 n2 s2 l2)))))), []))) .bad) .bad) .bad) (.br (decide (k = (↑4 : Int))) (.br (noRefs [(.agg [(.int .i64 (k)), (.int .i64 (n)), (.str (s)), (.list (encVs l)), (.int .i64 (k2)), (.int .i64 (n2)), (.str (s2)), (.list (encVs l2))])]) (.br (decide (muC 298 [AV.agg [AV.int .i64 k, AV.int .i64 n, AV.str s, AV.list (encVs l), AV.int .i64 k2, AV.int .i64 n2, AV.str s2, AV.list (encVs l2)]] < b)) (.br (isV (encV (V.mk k n s l)) && isV (encV (V.mk k2 n2 s2 l2))) (.ok (.done ((.v (.int .i64 (V.cmpL (vOf (encV (V.mk k n s l))) (vOf (encV (V.mk k2 n2 s2 l2)))))), []))) .bad) .bad) .bad) (.br (decide (k = (↑3 : Int))) (.br (noRefs [(.agg [(.int .i64 (k)), (.int .i64 (n)), (.str (s)), (.list (encVs l)), (.int .i64 (k2)), (.int .i64 (n2)), (.str (s2)), (.list (encVs l2))])]) (.br (isV (encV (V.mk k n s l)) && isV (encV (V.mk k2 n2 s2 l2))) (.ok (.done ((.v (.int .i64 (Lib.compareBytes (V.s (vOf (encV (V.mk k n s l)))) (V.s (vOf (encV (V.mk k2 n2 s2 l2))))))), []))) .bad) .bad) (.br (decide (k = (↑2 : Int))) (.br (noRefs [(.agg [(.int .i64 (k)), (.int .i64 (n)), (.str (s)), (.list (encVs l)), (.int .i64 (k2)), (.int .i64 (n2)), (.str (s2)), (.list (encVs l2))])]) (.br (isV (encV (V.mk k n s l)) && isV (encV (V.mk k2 n2 s2 l2))) (.ok (.done ((.v (.int .i64 (cmpI (V.n (vOf (encV (V.mk k n s l)))) (V.n (vOf (encV (V.mk k2 n2 s2 l2))))))), []))) .bad) .bad) (.br (decide (k = (↑1 : Int))) (.br (noRefs [(.agg [(.int .i64 (k)), (.int .i64 (n)), (.str (s)), (.list (encVs l)), (.int .i64 (k2)), (.int .i64 (n2)), (.str (s2)), (.list (encVs l2))])]) (.br (isV (encV (V.mk k n s l)) && isV (encV (V.mk k2 n2 s2 l2))) (.ok (.done ((.v (.int .i64 (cmpI (V.n (vOf (encV (V.mk k n s l)))) (V.n (vOf (encV (V.mk k2 n2 s2 l2))))))), []))) .bad) .bad) (.br (decide (k = (↑0 : Int))) .bad .bad))))))))) r) : Rea cfgS (tcOf (T_cmp b)) 281 (tFun cfgS (tcOf (T_cmp b)) 281 [encV (V.mk k n s l), encV (V.mk k2 n2 s2 l2)] []) r :=
  rea_cut (.t (.t (.b .a (.b (.t (.t (.t (.t .a)))) (.f (.f (.b .a (.b (.b (.b (.b (.t .a) .a) .a) .a) (.b (.b (.b (.b (.t .a) .a) .a) .a) (.b (.b (.b (.t .a) .a) .a) (.b (.b (.b (.t .a) .a) .a) (.b (.b (.b (.t .a) .a) .a) .a)))))))))))) _ (by kernel_rfl) h
theorem e_cmpL (b : Nat) (k : Int) (n : Int) (s : List UInt8) (l : List V) (k2 : Int) (n2 : Int) (s2 : List UInt8) (l2 : List V) {r : Res (Slot × Heap)} (h : Rea cfgS (tcOf (T_cmp b)) 298 (.br (!decide (cmpI (↑(List.length (encVs l)) : Int) (↑(List.length (encVs l2)) : Int) = 0)) (.ok (.done ((.v (.int .i64 (cmpI (↑(List.length (encVs l)) : Int) (↑(List.length (encVs l2)) : Int)))), []))) (.br (decide (muC 314 [AV.list (encVs l), AV.list (encVs l2), AV.func 281 []] < b)) (.br (isVs (encVs l)) (.br (isVs (encVs l2)) (.ok (.done ((.v (.int .i64 (cmps (vsOf (encVs l)) (vsOf (encVs l2))))), []))) .bad) .bad) .bad)) r) : Rea cfgS (tcOf (T_cmp b)) 298 (tFun cfgS (tcOf (T_cmp b)) 298 [AV.agg [AV.int .i64 k, AV.int .i64 n, AV.str s, AV.list (encVs l), AV.int .i64 k2, AV.int .i64 n2, AV.str s2, AV.list (encVs l2)]] []) r :=
  rea_cut (.t (.t .a)) _ (by kernel_rfl) h
def S_cmpF_0 (x0 : List AV) (x1 : List AV) (x2 : List AV) (x3 : Int) (x4 : Int) : St := ⟨[(0, (.v (.list x0))), (1, (.v (.list x1))), (2, (.v (.func 281 []))), (11, (.v (.list x2))), (12, (.v (.int .i64 x3))), (13, (.v (.int .i64 x4)))], [], [], [], .false, []⟩
theorem e_cmpF (b : Nat) (l : List AV) (l2 : List AV) {r : Res (Slot × Heap)} (h : Rea cfgS (tcOf (T_cmp b)) 314 (.ok (.head 0 (S_cmpF_0 (l) (l2) (l) ((↑(List.length l) : Int)) (0)))) r) : Rea cfgS (tcOf (T_cmp b)) 314 (tFun cfgS (tcOf (T_cmp b)) 314 [AV.list l, AV.list l2, AV.func 281 []] []) r :=
  rea_cut .a _ (by kernel_rfl) h
theorem h_cmpF_0 (b : Nat) (x0 : List AV) (x1 : List AV) (x2 : List AV) (x3 : Int) (x4 : Int) {r : Res (Slot × Heap)} (h : Rea cfgS (tcOf (T_cmp b)) 314 (.br (decide (x4 < x3)) (.br (inRange x4 (List.length x2)) (.br (shapeB (gA x2 x4) shV) (.br (decide ((↑(List.length x1) : Int) ≤ x4)) (.ok (.done ((.v (.int .i64 (1))), []))) (.br (inRange x4 (List.length x1)) (.br (shapeB (gA x1 x4) shV) (.br (noRefs [(rx (gA x2 x4) shV), (rx (gA x1 x4) shV)]) (.br (decide (muC 281 [rx (gA x2 x4) shV, rx (gA x1 x4) shV] < b)) (.br (isV (rx (gA x2 x4) shV)) (.br (isV (rx (gA x1 x4) shV)) (.br (!decide (V.cmp (vOf (rx (gA x2 x4) shV)) (vOf (rx (gA x1 x4) shV)) = 0)) (.ok (.done ((.v (.int .i64 (V.cmp (vOf (rx (gA x2 x4) shV)) (vOf (rx (gA x1 x4) shV))))), []))) (.ok (.head 0 (S_cmpF_0 (x0) (x1) (x2) (x3) (w6 (x4 + 1)))))) .bad) .bad) .bad) .bad) .bad) .bad)) .bad) .bad) (.br (decide ((↑(List.length x0) : Int) < (↑(List.length x1) : Int))) (.ok (.done ((.v (.int .i64 (-1))), []))) (.ok (.done ((.v (.int .i64 (0))), []))))) r) : Rea cfgS (tcOf (T_cmp b)) 314 (.ok (.head 0 (S_cmpF_0 x0 x1 x2 x3 x4))) r :=
  rea_head (.b (.b (.b (.b .a (.b (.b (.b (.b (.b (.b (.t .a) .a) .a) .a) .a) .a) .a)) .a) .a) .a) (by kernel_rfl) h

theorem T_cmp_ok : TOK Tryz.prog B_cmp := (((T0_ok.with spec_cmpK).with spec_cmpI).with spec_pN).with spec_pW
theorem step_cmp (a c : V) (wa : a.wf = true) (wc : c.wf = true) : Sh2 cfgS B_cmp L_cmp muC 281 [encV a, encV c] (.v (.int .i64 (a.cmp c))) := by
  obtain ⟨k, n, s, l⟩ := a
  obtain ⟨k2, n2, s2, l2⟩ := c
  refine ⟨by simp [noRefs, noRef_encV], rfl, [], e_cmp _ _ _ _ _ _ _ _ _ ?_⟩
  have hm : muC 298 [AV.agg [AV.int .i64 k, AV.int .i64 n, AV.str s, AV.list (encVs l), AV.int .i64 k2, AV.int .i64 n2, AV.str s2, AV.list (encVs l2)]] < muC 281 [encV (V.mk k n s l), encV (V.mk k2 n2 s2 l2)] := by
    have e : vOf (AV.agg [AV.int .i64 k, AV.int .i64 n, AV.str s, AV.list (encVs l)]) = V.mk k n s l := vOf_enc (v := V.mk k n s l)
    simp [muC, e]
  simp only [reach_br, hm, noRefs, noRef, noRefs_encV, isV_enc, vOf_enc, wa, wc, reach_ok, V.cmp, V.cmpL, V.k_mk, V.n_mk, V.s_mk, V.ps_mk, decide_true, Bool.and_self, if_true]
  by_cases h0 : cmpI k k2 = 0
  · by_cases h1 : k < 1
    · simp [h0, h1]
    · by_cases h5 : 5 < k
      · simp [h0, h1, h5]
      · have : k = 1 ∨ k = 2 ∨ k = 3 ∨ k = 4 ∨ k = 5 := by omega
        rcases this with rfl | rfl | rfl | rfl | rfl <;> simp [h0] <;> rfl
  · simp [h0]
theorem step_cmpL (p : V × V) (wa : p.1.wf = true) (wc : p.2.wf = true) : Sh2 cfgS B_cmp L_cmp muC 298 [arVV.enc p] (.v (.int .i64 (p.1.cmpL p.2))) := by
  obtain ⟨⟨k, n, s, l⟩, ⟨k2, n2, s2, l2⟩⟩ := p
  simp only [V.wf, Bool.and_eq_true, decide_eq_true_eq] at wa wc
  refine ⟨by simp [encV, cellsOfAV, noRefs, noRef, noRefs_encV], rfl, [], e_cmpL _ _ _ _ _ _ _ _ _ ?_⟩
  have hm : muC 314 [AV.list (encVs l), AV.list (encVs l2), AV.func 281 []] < muC 298 [arVV.enc (V.mk k n s l, V.mk k2 n2 s2 l2)] := by
    have e : vOf (AV.agg [AV.int .i64 k, AV.int .i64 n, AV.str s, AV.list (encVs l)]) = V.mk k n s l := vOf_enc (v := V.mk k n s l)
    simp [muC, encV, cellsOfAV, e, V.size]
    omega
  simp only [reach_br, hm, isVs_enc, vsOf_enc, encVs_len, wa, wc, reach_ok, V.cmpL, V.ps_mk, decide_true, Bool.and_self, if_true]
  by_cases h0 : cmpI (l.length : Nat) (l2.length : Nat) = 0 <;> simp [h0]
theorem loop_cmp {b : Nat} (l l2 : List V) (hl : l.length ≤ big40) (hl2 : l2.length ≤ big40) (hw : V.wfs l = true) (hw2 : V.wfs l2 = true) (hb : 3 * V.sizes l + 2 < b) : ∀ (post pre post2 pre2 : List V), pre ++ post = l → pre2 ++ post2 = l2 → pre.length = pre2.length →
    Rea cfgS (tcOf (T_cmp b)) 314 (.ok (.head 0 (S_cmpF_0 (encVs l) (encVs l2) (encVs l) l.length pre.length))) (.ok (.v (.int .i64 (cmps post post2)), []))
  | [], pre, post2, pre2, e, e2, en => by
    have e : pre = l := by simpa using e
    subst e; subst e2
    refine h_cmpF_0 _ _ _ _ _ _ ?_
    simp only [reach_br, reach_ok, encVs_len]
    cases post2 with
    | nil => simp [cmps, en]
    | cons y ys =>
      have : (pre.length : Int) < ((pre2 ++ y :: ys).length : Nat) := by simp; omega
      simp [cmps] at this ⊢
      simp [this]
  | p :: post, pre, [], pre2, e, e2, en => by
    have e2 : pre2 = l2 := by simpa using e2
    subst e; subst e2
    refine h_cmpF_0 _ _ _ _ _ _ ?_
    have hlen : (pre.length : Int) < ((pre ++ p :: post).length : Nat) := by simp; omega
    have hge : (((pre2 : List V).length : Nat) : Int) ≤ pre.length := by omega
    simp only [reach_br, gA_enc rfl, shV, shape_enc, hlen, hge, List.append_nil, decide_true, encVs_len, inR (Int.natCast_nonneg _) hlen, if_true, reach_ok, cmps]
  | p :: post, pre, q :: post2, pre2, e, e2, en => by
    subst e; subst e2
    have hlen : (pre.length : Int) < ((pre ++ p :: post).length : Nat) := by simp; omega
    have hlen2 : (pre.length : Int) < ((pre2 ++ q :: post2).length : Nat) := by simp; omega
    have hi : w6 ((pre.length : Int) + 1) = ((pre ++ [p]).length : Nat) := by
      rw [w6_id] <;> simp [big40] at * <;> omega
    simp only [wfs_append, V.wfs, Bool.and_eq_true] at hw hw2
    have hs : 3 * p.size + 2 < b := by
      simp only [sizes_append, V.sizes] at hb; omega
    have ih := loop_cmp (b := b) (pre ++ p :: post) (pre2 ++ q :: post2) hl hl2 (by simp [wfs_append, V.wfs, hw]) (by simp [wfs_append, V.wfs, hw2]) hb post (pre ++ [p]) post2 (pre2 ++ [q]) (by simp) (by simp) (by simp [en])
    refine h_cmpF_0 _ _ _ _ _ _ ?_
    have hge : ¬ (((pre2 ++ q :: post2).length : Nat) : Int) ≤ pre.length := by omega
    simp only [reach_br, gA_enc rfl, gA_enc (pre := pre2) (i := (pre.length : Int)) (by rw [en]), shV, shape_enc, rx_enc, hlen, hge, decide_true, decide_false, encVs_len, inR (Int.natCast_nonneg _) hlen, inR (Int.natCast_nonneg _) hlen2, noRefs, noRef_encV, muC, vOf_enc, isV_enc, hw.2.1, hw2.2.1, hs, hi, if_true, reach_ok, cmps]
    cases h0 : decide (V.cmp p q = 0) with
    | true => simpa using ih
    | false => simp
theorem all_cmp : ∀ p ∈ L_cmp, ∀ xs r, (p.2 xs).run = .ok r → Sh2 cfgS B_cmp L_cmp muC p.1 xs r := by
  intro p hp xs r hr
  simp only [L_cmp, List.mem_cons, List.not_mem_nil, or_false] at hp
  rcases hp with rfl | rfl | rfl
  · obtain ⟨a, ys, rfl, w1, hr⟩ := spec_cons hr
    obtain ⟨c, ys, rfl, w2, hr⟩ := spec_cons hr
    obtain ⟨rfl, hr⟩ := spec_nil hr
    cases hr
    exact step_cmp a c w1 w2
  · obtain ⟨a, ys, rfl, w1, hr⟩ := spec_cons hr
    obtain ⟨rfl, hr⟩ := spec_nil hr
    cases hr
    exact step_cmpL a w1.1 w1.2
  · obtain ⟨a, ys, rfl, w1, hr⟩ := spec_cons hr
    obtain ⟨c, ys, rfl, w2, hr⟩ := spec_cons hr
    obtain ⟨u, ys, rfl, w3, hr⟩ := spec_cons hr
    obtain ⟨rfl, hr⟩ := spec_nil hr
    cases hr
    refine ⟨by simp [noRefs, noRef, noRefs_encV], rfl, [], e_cmpF _ _ _ ?_⟩
    have := loop_cmp (b := muC 314 [arVs.enc a, arVs.enc c, (arF 281).enc u]) a c w1.2 w2.2 w1.1 w2.1 (by simp [muC]) a [] c [] rfl rfl rfl
    simpa using this
theorem spec_cmp : SpecOK Tryz.prog 281 (valF S_cmp) := val_group (C := cfgS) progOK T_cmp_ok L_cmp muC all_cmp rfl
end Go.Proofs
/-! Weighing values; which kind one is of. -/
set_option maxRecDepth 100000
namespace Go.Proofs
open Go.Sw Go

noncomputable def S_weigh : PSpec := spec [arV, arI .i64, arI .i64] fun v m d => .ok (.v (.agg [.int .i64 (v.weigh m d).1, .int .i64 (v.weigh m d).2]))
noncomputable def L_weigh : List (Nat × PSpec) := [(275, S_weigh)]
noncomputable def T_weigh (b : Nat) : Specs := Tg T0 L_weigh muV b
noncomputable def S_fits : PSpec := spec [arV] fun v => retB (decide ((v.weigh 200 8).1 ≤ 200) && decide ((v.weigh 200 8).2 ≤ 8))
noncomputable def ofT (v : V) : Tr Slot :=
  .br (Nat.beq v.kd 1) (.ok (.v (.iface 312 (.agg [.int .i64 v.n])))) (.br (Nat.beq v.kd 2) (.ok (.v (.iface 313 (.agg [.int .i64 v.n]))))
  (.br (Nat.beq v.kd 3) (.ok (.v (.iface 315 (.agg [.str v.s])))) (.br (Nat.beq v.kd 4) (.ok (.v (.iface 317 (.agg [.list (encVs v.ps)]))))
  (.br (Nat.beq v.kd 5) (.ok (.v (.iface 318 (.agg [.list (encVs v.ps)])))) (.ok (.v (.iface 342 (.agg []))))))))
noncomputable def S_of : PSpec := spec [arV] ofT
noncomputable def T_fits : Specs := T0.with T0 275 (valF S_weigh)
def S_weigh_0 (x0 : Int) (x1 : Int) (x2 : List AV) (x3 : Int) (x4 : Int) (x5 : Int) (x6 : Int) (x7 : Int) (x8 : Int) : St := ⟨[(1, (.v (.int .i64 x0))), (2, (.v (.int .i64 x1))), (6, (.loc 6 0)), (7, (.loc 7 0)), (24, (.v (.list x2))), (25, (.v (.int .i64 x3))), (26, (.v (.int .i64 x4)))], [(6, [(.v (.int .i64 x5)), (.v (.int .i64 x6))]), (7, [(.v (.int .i64 x7)), (.v (.int .i64 x8))])], [], [], .false, []⟩
theorem e_weigh (b : Nat) (k : Int) (n : Int) (s : List UInt8) (l : List V) (m : Int) (d : Int) {r : Res (Slot × Heap)} (h : Rea cfgS (tcOf (T_weigh b)) 275 (.br (decide (m < 1)) (.ok (.done ((.v (.agg [(.int .i64 (w6 (m + 1))), (.int .i64 (w6 (d + 1)))])), []))) (.br (decide (d < 1)) (.ok (.done ((.v (.agg [(.int .i64 (w6 (m + 1))), (.int .i64 (w6 (d + 1)))])), []))) (.ok (.head 0 (S_weigh_0 (m) (d) (encVs l) ((↑(List.length (encVs l)) : Int)) (0) (0) (0) (1) (0)))))) r) : Rea cfgS (tcOf (T_weigh b)) 275 (tFun cfgS (tcOf (T_weigh b)) 275 [encV (V.mk k n s l), AV.int .i64 m, AV.int .i64 d] []) r :=
  rea_cut (.b (.t (.t (.t .a))) (.f .a)) _ (by kernel_rfl) h
theorem h_weigh_0 (b : Nat) (x0 : Int) (x1 : Int) (x2 : List AV) (x3 : Int) (x4 : Int) (x5 : Int) (x6 : Int) (x7 : Int) (x8 : Int) {r : Res (Slot × Heap)} (h : Rea cfgS (tcOf (T_weigh b)) 275 (.br (decide (x4 < x3)) (.br (inRange x4 (List.length x2)) (.br (shapeB (gA x2 x4) shV) (.br (noRefs [(rx (gA x2 x4) shV), (.int .i64 (w6 (x0 - x7))), (.int .i64 (w6 (x1 - 1)))]) (.br (decide (muV 275 [rx (gA x2 x4) shV, AV.int .i64 (w6 (x0 - x7)), AV.int .i64 (w6 (x1 - 1))] < b)) (.br (isV (rx (gA x2 x4) shV)) (.br (decide (x0 < w6 (x7 + Prod.fst (V.weigh (vOf (rx (gA x2 x4) shV)) (w6 (x0 - x7)) (w6 (x1 - 1)))))) (.ok (.done ((.v (.agg [(.int .i64 (w6 (x0 + 1))), (.int .i64 (w6 (x1 + 1)))])), []))) (.ok (.head 0 (S_weigh_0 (x0) (x1) (x2) (x3) (w6 (x4 + 1)) (x5) (x6) (w6 (x7 + Prod.fst (V.weigh (vOf (rx (gA x2 x4) shV)) (w6 (x0 - x7)) (w6 (x1 - 1))))) (bif decide (x8 < Prod.snd (V.weigh (vOf (rx (gA x2 x4) shV)) (w6 (x0 - x7)) (w6 (x1 - 1)))) then Prod.snd (V.weigh (vOf (rx (gA x2 x4) shV)) (w6 (x0 - x7)) (w6 (x1 - 1))) else x8))))) .bad) .bad) .bad) .bad) .bad) (.ok (.done ((.v (.agg [(.int .i64 (x7)), (.int .i64 (w6 (x8 + 1)))])), [])))) r) : Rea cfgS (tcOf (T_weigh b)) 275 (.ok (.head 0 (S_weigh_0 x0 x1 x2 x3 x4 x5 x6 x7 x8))) r :=
  rea_head (.b (.b (.b (.b (.b (.b (.t .a) .a) .a) .a) .a) .a) .a) (by kernel_rfl) h
theorem e_fits (k : Int) (n : Int) (s : List UInt8) (l : List V) {r : Res (Slot × Heap)} (h : Rea cfgS (tcOf (T_fits)) 249 (.br (noRefs [(encV (V.mk k n s l)), (.int .i64 (200)), (.int .i64 (8))]) (.br (isV (encV (V.mk k n s l))) (.br (decide (Prod.fst (V.weigh (vOf (encV (V.mk k n s l))) 200 8) ≤ 200)) (.ok (.done ((.v (.bool (decide (Prod.snd (V.weigh (vOf (encV (V.mk k n s l))) 200 8) ≤ 8)))), []))) (.ok (.done ((.v (.bool (false))), [])))) .bad) .bad) r) : Rea cfgS (tcOf (T_fits)) 249 (tFun cfgS (tcOf (T_fits)) 249 [encV (V.mk k n s l)] []) r :=
  rea_cut (.b (.b (.t (.b (.t (.t .a)) (.f (.f (.f .a))))) .a) .a) _ (by kernel_rfl) h
theorem e_knd1 (n : Int) (s : List UInt8) (l : List V) {r : Res (Slot × Heap)} (h : Rea cfgS (tcOf (T0)) 276 (.br (s == []) (.br (decide ((↑(List.length (encVs l)) : Int) = 0)) (.ok (.done ((.v (.iface 312 (.agg [(.int .i64 (n))]))), []))) (.ok (.done ((.v (.iface 342 (.agg []))), [])))) (.ok (.done ((.v (.iface 342 (.agg []))), [])))) r) : Rea cfgS (tcOf (T0)) 276 (tFun cfgS (tcOf (T0)) 276 [encV (V.mk 1 n s l)] []) r :=
  rea_cut (.t (.t (.t (.b (.t (.t (.t (.b .a (.f (.f (.f (.f (.f (.f (.f (.f (.f (.f (.f (.f (.f (.f (.f (.f (.f (.f (.f (.f (.f (.f (.f (.f (.f (.f (.f (.f (.f (.f (.f (.f (.f (.f (.f (.f (.f (.f .a)))))))))))))))))))))))))))))))))))))))))) (.f (.f (.f (.f (.f (.f (.f (.f (.f (.f (.f (.f (.f (.f (.f (.f (.f (.f (.f (.f (.f (.f (.f (.f (.f (.f (.f (.f (.f (.f (.f (.f (.f (.f (.f (.f (.f (.f (.f (.f (.f (.f (.f .a))))))))))))))))))))))))))))))))))))))))))))))) _ (by kernel_rfl) h
theorem e_knd2 (n : Int) (s : List UInt8) (l : List V) {r : Res (Slot × Heap)} (h : Rea cfgS (tcOf (T0)) 276 (.br (s == []) (.br (decide ((↑(List.length (encVs l)) : Int) = 0)) (.ok (.done ((.v (.iface 313 (.agg [(.int .i64 (n))]))), []))) (.ok (.done ((.v (.iface 342 (.agg []))), [])))) (.ok (.done ((.v (.iface 342 (.agg []))), [])))) r) : Rea cfgS (tcOf (T0)) 276 (tFun cfgS (tcOf (T0)) 276 [encV (V.mk 2 n s l)] []) r :=
  rea_cut (.f (.f (.f (.f (.f (.f (.f (.f (.f (.f (.t (.t (.t (.b (.t (.t (.t (.b .a (.f (.f (.f (.f (.f (.f (.f (.f (.f (.f (.f (.f (.f (.f (.f (.f (.f (.f (.f (.f (.f (.f (.f (.f (.f (.f (.f (.f .a)))))))))))))))))))))))))))))))) (.f (.f (.f (.f (.f (.f (.f (.f (.f (.f (.f (.f (.f (.f (.f (.f (.f (.f (.f (.f (.f (.f (.f (.f (.f (.f (.f (.f (.f (.f (.f (.f (.f .a))))))))))))))))))))))))))))))))))))))))))))))) _ (by kernel_rfl) h
theorem e_knd3 (n : Int) (s : List UInt8) (l : List V) {r : Res (Slot × Heap)} (h : Rea cfgS (tcOf (T0)) 276 (.br (decide (n = 0)) (.br (decide ((↑(List.length (encVs l)) : Int) = 0)) (.ok (.done ((.v (.iface 315 (.agg [(.str (s))]))), []))) (.ok (.done ((.v (.iface 342 (.agg []))), [])))) (.ok (.done ((.v (.iface 342 (.agg []))), [])))) r) : Rea cfgS (tcOf (T0)) 276 (tFun cfgS (tcOf (T0)) 276 [encV (V.mk 3 n s l)] []) r :=
  rea_cut (.f (.f (.f (.f (.f (.f (.f (.f (.f (.f (.f (.f (.f (.f (.f (.f (.f (.f (.f (.f (.t (.t (.t (.b (.t (.t (.t (.b .a (.f (.f (.f (.f (.f (.f (.f (.f (.f (.f (.f (.f (.f (.f (.f (.f (.f (.f .a)))))))))))))))))))))) (.f (.f (.f (.f (.f (.f (.f (.f (.f (.f (.f (.f (.f (.f (.f (.f (.f (.f (.f (.f (.f (.f (.f .a))))))))))))))))))))))))))))))))))))))))))))))) _ (by kernel_rfl) h
theorem e_knd4 (n : Int) (s : List UInt8) (l : List V) {r : Res (Slot × Heap)} (h : Rea cfgS (tcOf (T0)) 276 (.br (decide (n = 0)) (.br (s == []) (.ok (.done ((.v (.iface 317 (.agg [(.list (encVs l))]))), []))) (.ok (.done ((.v (.iface 342 (.agg []))), [])))) (.ok (.done ((.v (.iface 342 (.agg []))), [])))) r) : Rea cfgS (tcOf (T0)) 276 (tFun cfgS (tcOf (T0)) 276 [encV (V.mk 4 n s l)] []) r :=
  rea_cut (.f (.f (.f (.f (.f (.f (.f (.f (.f (.f (.f (.f (.f (.f (.f (.f (.f (.f (.f (.f (.f (.f (.f (.f (.f (.f (.f (.f (.f (.f (.t (.t (.t (.b (.t (.t (.b .a (.f (.f (.f (.f (.f (.f (.f (.f (.f .a)))))))))))) (.f (.f (.f (.f (.f (.f (.f (.f (.f (.f (.f (.f (.f .a))))))))))))))))))))))))))))))))))))))))))))))) _ (by kernel_rfl) h
theorem e_knd5 (n : Int) (s : List UInt8) (l : List V) {r : Res (Slot × Heap)} (h : Rea cfgS (tcOf (T0)) 276 (.br (decide (n = 0)) (.br (s == []) (.ok (.done ((.v (.iface 318 (.agg [(.list (encVs l))]))), []))) (.ok (.done ((.v (.iface 342 (.agg []))), [])))) (.ok (.done ((.v (.iface 342 (.agg []))), [])))) r) : Rea cfgS (tcOf (T0)) 276 (tFun cfgS (tcOf (T0)) 276 [encV (V.mk 5 n s l)] []) r :=
  rea_cut (.f (.f (.f (.f (.f (.f (.f (.f (.f (.f (.f (.f (.f (.f (.f (.f (.f (.f (.f (.f (.f (.f (.f (.f (.f (.f (.f (.f (.f (.f (.f (.f (.f (.f (.f (.f (.f (.f (.f (.t (.t (.t (.b (.t (.t .a)) (.f (.f (.f (.f .a))))))))))))))))))))))))))))))))))))))))))))))) _ (by kernel_rfl) h
theorem e_knd0 (k : Int) (n : Int) (s : List UInt8) (l : List V) {r : Res (Slot × Heap)} (h : Rea cfgS (tcOf (T0)) 276 (.br (decide (k = 1)) .bad (.br (decide (k = 2)) .bad (.br (decide (k = 3)) .bad (.br (decide (k = 4)) .bad (.br (decide (k = 5)) .bad (.ok (.done ((.v (.iface 342 (.agg []))), [])))))))) r) : Rea cfgS (tcOf (T0)) 276 (tFun cfgS (tcOf (T0)) 276 [encV (V.mk k n s l)] []) r :=
  rea_cut (.b .z (.f (.f (.f (.f (.f (.f (.f (.f (.f (.b .z (.f (.f (.f (.f (.f (.f (.f (.f (.f (.b .z (.f (.f (.f (.f (.f (.f (.f (.f (.f (.b .z (.f (.f (.f (.f (.f (.f (.f (.f (.b .z (.f (.f (.f (.f (.f (.f (.f (.f .a)))))))))))))))))))))))))))))))))))))))))))))))) _ (by kernel_rfl) h

theorem loop_weigh {b : Nat} {m d : Int} (ps : List V) (hl : ps.length ≤ big40) (hw : V.wfs ps = true) (hb : V.sizes ps < b) : ∀ (post pre : List V) (x5 x6 a c : Int), pre ++ post = ps →
    Rea cfgS (tcOf (T_weigh b)) 275 (.ok (.head 0 (S_weigh_0 m d (encVs ps) ps.length pre.length x5 x6 a c))) (.ok (.v (.agg [.int .i64 (weighs post m d a c).1, .int .i64 (weighs post m d a c).2]), []))
  | [], pre, x5, x6, a, c, e => by
    have e : pre = ps := by simpa using e
    subst e
    refine h_weigh_0 _ _ _ _ _ _ _ _ _ _ ?_
    simp [reach_br, reach_ok, weighs]
  | p :: post, pre, x5, x6, a, c, e => by
    subst e
    have hlen : (pre.length : Int) < ((pre ++ p :: post).length : Nat) := by simp; omega
    have hi : w6 ((pre.length : Int) + 1) = ((pre ++ [p]).length : Nat) := by
      rw [w6_id] <;> simp [big40] at * <;> omega
    have hp : p.wf = true := by
      simp only [wfs_append, V.wfs, Bool.and_eq_true] at hw; exact hw.2.1
    have hs : p.size < b := by
      simp only [sizes_append, V.sizes] at hb; omega
    have ih := loop_weigh (b := b) (m := m) (d := d) (pre ++ p :: post) hl hw hb post (pre ++ [p]) x5 x6
    refine h_weigh_0 _ _ _ _ _ _ _ _ _ _ ?_
    simp only [reach_br, gA_enc rfl, shV, shape_enc, rx_enc, hlen, decide_true, encVs_len, inR (Int.natCast_nonneg _) hlen, noRefs, noRef, noRef_encV, muV, vOf_enc, isV_enc, hp, hs, hi, if_true, reach_ok, weighs]
    cases hq : decide (m < w6 (a + (V.weigh p (w6 (m - a)) (w6 (d - 1))).fst)) with
    | true => simp
    | false => simpa using ih _ _ (by simp)
theorem spec_weigh : SpecOK Tryz.prog 275 (valF S_weigh) := by
  refine val_group (C := cfgS) progOK T0_ok L_weigh muV (fun p hp xs r hr => ?_) rfl
  simp only [L_weigh, List.mem_cons, List.not_mem_nil, or_false] at hp
  subst hp
  obtain ⟨v, ys, rfl, w1, hr⟩ := spec_cons hr
  obtain ⟨m, ys, rfl, -, hr⟩ := spec_cons hr
  obtain ⟨d, ys, rfl, -, hr⟩ := spec_cons hr
  obtain ⟨rfl, hr⟩ := spec_nil hr
  cases hr
  obtain ⟨k, n, s, ps⟩ := v
  refine ⟨by simp [noRefs, noRef, noRef_encV], rfl, [], e_weigh _ _ _ _ _ _ _ ?_⟩
  have hw : (V.mk k n s ps).wf = true := w1
  simp only [V.wf, Bool.and_eq_true, decide_eq_true_eq] at hw
  have hl := loop_weigh (b := muV 275 [encV (V.mk k n s ps), AV.int .i64 m, AV.int .i64 d]) (m := m) (d := d) ps hw.1.2 hw.2 (by simp [muV, V.size]) ps [] 0 0 1 0 rfl
  simp only [List.length_nil, Int.ofNat_zero] at hl
  simp only [V.weigh, encVs_len, reach_br, reach_ok]
  cases h1 : decide (m < 1) <;> cases h2 : decide (d < 1) <;> simp [hl]
theorem spec_fits : SpecOK Tryz.prog 249 (valF S_fits) := val1 (C := cfgS) (T := T_fits) progOK (T0_ok.with spec_weigh) fun v r w h => by
  cases h
  obtain ⟨k, n, s, l⟩ := v
  have w : (V.mk k n s l).wf = true := w
  refine ⟨rfl, [], e_fits _ _ _ _ ?_⟩
  simp only [reach_br, noRefs, noRef, noRef_encV, isV_enc, vOf_enc, w, reach_ok, if_true]
  cases h1 : decide ((V.weigh (V.mk k n s l) 200 8).1 ≤ 200) <;> simp
theorem spec_of : SpecOK Tryz.prog 276 (valF S_of) := val1 (C := cfgS) progOK T0_ok fun v r w h => by
  obtain ⟨k, n, s, l⟩ := v
  by_cases h1 : k = 1
  · subst h1
    cases s <;> cases l <;> (simp [ofT, V.kd, Tr.run] at h; subst h; exact ⟨rfl, [], e_knd1 _ _ _ (by simp [reach_br, reach_ok, encVs] <;> omega)⟩)
  by_cases h2 : k = 2
  · subst h2
    cases s <;> cases l <;> (simp [ofT, V.kd, Tr.run] at h; subst h; exact ⟨rfl, [], e_knd2 _ _ _ (by simp [reach_br, reach_ok, encVs] <;> omega)⟩)
  by_cases h3 : k = 3
  · subst h3
    by_cases hn : n = 0 <;> cases l <;> (simp [ofT, V.kd, Tr.run, hn] at h; subst h; exact ⟨rfl, [], e_knd3 _ _ _ (by simp [reach_br, reach_ok, encVs, hn] <;> omega)⟩)
  by_cases h4 : k = 4
  · subst h4
    by_cases hn : n = 0 <;> cases s <;> (simp [ofT, V.kd, Tr.run, hn] at h; subst h; exact ⟨by simp [noRefS, noRef, noRefs, noRefs_encV], [], e_knd4 _ _ _ (by simp [reach_br, reach_ok, hn])⟩)
  by_cases h5 : k = 5
  · subst h5
    by_cases hn : n = 0 <;> cases s <;> (simp [ofT, V.kd, Tr.run, hn] at h; subst h; exact ⟨by simp [noRefS, noRef, noRefs, noRefs_encV], [], e_knd5 _ _ _ (by simp [reach_br, reach_ok, hn])⟩)
  simp [ofT, V.kd, Tr.run, h1, h2, h3, h4, h5] at h
  subst h
  exact ⟨rfl, [], e_knd0 _ _ _ _ (by simp [reach_br, reach_ok, h1, h2, h3, h4, h5])⟩
end Go.Proofs
/-! Which bytes texts have. -/
set_option maxRecDepth 100000
namespace Go.Proofs
open Go.Sw Go

noncomputable def S_spelled : PSpec := spec [arS] fun s => retB (okText s)
def S_spelled_0 (x0 : List UInt8) (x1 : List UInt8) (x2 : Nat) : St := ⟨[(0, (.v (.str x0))), (6, (.it x1 x2))], [], [], [], .false, []⟩
theorem e_spelled (s : List UInt8) {r : Res (Slot × Heap)} (h : Rea cfgS (tcOf (T0)) 280 (.ok (.head 0 (S_spelled_0 (s) (s) (0)))) r) : Rea cfgS (tcOf (T0)) 280 (tFun cfgS (tcOf (T0)) 280 [AV.str s] []) r :=
  rea_cut .a _ (by kernel_rfl) h
theorem h_spelled_0 (x0 : List UInt8) (x1 : List UInt8) (x2 : Nat) {r : Res (Slot × Heap)} (h : Rea cfgS (tcOf (T0)) 280 (.br (decide (x2 < List.length x1)) (.br (decide ((↑(Prod.fst (Utf8.decode (ByteArray.mk (List.toArray x1)) x2)) : Int) < 32)) (.ok (.done ((.v (.bool (false))), []))) (.br (decide (126 < (↑(Prod.fst (Utf8.decode (ByteArray.mk (List.toArray x1)) x2)) : Int))) (.ok (.done ((.v (.bool (false))), []))) (.br (decide ((↑(Prod.fst (Utf8.decode (ByteArray.mk (List.toArray x1)) x2)) : Int) = 34)) (.ok (.done ((.v (.bool (false))), []))) (.br (decide ((↑(Prod.fst (Utf8.decode (ByteArray.mk (List.toArray x1)) x2)) : Int) = 92)) (.ok (.done ((.v (.bool (false))), []))) (.ok (.head 0 (S_spelled_0 (x0) (x1) (x2 + Prod.snd (Utf8.decode (ByteArray.mk (List.toArray x1)) x2))))))))) (.ok (.done ((.v (.bool (decide ((↑(List.length x0) : Int) ≤ 20)))), [])))) r) : Rea cfgS (tcOf (T0)) 280 (.ok (.head 0 (S_spelled_0 x0 x1 x2))) r :=
  rea_head (.b (.t (.b (.t (.t (.t (.t (.t (.t (.t (.t (.t .a))))))))) (.f (.b (.t (.t (.t (.t (.t (.t .a)))))) (.f (.b (.t (.t (.t .a))) (.f .a))))))) (.f .a)) (by kernel_rfl) h

theorem loop_spelled (s : List UInt8) : ∀ (d pos : Nat), s.length - pos = d → pos ≤ s.length →
    Rea cfgS (tcOf T0) 280 (.ok (.head 0 (S_spelled_0 s s pos))) (.ok (.v (.bool ((s.drop pos).all okByte && decide (s.length ≤ 20))), []))
  | 0, pos, hd, hp => by
    refine h_spelled_0 _ _ _ ?_
    have : ¬ pos < s.length := by omega
    have e : pos = s.length := by omega
    subst e
    simp [reach_br, reach_ok, okText]
    omega
  | d + 1, pos, hd, hp => by
    refine h_spelled_0 _ _ _ ?_
    have hlt : pos < s.length := by omega
    have hdrop : s.drop pos = s[pos] :: s.drop (pos + 1) := List.drop_eq_getElem_cons hlt
    have hget : s.getD pos 0 = s[pos] := by simp [List.getD, hlt]
    rw [hdrop, List.all_cons]
    by_cases hb : (s.getD pos 0).toNat < 128
    · have ih := loop_spelled s d (pos + 1) (by omega) hlt
      rw [dec_low hb]
      rw [hget] at hb ⊢
      simp only [reach_br, reach_ok, hlt, decide_true, if_true]
      by_cases h1 : s[pos].toNat < 32
      · have : (s[pos].toNat : Int) < 32 := by omega
        have hno : okByte s[pos] = false := by simp [okByte]; omega
        simp [this, hno]
      by_cases h2 : 126 < s[pos].toNat
      · have : (126 : Int) < s[pos].toNat := by omega
        have h2' : ¬ s[pos].toNat ≤ 126 := by omega
        simp [this, okByte, h2']
      by_cases h3 : s[pos].toNat = 34
      · simp [okByte, h3]
      by_cases h4 : s[pos].toNat = 92
      · simp [okByte, h4]
      have g1 : ¬ (s[pos].toNat : Int) < 32 := by omega
      have g2 : ¬ (126 : Int) < s[pos].toNat := by omega
      have g3 : ¬ (s[pos].toNat : Int) = 34 := by omega
      have g4 : ¬ (s[pos].toNat : Int) = 92 := by omega
      have hok : okByte s[pos] = true := by
        simp [okByte, h3, h4]; omega
      simp only [g1, g2, g3, g4, decide_false, hok, Bool.true_and]
      simpa using ih
    · have hh := dec_high hb
      rw [hget] at hb
      have hno : okByte s[pos] = false := by
        simp [okByte]; omega
      have g2 : (126 : Int) < (Utf8.decode (ByteArray.mk s.toArray) pos).1 := by omega
      simp only [reach_br, reach_ok, hlt, decide_true, if_true, hno, g2]
      simp
theorem spec_spelled : SpecOK Tryz.prog 280 (valF S_spelled) := val1 (C := cfgS) progOK T0_ok fun s r w h => by
  cases h
  refine ⟨rfl, [], e_spelled _ ?_⟩
  have := loop_spelled s s.length 0 rfl (Nat.zero_le _)
  simpa [okText] using this
end Go.Proofs
/-! Values that have the form of their kind. -/
set_option maxRecDepth 100000
namespace Go.Proofs
open Go.Sw Go

noncomputable def S_pnilI : PSpec := spec [arI1] fun _ => .ok .nil0
noncomputable def S_pnilS : PSpec := spec [arS1] fun _ => .ok .nil0
noncomputable def S_pnilE : PSpec := spec [arE] fun _ => .ok .nil0
noncomputable def S_plist : PSpec := spec [arL1] fun l => .ok (.v (.list (encVs l)))
noncomputable def S_shaped : PSpec := spec [arV] fun v => retB v.shaped
noncomputable def S_unshaped : PSpec := spec [arV] fun v => retB (!v.shaped)
noncomputable def S_contS : PSpec := spec [arVn, arF 278] fun l _ => retB (!shapeds (optV l))
noncomputable def S_indS : PSpec := spec [arVn, arF 278] fun l _ => retI (badAt (optV l) 0)
def muS (f : Nat) (xs : List AV) : Nat := match xs with
  | [.list l, _] => 4 * V.sizes (vsOf l) + (if f = 294 then 3 else 4)
  | [.nils, _] => (if f = 294 then 3 else 4)
  | [a] => 4 * (vOf a).size + (if f = 278 then 2 else 1)
  | _ => 0
noncomputable def L_sh : List (Nat × PSpec) := [(250, S_shaped), (278, S_unshaped), (277, S_contS), (294, S_indS)]
noncomputable def B_sh : Specs := T0.with (T0.with (T0.with (T0.with (T0.with (T0.with (T0.with (T0.with (T0.with (T0.with T0 276 (valF S_of)) 397 (valF S_pnilI)) 398 (valF S_pnilI)) 399 (valF S_pnilS)) 402 (valF S_pnilE)) 400 (valF S_plist)) 401 (valF S_plist)) 279 (valF S_in)) 280 (valF S_spelled)) 281 (valF S_cmp)
noncomputable def T_sh (b : Nat) : Specs := Tg B_sh L_sh muS b
theorem e_p1 (n : Int) {r : Res (Slot × Heap)} (h : Rea cfgS (tcOf (T0)) 397 (.ok (.done (.nil0, []))) r) : Rea cfgS (tcOf (T0)) 397 (tFun cfgS (tcOf (T0)) 397 [AV.agg [AV.int .i64 n]] []) r :=
  rea_cut .a _ (by kernel_rfl) h
theorem e_p2 (n : Int) {r : Res (Slot × Heap)} (h : Rea cfgS (tcOf (T0)) 398 (.ok (.done (.nil0, []))) r) : Rea cfgS (tcOf (T0)) 398 (tFun cfgS (tcOf (T0)) 398 [AV.agg [AV.int .i64 n]] []) r :=
  rea_cut .a _ (by kernel_rfl) h
theorem e_p3 (n : List UInt8) {r : Res (Slot × Heap)} (h : Rea cfgS (tcOf (T0)) 399 (.ok (.done (.nil0, []))) r) : Rea cfgS (tcOf (T0)) 399 (tFun cfgS (tcOf (T0)) 399 [AV.agg [AV.str n]] []) r :=
  rea_cut .a _ (by kernel_rfl) h
theorem e_p0  {r : Res (Slot × Heap)} (h : Rea cfgS (tcOf (T0)) 402 (.ok (.done (.nil0, []))) r) : Rea cfgS (tcOf (T0)) 402 (tFun cfgS (tcOf (T0)) 402 [AV.agg []] []) r :=
  rea_cut .a _ (by kernel_rfl) h
theorem e_p4 (l : List V) {r : Res (Slot × Heap)} (h : Rea cfgS (tcOf (T0)) 400 (.ok (.done ((.v (.list (encVs l))), []))) r) : Rea cfgS (tcOf (T0)) 400 (tFun cfgS (tcOf (T0)) 400 [AV.agg [AV.list (encVs l)]] []) r :=
  rea_cut .a _ (by kernel_rfl) h
theorem e_p5 (l : List V) {r : Res (Slot × Heap)} (h : Rea cfgS (tcOf (T0)) 401 (.ok (.done ((.v (.list (encVs l))), []))) r) : Rea cfgS (tcOf (T0)) 401 (tFun cfgS (tcOf (T0)) 401 [AV.agg [AV.list (encVs l)]] []) r :=
  rea_cut .a _ (by kernel_rfl) h
theorem e_unsh (b : Nat) (k : Int) (n : Int) (s : List UInt8) (l : List V) {r : Res (Slot × Heap)} (h : Rea cfgS (tcOf (T_sh b)) 278 (.br (noRefs [(encV (V.mk k n s l))]) (.br (decide (muS 250 [encV (V.mk k n s l)] < b)) (.br (isV (encV (V.mk k n s l))) (.ok (.done ((.v (.bool (!V.shaped (vOf (encV (V.mk k n s l)))))), []))) .bad) .bad) .bad) r) : Rea cfgS (tcOf (T_sh b)) 278 (tFun cfgS (tcOf (T_sh b)) 278 [encV (V.mk k n s l)] []) r :=
  rea_cut (.b (.b (.b (.t .a) .a) .a) .a) _ (by kernel_rfl) h
theorem e_contS (b : Nat) (l : List V) {r : Res (Slot × Heap)} (h : Rea cfgS (tcOf (T_sh b)) 277 (.br (decide (muS 294 [AV.list (encVs l), AV.func 278 []] < b)) (.br (isVs (encVs l)) (.ok (.done ((.v (.bool (decide (0 ≤ badAt (optV (some (vsOf (encVs l)))) 0)))), []))) .bad) .bad) r) : Rea cfgS (tcOf (T_sh b)) 277 (tFun cfgS (tcOf (T_sh b)) 277 [AV.list (encVs l), AV.func 278 []] []) r :=
  rea_cut .a _ (by kernel_rfl) h
theorem e_contN (b : Nat) {r : Res (Slot × Heap)} (h : Rea cfgS (tcOf (T_sh b)) 277 (.br (decide (muS 294 [AV.nils, AV.func 278 []] < b)) (.ok (.done ((.v (.bool (decide (0 ≤ badAt (optV none) 0)))), []))) .bad) r) : Rea cfgS (tcOf (T_sh b)) 277 (tFun cfgS (tcOf (T_sh b)) 277 [AV.nils, AV.func 278 []] []) r :=
  rea_cut .a _ (by kernel_rfl) h
def S_indS_0 (x0 : List AV) (x1 : Int) (x2 : Int) : St := ⟨[(0, (.v (.list x0))), (1, (.v (.func 278 []))), (7, (.v (.int .i64 x1))), (8, (.v (.int .i64 x2)))], [], [], [], .false, []⟩
theorem e_indS (b : Nat) (l : List V) {r : Res (Slot × Heap)} (h : Rea cfgS (tcOf (T_sh b)) 294 (.ok (.head 0 (S_indS_0 (encVs l) ((↑(List.length (encVs l)) : Int)) (0)))) r) : Rea cfgS (tcOf (T_sh b)) 294 (tFun cfgS (tcOf (T_sh b)) 294 [AV.list (encVs l), AV.func 278 []] []) r :=
  rea_cut .a _ (by kernel_rfl) h
theorem h_indS_0 (b : Nat) (x0 : List AV) (x1 : Int) (x2 : Int) {r : Res (Slot × Heap)} (h : Rea cfgS (tcOf (T_sh b)) 294 (.br (decide (x2 < x1)) (.br (inRange x2 (List.length x0)) (.br (shapeB (gA x0 x2) shV) (.br (noRefs [(rx (gA x0 x2) shV)]) (.br (decide (muS 278 [rx (gA x0 x2) shV] < b)) (.br (isV (rx (gA x0 x2) shV)) (.br (!V.shaped (vOf (rx (gA x0 x2) shV))) (.ok (.done ((.v (.int .i64 (x2))), []))) (.ok (.head 0 (S_indS_0 (x0) (x1) (w6 (x2 + 1)))))) .bad) .bad) .bad) .bad) .bad) (.ok (.done ((.v (.int .i64 (-1))), [])))) r) : Rea cfgS (tcOf (T_sh b)) 294 (.ok (.head 0 (S_indS_0 x0 x1 x2))) r :=
  rea_head (.b (.b (.b (.b (.b (.b (.t .a) .a) .a) .a) .a) .a) .a) (by kernel_rfl) h
def S_indN_0 (x0 : Int) (x1 : Int) : St := ⟨[(0, .nil0), (1, (.v (.func 278 []))), (7, (.v (.int .i64 x0))), (8, (.v (.int .i64 x1)))], [], [], [], .false, []⟩
theorem e_indN (b : Nat) {r : Res (Slot × Heap)} (h : Rea cfgS (tcOf (T_sh b)) 294 (.ok (.head 0 (S_indN_0 ((↑0 : Int)) (0)))) r) : Rea cfgS (tcOf (T_sh b)) 294 (tFun cfgS (tcOf (T_sh b)) 294 [AV.nils, AV.func 278 []] []) r :=
  rea_cut .a _ (by kernel_rfl) h
theorem h_indN_0 (b : Nat) (x0 : Int) (x1 : Int) {r : Res (Slot × Heap)} (h : Rea cfgS (tcOf (T_sh b)) 294 (.br (decide (x1 < x0)) .bad (.ok (.done ((.v (.int .i64 (-1))), [])))) r) : Rea cfgS (tcOf (T_sh b)) 294 (.ok (.head 0 (S_indN_0 x0 x1))) r :=
  rea_head .a (by kernel_rfl) h
def S_shaped_0 (x0 : Int) (x1 : List AV) : St := ⟨[(8, (.loc 8 0)), (9, (.v (.int .i64 x0)))], [(8, [(.v (.list x1))])], [], [], .true, []⟩
theorem e_shaped (b : Nat) (k : Int) (n : Int) (s : List UInt8) (l : List V) {r : Res (Slot × Heap)} (h : Rea cfgS (tcOf (T_sh b)) 250 (.br (noRefs [(encV (V.mk k n s l))]) (.br (isV (encV (V.mk k n s l))) (.br (Nat.beq (V.kd (vOf (encV (V.mk k n s l)))) 1) (.br (decide (muS 277 [AV.nils, AV.func 278 []] < b)) (.ok (.done ((.v (.bool (decide (-1000000000 ≤ V.n (vOf (encV (V.mk k n s l)))) && decide (V.n (vOf (encV (V.mk k n s l))) ≤ 1000000000)))), []))) .bad) (.br (Nat.beq (V.kd (vOf (encV (V.mk k n s l)))) 2) (.br (decide (muS 277 [AV.nils, AV.func 278 []] < b)) (.ok (.done ((.v (.bool (decide (0 ≤ V.n (vOf (encV (V.mk k n s l)))) && decide (V.n (vOf (encV (V.mk k n s l))) ≤ 1)))), []))) .bad) (.br (Nat.beq (V.kd (vOf (encV (V.mk k n s l)))) 3) (.br (decide (muS 277 [AV.nils, AV.func 278 []] < b)) (.br (decide (List.length (V.s (vOf (encV (V.mk k n s l)))) ≤ big40)) (.ok (.done ((.v (.bool (okText (V.s (vOf (encV (V.mk k n s l))))))), []))) .bad) .bad) (.br (Nat.beq (V.kd (vOf (encV (V.mk k n s l)))) 4) (.br (noRefS (.v (.iface 317 (.agg [(.list (encVs (V.ps (vOf (encV (V.mk k n s l))))))])))) (.br (noRefs [(.agg [(.list (encVs (V.ps (vOf (encV (V.mk k n s l))))))])]) (.br (isVs (encVs (V.ps (vOf (encV (V.mk k n s l)))))) (.br (noRefS (.v (.list (encVs (vsOf (encVs (V.ps (vOf (encV (V.mk k n s l)))))))))) (.br (decide (muS 277 [AV.list (encVs (vsOf (encVs (V.ps (vOf (encV (V.mk k n s l))))))), AV.func 278 []] < b)) (.br (isVs (encVs (vsOf (encVs (V.ps (vOf (encV (V.mk k n s l)))))))) (.br (!shapeds (optV (some (vsOf (encVs (vsOf (encVs (V.ps (vOf (encV (V.mk k n s l))))))))))) (.ok (.done ((.v (.bool (false))), []))) (.ok (.done ((.v (.bool (decide (2 ≤ (↑(List.length (encVs (V.ps (vOf (encV (V.mk k n s l)))))) : Int)) && decide ((↑(List.length (encVs (V.ps (vOf (encV (V.mk k n s l)))))) : Int) ≤ 6)))), [])))) .bad) .bad) .bad) .bad) .bad) .bad) (.br (Nat.beq (V.kd (vOf (encV (V.mk k n s l)))) 5) (.br (noRefS (.v (.iface 318 (.agg [(.list (encVs (V.ps (vOf (encV (V.mk k n s l))))))])))) (.br (noRefs [(.agg [(.list (encVs (V.ps (vOf (encV (V.mk k n s l))))))])]) (.br (isVs (encVs (V.ps (vOf (encV (V.mk k n s l)))))) (.br (noRefS (.v (.list (encVs (vsOf (encVs (V.ps (vOf (encV (V.mk k n s l)))))))))) (.br (decide (muS 277 [AV.list (encVs (vsOf (encVs (V.ps (vOf (encV (V.mk k n s l))))))), AV.func 278 []] < b)) (.br (isVs (encVs (vsOf (encVs (V.ps (vOf (encV (V.mk k n s l)))))))) (.br (!shapeds (optV (some (vsOf (encVs (vsOf (encVs (V.ps (vOf (encV (V.mk k n s l))))))))))) (.ok (.done ((.v (.bool (false))), []))) (.ok (.head 1 (S_shaped_0 (1) (encVs (V.ps (vOf (encV (V.mk k n s l))))))))) .bad) .bad) .bad) .bad) .bad) .bad) (.br (decide (muS 277 [AV.nils, AV.func 278 []] < b)) (.ok (.done ((.v (.bool (false))), []))) .bad)))))) .bad) .bad) r) : Rea cfgS (tcOf (T_sh b)) 250 (tFun cfgS (tcOf (T_sh b)) 250 [encV (V.mk k n s l)] []) r :=
  rea_cut (.b (.b (.b (.t (.t (.t (.b (.f (.t (.t (.t .a)))) .a)))) (.b (.t (.t (.t (.b (.f (.f (.t (.t (.t .a))))) .a)))) (.b (.t (.t (.t (.b (.f (.f (.f (.t (.t (.b (.t .a) .a)))))) .a)))) (.b (.b (.b (.b (.b (.b (.b (.b .a (.f (.f (.f (.t (.t (.t .a))))))) .a) .a) .a) .a) .a) .a) (.b (.b (.b (.b (.b (.b (.b (.b .a (.f (.f (.f (.f (.t .a)))))) .a) .a) .a) .a) .a) .a) (.t (.t (.t (.b (.f (.f (.f (.f (.f (.f .a)))))) .a))))))))) .a) .a) _ (by kernel_rfl) h
theorem h_shaped_0 (b : Nat) (x0 : Int) (x1 : List AV) {r : Res (Slot × Heap)} (h : Rea cfgS (tcOf (T_sh b)) 250 (.br (decide (x0 < (↑(List.length x1) : Int))) (.br (inRange (w6 (x0 - 1)) (List.length x1)) (.br (shapeB (gA x1 (w6 (x0 - 1))) shV) (.br (inRange x0 (List.length x1)) (.br (shapeB (gA x1 x0) shV) (.br (noRefs [(rx (gA x1 (w6 (x0 - 1))) shV), (rx (gA x1 x0) shV)]) (.br (noRefs [(rx (gA x1 (w6 (x0 - 1))) shV), (rx (gA x1 x0) shV)]) (.br (isV (rx (gA x1 (w6 (x0 - 1))) shV)) (.br (isV (rx (gA x1 x0) shV)) (.br (decide (0 ≤ V.cmp (vOf (rx (gA x1 (w6 (x0 - 1))) shV)) (vOf (rx (gA x1 x0) shV)))) (.ok (.done ((.v (.bool (false))), []))) (.ok (.head 1 (S_shaped_0 (w6 (x0 + 1)) (x1))))) .bad) .bad) .bad) .bad) .bad) .bad) .bad) .bad) (.ok (.done ((.v (.bool (true))), [])))) r) : Rea cfgS (tcOf (T_sh b)) 250 (.ok (.head 1 (S_shaped_0 x0 x1))) r :=
  rea_head (.b (.b (.b (.b (.b (.b (.b (.b (.b (.t .a) .a) .a) .a) .a) .a) .a) .a) .a) .a) (by kernel_rfl) h

theorem spec_p1 : SpecOK Tryz.prog 397 (valF S_pnilI) := val1 (C := cfgS) progOK T0_ok fun x r _ h => by
  cases h
  exact ⟨rfl, [], e_p1 _ (by simp [reach_ok])⟩
theorem spec_p2 : SpecOK Tryz.prog 398 (valF S_pnilI) := val1 (C := cfgS) progOK T0_ok fun x r _ h => by
  cases h
  exact ⟨rfl, [], e_p2 _ (by simp [reach_ok])⟩
theorem spec_p3 : SpecOK Tryz.prog 399 (valF S_pnilS) := val1 (C := cfgS) progOK T0_ok fun x r _ h => by
  cases h
  exact ⟨rfl, [], e_p3 _ (by simp [reach_ok])⟩
theorem spec_p0 : SpecOK Tryz.prog 402 (valF S_pnilE) := val1 (C := cfgS) progOK T0_ok fun x r _ h => by
  cases h
  exact ⟨rfl, [], e_p0 (by simp [reach_ok])⟩
theorem spec_p4 : SpecOK Tryz.prog 400 (valF S_plist) := val1 (C := cfgS) progOK T0_ok fun x r _ h => by
  cases h
  exact ⟨by simp [noRefS, noRef, noRefs_encV], [], e_p4 _ (by simp [reach_ok])⟩
theorem spec_p5 : SpecOK Tryz.prog 401 (valF S_plist) := val1 (C := cfgS) progOK T0_ok fun x r _ h => by
  cases h
  exact ⟨by simp [noRefS, noRef, noRefs_encV], [], e_p5 _ (by simp [reach_ok])⟩
theorem B_sh_ok : TOK Tryz.prog B_sh := (((((((((T0_ok.with spec_of).with spec_p1).with spec_p2).with spec_p3).with spec_p0).with spec_p4).with spec_p5).with spec_inn).with spec_spelled).with spec_cmp
theorem loop_indS {b : Nat} (l : List V) (hl : l.length ≤ big40) (hw : V.wfs l = true) (hb : 4 * V.sizes l + 2 < b) : ∀ (post pre : List V), pre ++ post = l →
    Rea cfgS (tcOf (T_sh b)) 294 (.ok (.head 0 (S_indS_0 (encVs l) l.length pre.length))) (.ok (.v (.int .i64 (badAt post pre.length)), []))
  | [], pre, e => by
    have e : pre = l := by simpa using e
    subst e
    refine h_indS_0 _ _ _ _ ?_
    simp [reach_br, reach_ok, badAt]
  | p :: post, pre, e => by
    subst e
    have hlen : (pre.length : Int) < ((pre ++ p :: post).length : Nat) := by simp; omega
    have hi : w6 ((pre.length : Int) + 1) = ((pre ++ [p]).length : Nat) := by
      rw [w6_id] <;> simp [big40] at * <;> omega
    have hp : p.wf = true := by
      simp only [wfs_append, V.wfs, Bool.and_eq_true] at hw; exact hw.2.1
    have hs : 4 * p.size + 2 < b := by
      simp only [sizes_append, V.sizes] at hb; omega
    have ih := loop_indS (b := b) (pre ++ p :: post) hl hw hb post (pre ++ [p]) (by simp)
    refine h_indS_0 _ _ _ _ ?_
    simp only [reach_br, gA_enc rfl, shV, shape_enc, rx_enc, hlen, decide_true, encVs_len, inR (Int.natCast_nonneg _) hlen, noRefs, noRef_encV, muS, vOf_enc, isV_enc, hp, hi, if_true, reach_ok, badAt]
    cases hq : p.shaped with
    | true => simpa [hs] using ih
    | false => simp [hs]
theorem loop_incr {b : Nat} (l : List V) (hl : l.length ≤ big40) (hw : V.wfs l = true) : ∀ (post pre : List V) (p : V), pre ++ p :: post = l →
    Rea cfgS (tcOf (T_sh b)) 250 (.ok (.head 1 (S_shaped_0 ((pre.length : Int) + 1) (encVs l)))) (.ok (.v (.bool (incr (p :: post))), []))
  | [], pre, p, e => by
    subst e
    refine h_shaped_0 _ _ _ ?_
    simp [reach_br, reach_ok, incr]
  | q :: post, pre, p, e => by
    subst e
    have hlen : (pre.length : Int) + 1 < ((pre ++ p :: q :: post).length : Nat) := by simp; omega
    have hi : w6 ((pre.length : Int) + 1 + 1) = ((pre ++ [p]).length : Nat) + 1 := by
      rw [w6_id] <;> simp [big40] at * <;> omega
    have hj : w6 ((pre.length : Int) + 1 - 1) = (pre.length : Nat) := by
      rw [w6_id] <;> simp [big40] at * <;> omega
    have hw' := hw
    simp only [wfs_append, V.wfs, Bool.and_eq_true] at hw'
    have ih := loop_incr (b := b) (pre ++ p :: q :: post) hl hw post (pre ++ [p]) q (by simp)
    have g1 : gA (encVs (pre ++ p :: q :: post)) (pre.length : Int) = encV p := gA_enc rfl
    have g2 : gA (encVs (pre ++ p :: q :: post)) ((pre.length : Int) + 1) = encV q := by
      have := gA_enc (pre := pre ++ [p]) (post := post) (p := q) (i := (pre.length : Int) + 1) (by simp)
      simpa using this
    have hr1 : inRange (pre.length : Int) (pre ++ p :: q :: post).length = true := inR (Int.natCast_nonneg _) (by simp; omega)
    have hr2 : inRange ((pre.length : Int) + 1) (pre ++ p :: q :: post).length = true := inR (by omega) hlen
    refine h_shaped_0 _ _ _ ?_
    simp only [reach_br, hj, g1, g2, shV, shape_enc, rx_enc, hlen, decide_true, encVs_len, hr1, hr2, noRefs, noRef_encV, vOf_enc, isV_enc, hw'.2.1, hw'.2.2.1, hi, if_true, reach_ok, incr]
    cases hq : decide (0 ≤ p.cmp q) with
    | true => simp
    | false => simpa using ih
theorem step_shaped (v : V) (w : v.wf = true) : Sh2 cfgS B_sh L_sh muS 250 [encV v] (.v (.bool v.shaped)) := by
  obtain ⟨k, n, s, l⟩ := v
  refine ⟨by simp [noRefs, noRef_encV], rfl, [], e_shaped _ _ _ _ _ ?_⟩
  have w' := w
  simp only [V.wf, Bool.and_eq_true, decide_eq_true_eq] at w'
  have hb : muS 250 [encV (V.mk k n s l)] = 4 * V.sizes l + 5 := by
    simp [muS, V.size]; omega
  have hnil : muS 277 [AV.nils, AV.func 278 []] < 4 * V.sizes l + 5 := by simp [muS]
  have hlst : muS 277 [AV.list (encVs l), AV.func 278 []] < 4 * V.sizes l + 5 := by simp [muS]
  have hs : noRefs (encVs l) = true := noRefs_encV l
  simp only [reach_br, hb, hnil, hlst, noRefs, noRef, noRefS, noRef_encV, hs, isV_enc, vOf_enc, w, isVs_enc, vsOf_enc, V.ps_mk, V.n_mk, V.s_mk, w'.2, w'.1.2, w'.1.1.2, decide_true, Bool.and_self, if_true, encVs_len, optV, reach_ok, V.shaped]
  cases h1 : Nat.beq (V.mk k n s l).kd 1 with
  | true => simp
  | false =>
  cases h2 : Nat.beq (V.mk k n s l).kd 2 with
  | true => simp
  | false =>
  cases h3 : Nat.beq (V.mk k n s l).kd 3 with
  | true => simp
  | false =>
  cases h4 : Nat.beq (V.mk k n s l).kd 4 with
  | true => cases hq : shapeds l <;> simp
  | false =>
  cases h5 : Nat.beq (V.mk k n s l).kd 5 with
  | false => simp
  | true =>
    cases hq : shapeds l with
    | false => simp
    | true =>
      cases l with
      | nil => 
        have := h_shaped_0 (4 * V.sizes [] + 5) 1 (encVs []) (r := .ok (.v (.bool true), [])) (by simp [reach_br, reach_ok, encVs])
        simpa [incr] using this
      | cons p post =>
        have := loop_incr (b := 4 * V.sizes (p :: post) + 5) (p :: post) w'.1.2 w'.2 post [] p rfl
        simpa using this
theorem all_sh : ∀ p ∈ L_sh, ∀ xs r, (p.2 xs).run = .ok r → Sh2 cfgS B_sh L_sh muS p.1 xs r := by
  intro p hp xs r hr
  simp only [L_sh, List.mem_cons, List.not_mem_nil, or_false] at hp
  rcases hp with rfl | rfl | rfl | rfl
  · obtain ⟨a, ys, rfl, w1, hr⟩ := spec_cons hr
    obtain ⟨rfl, hr⟩ := spec_nil hr
    cases hr
    exact step_shaped a w1
  · obtain ⟨a, ys, rfl, w1, hr⟩ := spec_cons hr
    obtain ⟨rfl, hr⟩ := spec_nil hr
    cases hr
    obtain ⟨k, n, s, l⟩ := a
    have w1 : (V.mk k n s l).wf = true := w1
    refine ⟨by simp [noRefs, noRef_encV], rfl, [], e_unsh _ _ _ _ _ ?_⟩
    simp [reach_br, noRefs, noRef_encV, muS, w1, reach_ok]
  · obtain ⟨a, ys, rfl, w1, hr⟩ := spec_cons hr
    obtain ⟨u, ys, rfl, w3, hr⟩ := spec_cons hr
    obtain ⟨rfl, hr⟩ := spec_nil hr
    cases hr
    cases a with
    | none => exact ⟨by simp [noRefs, noRef], rfl, [], e_contN _ (by simp [reach_br, reach_ok, muS, optV, badAt, shapeds])⟩
    | some l =>
      have w1 : V.wfs l = true ∧ l.length ≤ big40 := w1
      refine ⟨by simp [noRefs, noRef, noRefs_encV], rfl, [], e_contS _ _ ?_⟩
      have := badAt_neg l 0 (Int.le_refl 0)
      simp [reach_br, reach_ok, muS, optV, w1, this]
  · obtain ⟨a, ys, rfl, w1, hr⟩ := spec_cons hr
    obtain ⟨u, ys, rfl, w3, hr⟩ := spec_cons hr
    obtain ⟨rfl, hr⟩ := spec_nil hr
    cases hr
    cases a with
    | none => exact ⟨by simp [noRefs, noRef], rfl, [], e_indN _ (h_indN_0 _ _ _ (by simp [reach_br, reach_ok, optV, badAt]))⟩
    | some l =>
      have w1 : V.wfs l = true ∧ l.length ≤ big40 := w1
      refine ⟨by simp [noRefs, noRef, noRefs_encV], rfl, [], e_indS _ _ ?_⟩
      have := loop_indS (b := muS 294 [arVn.enc (some l), (arF 278).enc u]) l w1.2 w1.1 (by simp [muS]) l [] rfl
      simpa [optV] using this
theorem spec_shaped : SpecOK Tryz.prog 250 (valF S_shaped) := val_group (C := cfgS) progOK B_sh_ok L_sh muS all_sh rfl
end Go.Proofs

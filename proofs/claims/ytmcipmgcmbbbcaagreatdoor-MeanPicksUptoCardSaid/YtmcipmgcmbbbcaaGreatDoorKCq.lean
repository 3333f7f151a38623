/- The law of the statement named at the end of the last text, for every input whose bulk is at most 1048576 wherever the listed package variables hold what the program lays into them (the row laid); no other conditions. -/
import Derived.Test.YtmcipmgcmbbbcaaGreatDoorC02
import Derived.Test.YtmcipmgcmbbbcaaGreatDoorKMT13
import Derived.Test.YtmcipmgcmbbbcaaGreatDoorRdv
import Derived.Test.YtmcipmgcmbbbcaaGreatDoorTie
import Derived.WalkKit
import Derived.ProofKit
import Derived.OpenShut
import Derived.Deep.DeepHandedRow
import Derived.Deep.DeepWitnessRowRef
import Derived.Lib.LaidTab
import Derived.Stop.LaidErr
import Derived.WideKeyArgs
namespace Go.Proofs.YtmcipmgcmbbbcaaGreatDoor.meanPicks
open Go Go.ChangeShapes Go.WideShapes Go.ChangeAt Go.RowKit Go.Sw

set_option maxRecDepth 100000
theorem own : ownKnob Tryz.prog.godebug = none := by kernel_rfl

theorem post_of_kept {H : Type} {enc : TypeId × Value → H} {P : Program} {f : Func} {s : ChangeSpec} {apart fresh handsOn again : Bool} {W W' : World} {args : Array Value} {v : Value} {ds gs : List (DataW H)} {before pa pv : List MemPlace}
    (hW : DataW.Whole enc P f.params.toList s.vars apart W args.toList ds gs before)
    (hres : ∀ (b : Nat) (sp : Nat → Bool) (hd : Bool), DataW.TrodAll enc P W' b sp hd f.resultTypes.toList (v.resultList f.resultTypes.size) (s.fn H (ds ++ gs)).results [])
    (hargs : ∀ sp : Nat → Bool, (∀ p ∈ before, sp p.block = true) → DataW.TrodAll enc P W' 0 sp true f.params.toList args.toList (s.fn H (ds ++ gs)).args pa)
    (hvars : ∀ sp : Nat → Bool, (∀ p ∈ before, sp p.block = true) → DataW.TrodVars enc P W' sp s.vars (s.fn H (ds ++ gs)).vars pv)
    (hps : before = pa ++ pv) (hk : W.keptBut W' (· ∈ before)) (hfz : ∀ a : Addr, a.block < W.heap.size → W'.frozen? a = W.frozen? a)
    (hok : ∀ (j : Nat) (t : TypeId) (r : Value), f.resultTypes[j]? = some t → (v.resultList f.resultTypes.size)[j]? = some r → Value.okWide P W' .any 0 t r) :
    s.post enc P f apart fresh handsOn again W args v W' := by
  have hold : ∀ p ∈ before, (fun b => decide (b < W.heap.size)) p.block = true := fun p hp => by simpa using hW.lt p hp
  refine ⟨ds, gs, before, [], pa, pv, hW, hres _ _ _, hargs _ hold, hvars _ hold, World.keptBut_mono (fun p hp => ⟨hp, ?_⟩) hk, fun _ => ?_⟩
  · rw [hps, List.mem_append] at hp
    exact Or.inr hp
  · have hW0 := hW
    obtain ⟨_, _, _, _, _, hz, hn⟩ := hW
    refine ⟨hok, _, _, ([] ++ pa) ++ pv, ⟨[] ++ pa, pv, trodAll_append (hargs _ (fun _ _ => rfl)) (hres _ _ _), hvars _ (fun _ _ => rfl), rfl, ?_, ?_⟩, ?_⟩
    · intro b off hp
      have hp' : MemPlace.cell b off ∈ before := by rw [hps]; simpa using hp
      rw [hfz _ (hW0.lt _ hp')]
      exact hz b off hp'
    · intro ha
      have := hn ha
      rw [hps] at this
      simpa using this
    · intro p hp _
      rw [hps]
      simpa using hp

theorem gAscii : Tryz.prog.globalNamed "strings.asciiSpace" = some 0 := by kernel_rfl
theorem gPow : Tryz.prog.globalNamed "internal/strconv.uint64pow10" = some 3 := by kernel_rfl

def asciiZ : List Int := [0, 0, 0, 0, 0, 0, 0, 0, 0, 1, 1, 1, 1, 1, 0, 0, 0, 0, 0, 0, 0, 0, 0, 0, 0, 0, 0, 0, 0, 0, 0, 0, 1, 0, 0, 0, 0, 0, 0, 0, 0, 0, 0, 0, 0, 0, 0, 0, 0, 0, 0, 0, 0, 0, 0, 0, 0, 0, 0, 0, 0, 0, 0, 0, 0, 0, 0, 0, 0, 0, 0, 0, 0, 0, 0, 0, 0, 0, 0, 0, 0, 0, 0, 0, 0, 0, 0, 0, 0, 0, 0, 0, 0, 0, 0, 0, 0, 0, 0, 0, 0, 0, 0, 0, 0, 0, 0, 0, 0, 0, 0, 0, 0, 0, 0, 0, 0, 0, 0, 0, 0, 0, 0, 0, 0, 0, 0, 0, 0, 0, 0, 0, 0, 0, 0, 0, 0, 0, 0, 0, 0, 0, 0, 0, 0, 0, 0, 0, 0, 0, 0, 0, 0, 0, 0, 0, 0, 0, 0, 0, 0, 0, 0, 0, 0, 0, 0, 0, 0, 0, 0, 0, 0, 0, 0, 0, 0, 0, 0, 0, 0, 0, 0, 0, 0, 0, 0, 0, 0, 0, 0, 0, 0, 0, 0, 0, 0, 0, 0, 0, 0, 0, 0, 0, 0, 0, 0, 0, 0, 0, 0, 0, 0, 0, 0, 0, 0, 0, 0, 0, 0, 0, 0, 0, 0, 0, 0, 0, 0, 0, 0, 0, 0, 0, 0, 0, 0, 0, 0, 0, 0, 0, 0, 0, 0, 0, 0, 0, 0, 0, 0, 0, 0, 0, 0, 0]
def powZ : List Int := [1, 10, 100, 1000, 10000, 100000, 1000000, 10000000, 100000000, 1000000000, 10000000000, 100000000000, 1000000000000, 10000000000000, 100000000000000, 1000000000000000, 10000000000000000, 100000000000000000, 1000000000000000000, 10000000000000000000]
theorem ascii_eq : asciiSpace = asciiZ.map fun z => AV.int .u8 z := by kernel_rfl
theorem pow_eq : pow10 = powZ.map fun z => AV.int .u64 z := by kernel_rfl

/-- what the row's list gives. -/
theorem tabs {W : World} (h : laidMetH Tryz.prog Rows.meanPicksUptoRow.laid W) : Tabs W := by
  have h0 : laidMet Tryz.prog [("math/bits.deBruijn32tab", Rows.laid_math_bits_deBruijn32tab), ("math/bits.deBruijn64tab", Rows.laid_math_bits_deBruijn64tab), ("internal/strconv.uint64pow10", Lib.tabData .u64 powZ), ("unicode.White_Space", Rows.laid_unicode_White_Space), ("strings.asciiSpace", Lib.tabData .u8 asciiZ)] W := h
  have hp := laidMet.tail (laidMet.tail h0)
  have ha := laidMet.tail (laidMet.tail hp)
  have t1 : Lib.TabIs Tryz.prog W "strings.asciiSpace" .u8 asciiZ := Lib.tabIs_of_head gAscii (t := 295) (by kernel_rfl) Tryz.underlying295 Tryz.underlying5 (by kernel_rfl) (by kernel_rfl) ha
  have t2 : Lib.TabIs Tryz.prog W "internal/strconv.uint64pow10" .u64 powZ := Lib.tabIs_of_head gPow (t := 388) (by kernel_rfl) Tryz.underlying388 Tryz.underlying381 (by kernel_rfl) (by kernel_rfl) hp
  intro b cs hb j y hy
  unfold globs at hb
  split at hb
  · cases hb; exact tab_cells t1 gAscii ascii_eq j y hy
  · cases hb; exact tab_cells t2 gPow pow_eq j y hy
  · cases hb

/-- a contract of calls whose results are known. -/
theorem val_oneP {P : Program} {f : Nat} {S : PSpec} (hstep : ∀ xs r, (S xs).run = .ok r → PureOK P f xs r) : SpecOK P f (valF S) := by
  intro call hcall xs H w g ow args hv hh gc bd gv R hR
  have hR : ResPost w g ow (valF S xs H).run = some R := hR
  obtain ⟨s, k1, k4⟩ := valF_ok (S := S) (xs := xs) (H := H) rfl (fun w hw => by rw [hw] at hR; cases hR) (fun hw => by rw [hw] at hR; cases hR)
  rw [k4] at hR
  have hR : some (OkPost w g ow s H) = some R := hR
  cases hR
  exact (hstep xs s k1).lift hv hh gc bd gv

/-- the examples that the law checks first are as said. -/
theorem known : SpecOK Tryz.prog 17 (valF S_known) := by
  refine val_oneP fun xs r hr => ?_
  obtain ⟨rfl, h⟩ := spec_nil hr
  cases h
  exact known48

theorem vr_of {W : World} {v : V} {cs : Array Value} (h : RdV (W := W) v cs.toList) : VR (ghW W) (encV v) (.agg cs) := by
  obtain ⟨b, sl, e, hb, hr, hc⟩ := h.ex
  cases v with
  | mk k n s ps =>
    refine ⟨cs, rfl, ?_⟩
    rw [e]
    exact ⟨_, _, rfl, rfl, _, _, rfl, rfl, _, _, rfl, ⟨b, rfl, hb⟩, _, _, rfl, hr.vr, rfl⟩

theorem same_at {W W' : World} (hk : W.keptBut W' (fun _ => False)) (p : MemPlace) (hp : p.block < W.heap.size) : W.sameAt W' p := by
  have h := hk.2.2 p.block hp
  cases p with
  | cell b off =>
    simp only [MemPlace.block] at h
    simp only [World.sameAt, World.cell?]
    split at h
    · rename_i h1 h2
      rw [h1, h2]
      simp [h.2.2.2 off (fun x => x)]
    · rename_i h1 h2
      rw [h1, h2]
    · rename_i o o' h1 h2
      rw [h]
  | map b =>
    simp only [MemPlace.block] at h
    simp only [World.sameAt]
    split at h
    · rename_i h1 h2
      rw [h1, h2]
      obtain ⟨rfl, rfl, hs, hc⟩ := h
      congr 2
      exact Array.ext_getElem? fun j => hc j (fun x => x)
    · rename_i h1 h2
      rw [h1, h2]
      obtain ⟨rfl, rfl⟩ := h.resolve_left (fun x => x)
      rfl
    · exact h

theorem contract (H : Type) (enc : TypeId × Value → H) (W : World) (base : Nat) (args : Array Value) (ds gs : List (DataW H)) (before : List MemPlace)
    (hval : ∀ (j : Nat) t v, Tryz.f10.params[j]? = some t → args[j]? = some v → Value.okWide Tryz.prog W .any base t v)
    (hW : DataW.Whole enc Tryz.prog Tryz.f10.params.toList Rows.meanPicksSpec.vars false W args.toList ds gs before) (hb : Rows.uptoBulkAll (ds ++ gs) ≤ 1048576)
    (hL : laidMetH Tryz.prog Rows.meanPicksUptoRow.laid W) :
    Calls Tryz.prog 10 args W fun e W' => ∃ v, e = .returned v ∧ Rows.meanPicksSpec.post enc Tryz.prog Tryz.f10 false true false false W args v W' := by
  have hW' := hW
  obtain ⟨p, q, hA0, hV, rfl, hfz, hnd⟩ := hW
  have hA : DataW.TrodAll enc Tryz.prog W 0 (fun _ => true) true Tryz.f10.params.toList args.toList ds p := hA0
  rw [Tryz.params10] at hA hval
  obtain ⟨v0, vs0, d0, ds0, p0, q0, hargs, rfl, rfl, h0, r0⟩ := trodAll_cons hA
  obtain ⟨v1, vs1, d1, ds1, p1, q1, rfl, rfl, rfl, h1, r1⟩ := trodAll_cons r0
  obtain ⟨v2, vs2, d2, ds2, p2, q2, rfl, rfl, rfl, h2, r2⟩ := trodAll_cons r1
  obtain ⟨rfl, rfl, rfl⟩ := trodAll_nil r2
  obtain rfl : args = #[v0, v1, v2] := by cases args; simp_all
  obtain ⟨rfl, rfl⟩ := trodVars_none hV
  obtain ⟨c0, rfl, _⟩ := okWide_struct Tryz.underlying34 (hval 0 34 v0 rfl rfl)
  obtain ⟨c2, rfl, _⟩ := okWide_struct Tryz.underlying34 (hval 2 34 v2 rfl rfl)
  obtain ⟨n, rfl, rfl, rfl, hn⟩ := open_int Tryz.underlying3 (hval 1 3 v1 rfl rfl) h1
  have b0 : Rows.uptoBulk d0 ≤ 1048576 := by simp only [List.append_nil, Rows.uptoBulkAll] at hb; omega
  have b2 : Rows.uptoBulk d2 ≤ 1048576 := by simp only [List.append_nil, Rows.uptoBulkAll] at hb; omega
  have h0' := h0
  have h2' := h2
  obtain ⟨m0, h0'⟩ := h0'
  obtain ⟨m2, h2'⟩ := h2'
  obtain ⟨x0, k0⟩ := rdV 1048576 (Nat.le_refl _) m0 _ _ _ b0 h0'
  obtain ⟨x2, k2⟩ := rdV 1048576 (Nat.le_refl _) m2 _ _ _ b2 h2'
  clear hA0
  have hn' := wf_i64 hn
  have hp : PureOK Tryz.prog 10 [encV x0, .int .i64 n, encV x2] (.v (.bool true)) := by
    refine pure_at (spec_picks known) ?_ ?_ rfl
    · simp [S_picks, spec, isV_enc, k0.wf, k2.wf, retB]
      rfl
    · simp [noRefs, noRef, noRef_encV]
  have walk := PureOK.calls hp (tabs hL) (args := #[.agg c0, .int .i64 n, .agg c2]) ⟨_, _, rfl, vr_of k0, _, _, rfl, rfl, _, _, rfl, vr_of k2, rfl⟩
  refine walk.mono fun e W' ⟨he, hk⟩ => ?_
  subst he
  have stay : ∀ {t : TypeId} {v : Value} {d : DataW H} {ps : List MemPlace}, Tryz.prog.readableRec t = true → t < Tryz.prog.types.size → DataW.Trod enc Tryz.prog W 0 (fun _ => true) true t v d ps → (∀ p ∈ ps, p.block < W.heap.size) →
      ∀ sp : Nat → Bool, (∀ p ∈ ps, sp p.block = true) → DataW.Trod enc Tryz.prog W' 0 sp true t v d ps :=
    fun hr hrow h hl sp hs => Go.WideElems.Trod_stays (by kernel_rfl) hr hrow h (fun p hp => same_at hk.kept p (hl p hp)) hs
  have hlt := hW'.lt
  have r34 : Tryz.prog.readableRec 34 = true := by kernel_rfl
  have s34 : 34 < Tryz.prog.types.size := of_decide_eq_true (by kernel_rfl)
  refine ⟨_, rfl, post_of_kept (pa := p0 ++ ([] ++ (p2 ++ []))) (pv := []) hW' (fun _ _ _ => trodAll_cons_mk (shut_bool Tryz.underlying4 _) trodAll_mk0) (fun sp hs => ?_) (fun _ _ => rfl) rfl
    (World.keptBut_mono (fun _ f => f.elim) hk.kept) hk.frozen (ok_one (by kernel_rfl) rfl (okWide_bool_mk Tryz.underlying4 _))⟩
  exact trodAll_cons_mk (stay r34 s34 h0 (fun p hp => hlt p (by simp [hp])) sp (fun p hp => hs p (by simp [hp])))
    (trodAll_cons_mk (shut_int Tryz.underlying3 hn)
      (trodAll_cons_mk (stay r34 s34 h2 (fun p hp => hlt p (by simp [hp])) sp (fun p hp => hs p (by simp [hp]))) trodAll_mk0))

end Go.Proofs.YtmcipmgcmbbbcaaGreatDoor.meanPicks

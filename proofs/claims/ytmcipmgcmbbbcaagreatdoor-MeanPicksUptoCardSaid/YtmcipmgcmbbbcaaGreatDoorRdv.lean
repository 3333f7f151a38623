/- The law of the statement named at the end of the last text, for every input whose bulk is at most 1048576 wherever the listed package variables hold what the program lays into them (the row laid); no other conditions. -/
import Derived.Test.YtmcipmgcmbbbcaaGreatDoorCards
import Derived.Deep.Slices
import Derived.Test.YtmcipmgcmbbbcaaGreatDoorT02
import Derived.Test.YtmcipmgcmbbbcaaGreatDoorW08
import Derived.Test.YtmcipmgcmbbbcaaGreatDoorKMT13
/-! What a row's data of the language's values are. -/
namespace Go.Proofs.YtmcipmgcmbbbcaaGreatDoor
open Go Go.Sw Go.ChangeShapes Go.WideShapes

theorem bulk_part {H : Type} {d : DataW H} {l : List (DataW H)} (h : d ∈ l) : Rows.uptoBulk d ≤ Rows.uptoBulkAll l := by
  induction l with
  | nil => cases h
  | cons x r ih =>
    simp only [Rows.uptoBulkAll]
    cases List.mem_cons.1 h with
    | inl e => subst e; omega
    | inr e => have := ih e; omega
theorem bulk_one {H : Type} (d : DataW H) : 1 ≤ Rows.uptoBulk d := by
  cases d with
  | lit l => cases l <;> simp [Rows.uptoBulk]
  | _ => simp [Rows.uptoBulk]
theorem bulk_len {H : Type} (l : List (DataW H)) : l.length ≤ Rows.uptoBulkAll l := by
  induction l with
  | nil => simp
  | cons x r ih => have := bulk_one x; simp only [Rows.uptoBulkAll, List.length_cons]; omega

theorem wfs_map {n : Nat} {f : Nat → V} (h : ∀ i, i < n → (f i).wf = true) : V.wfs ((List.range n).map f) = true := by
  have : ∀ l : List V, (∀ v ∈ l, v.wf = true) → V.wfs l = true := by
    intro l
    induction l with
    | nil => intro _; rfl
    | cons v l ih => intro h; simp only [V.wfs, Bool.and_eq_true]; exact ⟨h v (by simp), ih fun u hu => h u (by simp [hu])⟩
  refine this _ fun v hv => ?_
  obtain ⟨i, hi, rfl⟩ := List.mem_map.1 hv
  exact h i (List.mem_range.1 hi)
theorem encVs_map : ∀ l : List V, encVs l = l.map encV
  | [] => rfl
  | v :: l => by simp only [encVs, List.map_cons, encVs_map l]

/-- the cells of a value. -/
structure RdV {W : World} (v : V) (cs : List Value) : Prop where
  wf : v.wf = true
  ex : ∃ (b : ByteArray) (sl : Value), cs = [.int .i64 v.k, .int .i64 v.n, .string b, sl] ∧ b.data.toList = v.s ∧ Rd W (.list (encVs v.ps)) sl ∧ Cell1 sl

theorem u31 : Tryz.prog.underlying 31 = some (.int .i64) := Tryz.underlying31
theorem u3 : Tryz.prog.underlying 3 = some (.int .i64) := Tryz.underlying3
theorem c34 : Tryz.prog.cellsOf 34 = 4 := by kernel_rfl
theorem c31 : Tryz.prog.cellsOf 31 = 1 := by kernel_rfl
theorem c3 : Tryz.prog.cellsOf 3 = 1 := by kernel_rfl
theorem c9 : Tryz.prog.cellsOf 9 = 1 := by kernel_rfl
theorem c32 : Tryz.prog.cellsOf 32 = 1 := by kernel_rfl

theorem wf_i64 {n : Int} (h : (Lit.int .i64 n).wf = true) : -9223372036854775808 ≤ n ∧ n ≤ 9223372036854775807 := by
  simp [Lit.wf, IntKind.min, IntKind.max, IntKind.signed, IntKind.bits] at h
  omega

theorem cells_at {W : World} {a : Addr} {n : Nat} {cs : List Value} (h : W.cells? 0 a n = some cs) : cs.length = n ∧ ∀ j, j < n → W.cell? (a.add j) = cs[j]? := by
  unfold World.cells? at h
  rw [if_pos (Nat.zero_le _)] at h
  have hl := mapM_some_length h
  refine ⟨by simpa using hl, fun j hj => ?_⟩
  have := mapM_some_get h j j (by simp [hj])
  exact this

theorem len4 {α : Type} {l : List α} (h : l.length = 4) : ∃ a b c d, l = [a, b, c, d] := by
  rcases l with _ | ⟨a, _ | ⟨b, _ | ⟨c, _ | ⟨d, _ | ⟨e, l⟩⟩⟩⟩⟩ <;> simp at h
  exact ⟨a, b, c, d, rfl⟩

theorem rdV {H : Type} {enc : TypeId × Value → H} {W : World} {sp : Nat → Bool} : ∀ (N : Nat), N ≤ 1048576 → ∀ (fuel : Nat) (cs : List Value) (d : DataW H) (ps : List MemPlace), Rows.uptoBulk d ≤ N →
    DataW.trod enc Tryz.prog W 0 sp true fuel 34 cs = some (d, ps) → ∃ v : V, RdV (W := W) v cs := by
  intro N
  induction N with
  | zero =>
    intro _ fuel cs d ps hb
    have := bulk_one d
    omega
  | succ N ih =>
    intro hN fuel cs d ps hb h
    obtain ⟨xs, n, rfl, hx, hl, hxl, hf⟩ := DataW.trod_struct Tryz.underlying34 h
    rw [c34] at hl
    replace hxl : xs.length = 4 := hxl
    replace hf : ∀ (i : Nat) (f : Field), [(⟨"Kind", 31, 0, false, "", "", 0⟩ : Field), ⟨"N", 3, 1, false, "", "", 8⟩, ⟨"Text", 9, 2, false, "", "", 16⟩, ⟨"Parts", 32, 3, false, "", "", 32⟩][i]? = some f → DataW.trod enc Tryz.prog W 0 sp true n f.type ((cs.drop f.offset).take (Tryz.prog.cellsOf f.type)) = xs[i]? := fun i f hi => hf i f (by simpa using hi)
    obtain ⟨v0, v1, v2, v3, rfl⟩ := len4 hl
    obtain ⟨x0, x1, x2, x3, rfl⟩ := len4 hxl
    have f0 := hf 0 _ rfl
    have f1 := hf 1 _ rfl
    have f2 := hf 2 _ rfl
    have f3 := hf 3 _ rfl
    simp only [c31, c3, c9, c32, List.drop, List.take, List.getElem?_cons_zero, List.getElem?_cons_succ] at f0 f1 f2 f3
    obtain ⟨k, e0, y0, w0⟩ := DataW.trod_int u31 f0
    obtain ⟨m, e1, y1, w1⟩ := DataW.trod_int u3 f1
    obtain ⟨s, e2, y2, w2⟩ := DataW.trod_string Tryz.underlying9 f2
    cases e0; cases e1; cases e2
    subst y0; subst y1; subst y2
    cases hx
    have hk := wf_i64 w0
    have hm := wf_i64 w1
    have hb' : s.data.toList.length + Rows.uptoBulk x3.1 + 2 ≤ N := by
      simp [Rows.uptoBulk, Rows.uptoBulkAll] at hb
      simp; omega
    have hsl : s.data.toList.length ≤ 274877906944 := by omega
    rcases Go.Deep.open_slice Tryz.underlying32 f3 with ⟨e3, y3⟩ | ⟨a, len, cap, m', n', D, Pl, e3, _, hlc, _, hm', y3, he⟩
    · cases e3
      refine ⟨.mk k m s.data.toList [], ?_, s, _, rfl, rfl, .nil none 0, rfl⟩
      simp only [V.wf, V.wfs, Bool.and_eq_true, decide_eq_true_eq, big40, List.length_nil]
      exact ⟨⟨⟨⟨⟨⟨hk.1, hk.2⟩, hm.1⟩, hm.2⟩, decide_eq_true hsl⟩, rfl⟩, trivial⟩
    · cases e3
      subst y3
      have hlen : len ≤ N := by
        have h1 := bulk_len ((List.range len).map D)
        simp [Rows.uptoBulk] at hb' h1
        omega
      have hlm : len ≤ m' := by rw [hm']; split <;> omega
      have key : ∀ i, i < len → ∃ v : V, ∃ cs', W.cells? 0 (a.add (i * 4)) 4 = some cs' ∧ RdV (W := W) v cs' := by
        intro i hi
        obtain ⟨cs', h1, h2⟩ := he i (by omega)
        rw [c34] at h1
        have hbi : Rows.uptoBulk (D i) ≤ Rows.uptoBulkAll ((List.range len).map D) := bulk_part (List.mem_map.2 ⟨i, List.mem_range.2 hi, rfl⟩)
        obtain ⟨v, hv⟩ := ih (by omega) n' cs' (D i) (Pl i) (by simp [Rows.uptoBulk] at hb'; omega) h2
        exact ⟨v, cs', h1, hv⟩
      obtain ⟨F, hF⟩ := Go.Deep.choose_lt key
      refine ⟨.mk k m s.data.toList ((List.range len).map F), ?_, s, _, rfl, rfl, ?_, rfl⟩
      · simp only [V.wf, Bool.and_eq_true, decide_eq_true_eq, big40, List.length_map, List.length_range]
        refine ⟨⟨⟨⟨⟨⟨hk.1, hk.2⟩, hm.1⟩, hm.2⟩, decide_eq_true hsl⟩, (show len ≤ 274877906944 by omega)⟩, wfs_map fun i hi => ?_⟩
        obtain ⟨_, _, hv⟩ := hF i hi
        exact hv.wf
      · by_cases h0 : len = 0
        · subst h0
          exact .nil _ _
        · have hsp : a.spot = none := by
            obtain ⟨cs', h1, hv⟩ := hF 0 (by omega)
            obtain ⟨hl', hc⟩ := cells_at h1
            have := hc 0 (by omega)
            obtain ⟨b, sl, e, _⟩ := hv.ex
            subst e
            simp only [List.getElem?_cons_zero] at this
            unfold World.cell? at this
            split at this
            · split at this
              · cases this
              · rename_i hs
                simpa [Addr.add] using hs
            · cases this
          obtain ⟨B, off, spt⟩ := a
          simp only at hsp
          subst hsp
          have cell : ∀ i, i < len → ∀ j, j < 4 → ∃ cs', W.cells? 0 ((⟨B, off, none⟩ : Addr).add (i * 4)) 4 = some cs' ∧ RdV (W := W) (F i) cs' ∧ W.cell? ⟨B, off + (i * 4 + j), none⟩ = cs'[j]? := by
            intro i hi j hj
            obtain ⟨cs', h1, hv⟩ := hF i hi
            refine ⟨cs', h1, hv, ?_⟩
            rw [← (cells_at h1).2 j hj, Go.Deep.add_add]
            unfold Addr.add
            split <;> simp_all
          have hll : (encVs ((List.range len).map F)).length = len := by simp [encVs_map]
          have get : ∀ (i : Nat) x, (encVs ((List.range len).map F))[i]? = some x → i < len ∧ x = encV (F i) := by
            intro i x hx
            rw [encVs_map, List.map_map, List.getElem?_map] at hx
            by_cases hi : i < len
            · simp [hi] at hx; exact ⟨hi, hx.symm⟩
            · simp [hi] at hx
          have mk := Rd.list (W := W) (encVs ((List.range len).map F)) B off 4 cap (fun i j => (W.cell? ⟨B, off + (i * 4 + j), none⟩).getD .nilFunc) (by omega)
            (fun i x hx => by
              obtain ⟨hi, rfl⟩ := get i x hx
              cases hFi : F i
              simp [encV, cellsOfAV])
          rw [hll] at mk
          refine mk ?_ ?_
          all_goals
            intro i x hx j y hy
            obtain ⟨hi, rfl⟩ := get i x hx
            have hj : j < 4 := by
              cases hFi : F i
              rw [hFi] at hy
              have := (List.getElem?_eq_some_iff.1 hy).1
              simpa [encV, cellsOfAV] using this
            obtain ⟨cs', h1, hv, hc⟩ := cell i hi j hj
            obtain ⟨b, sl, e, hb2, hr, hc1⟩ := hv.ex
            subst e
            cases hFi : F i with
            | mk k2 n2 s2 p2 => ?_
            rw [hFi] at hy hr hb2
            simp only [hFi, V.k_mk, V.n_mk] at hc
            simp only [hc]
            simp only [V.s_mk, V.ps_mk] at hb2 hr
            match j, hj with
            | 0, _ => simp [encV, cellsOfAV] at hy ⊢; subst hy; first | rfl | exact .int _ _
            | 1, _ => simp [encV, cellsOfAV] at hy ⊢; subst hy; first | rfl | exact .int _ _
            | 2, _ => simp [encV, cellsOfAV] at hy ⊢; subst hy; first | rfl | (subst hb2; exact .str _)
            | 3, _ => simp [encV, cellsOfAV] at hy ⊢; subst hy; first | exact hc1 | exact hr
end Go.Proofs.YtmcipmgcmbbbcaaGreatDoor

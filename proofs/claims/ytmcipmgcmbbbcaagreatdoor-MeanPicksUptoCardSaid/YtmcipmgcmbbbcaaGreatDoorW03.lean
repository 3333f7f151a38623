/- A reflective evaluator over the code of a program, and the proof that what it finds is what the machine of the model does. It asks of the program what ProgOK says; nothing of a law is said here. -/
import Derived.Test.YtmcipmgcmbbbcaaGreatDoorW02
/-! Appending to what is a temporary's own. -/
namespace Go.Sw
open Go

/-- every type has a zero value, of its size. -/
def ZeroOk (P : Program) : Prop := ∀ t i, t < P.types.size → P.info? t = some i → ∃ z, i.zero = some z ∧ z.cells.size = i.size

theorem RowR.append {g : Gh} {sz : Nat} {l ys : List AV} {a1 a2 arr : Array Value} (h1 : RowR g sz l a1) (h2 : RowR g sz ys a2)
    (e1 : ∀ k v, k < l.length * sz → a1[k]? = some v → arr[k]? = some v) (e2 : ∀ k v, k < ys.length * sz → a2[k]? = some v → arr[l.length * sz + k]? = some v) : RowR g sz (l ++ ys) arr := by
  intro i x hx
  rcases Nat.lt_or_ge i l.length with hi | hi
  · rw [List.getElem?_append_left hi] at hx
    obtain ⟨h3, h4⟩ := h1 i x hx
    refine ⟨h3, fun j y hy => ?_⟩
    obtain ⟨v, h5, h6, h7⟩ := h4 j y hy
    exact ⟨v, e1 _ v (row_lt hi (by have := len_of_get hy; rwa [h3] at this)) h5, h6, h7⟩
  · rw [List.getElem?_append_right hi] at hx
    obtain ⟨h3, h4⟩ := h2 _ x hx
    refine ⟨h3, fun j y hy => ?_⟩
    obtain ⟨v, h5, h6, h7⟩ := h4 j y hy
    have h8 := e2 _ v (row_lt (len_of_get hx) (by have := len_of_get hy; rwa [h3] at this)) h5
    have : i * sz + j = l.length * sz + ((i - l.length) * sz + j) := by
      rw [← Nat.add_assoc, ← Nat.add_mul]; congr 2; omega
    exact ⟨v, by rw [this]; exact h8, h6, h7⟩

theorem setRow_touch {w : World} {B : Nat} {cur cs : Array Value} {e : Nat} {fr : Nat × Nat} (h : w.heap[B]? = some (.cells cur e fr)) : Touch B w (w.setRow B cs) := by
  have hs : (w.setRow B cs).heap.size = w.heap.size := by simp [World.setRow]
  refine ⟨fun B' hne _ => setRow_other w B B' cs hne, Nat.le_of_eq hs.symm, ?_, rfl, rfl, rfl⟩
  rw [hs]
  exact (Array.getElem?_eq_some_iff.1 h).1

section
variable {P : Program} {n : Nat} {o : Oper} {st : St} {a : Act} {w : World} {g : Gh} {sv : Nat → Option Nat} {ow : Ow}

theorem ofConst_own {c : Value} {sz : Nat} {l : List AV} : ofConst c ≠ .own sz l := by
  intro h
  match c with
  | .agg ⟨cs⟩ => simp only [ofConst] at h; split at h <;> cases h
  | .bool _ | .int _ _ | .float _ _ | .complex _ _ _ | .string _ | .pointer none | .pointer (some _) | .slice none 0 0 | .slice none 0 (_ + 1) | .slice none (_ + 1) _
  | .slice (some _) _ _ | .map none | .map (some _) | .chan _ | .func _ _ _ | .nilFunc | .iface _ _ | .nilIface | .tuple _ => simp [ofConst] at h

theorem own_tmp {x : Operand} {sz : Nat} {l : List AV} (h : opd st x = .own sz l) : ∃ t, x = .tmp t := by
  cases x with
  | tmp t => exact ⟨t, rfl⟩
  | const c => exact absurd h ofConst_own
  | func f => cases h
  | global _ => simp only [opd] at h; split at h <;> cases h

theorem handed_view {x : Operand} : ∀ t s, handed x (opd st x) = some (t, s) → s = view (getT st.tmps t) := by
  intro t s h
  cases x with
  | tmp k => simp only [opd] at h; cases hk : getT st.tmps k <;> rw [hk] at h <;> simp [handed] at h <;> (obtain ⟨rfl, rfl⟩ := h; rw [hk])
  | const c => cases hk : opd st (.const c) <;> rw [hk] at h <;> simp [handed] at h
  | func f => simp [opd, handed] at h
  | global b => cases hk : opd st (.global b) <;> rw [hk] at h <;> simp [handed] at h

theorem zeroCells_size (zv : Value) (k : Nat) : (Builtin.zeroCells zv.cells k).size = k * zv.cells.size := size_zeroCells _ _

/-- a grown slice. -/
theorem append_grown (hF : FR n st a w g sv ow) (hZ : ZeroOk P) {d : Option Nat} (hd : ∀ t, d = some t → t < n) {t ty e rt : Nat} {td : TypeDesc} (ht : P.underlying t = some (.slice e)) (hty : P.underlying ty = some td)
    (htd : (∃ q, td = .slice q) ∨ td = .string) {sz by_ : Nat} (hsz : sizeT P e = some sz) (hby : bytesT P e = some by_) {v x : Value} {l ys : List AV} {news : List Value} {base : Option Addr} {sCap : Nat}
    (hv : v = .slice base l.length sCap) (hl : VR g (.list l) v) (hls : sizedAll sz l = true)
    (hn1 : news.length = ys.length * sz) (hn2 : RowR g sz ys news.toArray)
    (hn4 : ∀ w1 : World, w1.heap = w.heap → (Builtin.lenOf x).run P w1 = .ok ys.length w1 ∧ (Builtin.firstCells sz ys.length x).run P w1 = .ok news.toArray w1)
    (hb : by_ ≤ 256) (hmax : l.length + ys.length ≤ bigLen) (hg : sCap < l.length + ys.length) {src : Option (Nat × Slot)} (hsrc : ∀ t s, src = some (t, s) → s = view (getT st.tmps t)) :
    ∃ v' w' g' ow', (Builtin.append_ #[t, ty] rt #[v, x]).run P w = .ok v' w' ∧ FR n (applyEff st d { dst := .own sz (l ++ ys), src := src }) (a.put d v') w' g' sv ow' ∧ Fut w g ow w' g' ow' := by
  obtain ⟨i, hi, rfl⟩ := sizeT_info hsz
  obtain ⟨hlt, i', hi', hby'⟩ := bytesT_lt hby
  rw [hi] at hi'
  cases hi'
  subst hby'
  obtain ⟨zv, hz, hzs⟩ := hZ _ _ hlt hi
  obtain ⟨olds, ho1, ho2, _, ho4⟩ := firstCells_list (P := P) hF hl hls
  subst hv
  rw [bigLen_eq] at hmax
  have hfit : (l.length + ys.length) * i.bytes ≤ 140737488355328 := by
    have := Nat.mul_le_mul hmax hb; omega
  have hrun := append_grow_run (P := P) (w := w) (rt := rt) ht hty htd hi hz (sCap := sCap) (base := base) (hn4 w rfl).1 (ho4 w.drew rfl).2 (hn4 w.drew rfl).2 hg hfit (by omega)
  have hge := grownCap_ge w (l.length + ys.length) sCap e
  have hrow : RowR g i.size (l ++ ys) (olds.toArray ++ news.toArray ++ Builtin.zeroCells zv.cells (grownCap w (l.length + ys.length) sCap e - (l.length + ys.length))) := by
    refine RowR.append ho2 hn2 (fun k u hk hu => ?_) (fun k u hk hu => ?_)
    · rw [Array.getElem?_append_left (by simp [ho1]; omega), Array.getElem?_append_left (by simp [ho1]; omega)]; exact hu
    · rw [Array.getElem?_append_left (by simp [ho1, hn1]; omega), Array.getElem?_append_right (by simp [ho1])]
      simpa [ho1] using hu
  obtain ⟨g', ow', h8, h9⟩ := hF.own_new hd (cap := grownCap w (l.length + ys.length) sCap e) (elem := e) (w1 := w.drew) (src := src) rfl rfl rfl rfl hsrc hrow
    (by
      simp only [Array.size_append, List.size_toArray, zeroCells_size, hzs, ho1, hn1, ← Nat.add_mul]
      exact Nat.mul_le_mul_right _ (by omega)) (by simpa using hge)
  refine ⟨_, _, g', ow', hrun, ?_, h9⟩
  simpa using h8

theorem op_append {c : Go.Call} (hF : FR n st a w g sv ow) (hZ : ZeroOk P) (hd : ∀ t, o.dst = some t → t < n) {e : Eff} {A : Option Nat} (ho : o.op = .call c) (hc : c.callee = .builtin .append)
    {x y : Operand} {t ty : Nat} (hxy : c.args.toList = [x, y]) (htt : c.argTypes.toList = [t, ty]) {td : TypeDesc} (hty : P.underlying ty = some td) (htd : (∃ q, td = .slice q) ∨ td = .string)
    (hnh : ∀ r ver sz off len, opd st x ≠ .v (.hsl r ver sz off len))
    (he : evAppend P false t x (opd st x) (opd st y) (envOf A st) = .ok e) : OpOK P n o a w g ow (applyEff st o.dst e) := by
  have hrun0 := run_builtin (P := P) (w := w) (a := a) ho hc
  rw [arr2 hxy, arr2 htt] at hrun0
  have fin : ∀ v' w', (Builtin.append_ #[t, ty] o.type #[a.eval x, a.eval y]).run P w = .ok v' w' → (execOp a.eval o).run P w = .ok (.value v') w' := by
    intro v' w' h
    rw [hrun0]
    simp [builtin, h]
  have hx := hF.opnd x
  unfold evAppend at he
  split at he
  · rename_i el hu
    obtain ⟨sz, hsz, h2⟩ := Res.mbind_ok he
    obtain ⟨by_, hby, h3⟩ := Res.mbind_ok h2
    obtain ⟨ys, hys, h4⟩ := Res.mbind_ok h3
    obtain ⟨hg, h5⟩ := guardR_ok h4
    clear he h2 h3 h4
    simp only [Bool.and_eq_true, Bool.not_eq_true'] at hg
    obtain ⟨⟨⟨g1, g2⟩, g3⟩, g4⟩ := hg
    have g1 := Nat.le_of_ble_eq_true g1
    obtain ⟨news, hn1, hn2, hn3, hn4⟩ := appended_run (P := P) hF hys g4
    have hsz := opt_ok hsz
    have hby := opt_ok hby
    have grow := fun (l : List AV) (base : Option Addr) (sCap : Nat) (src : Option (Nat × Slot)) (hv : a.eval x = .slice base l.length sCap) (hl : VR g (.list l) (a.eval x)) (hls : sizedAll sz l = true) (hmax : l.length + ys.length ≤ bigLen)
        (hg : sCap < l.length + ys.length) (hsrc : ∀ t s, src = some (t, s) → s = view (getT st.tmps t)) =>
      append_grown (P := P) (rt := o.type) hF hZ hd hu hty htd hsz hby hv hl hls hn1 hn2 hn4 g1 hmax hg hsrc
    -- an empty slice without room
    have empty : ∀ p, a.eval x = .slice p 0 0 → ∀ src : Option (Nat × Slot), (∀ t s, src = some (t, s) → s = view (getT st.tmps t)) → ys.length ≤ bigLen →
        (ys = [] → ∃ ow', FR n (applyEff st o.dst { dst := .own sz [], src := src }) (a.put o.dst (a.eval x)) w g sv ow' ∧ Fut w g ow w g ow') →
        OpOK P n o a w g ow (applyEff st o.dst { dst := .own sz ys, src := src }) := by
      intro p hp src hsrc hmax hnil
      by_cases hy0 : ys = []
      · subst hy0
        have hnews : news = [] := List.eq_nil_of_length_eq_zero (by simpa using hn1)
        subst hnews
        obtain ⟨ow', h6, h7⟩ := hnil rfl
        have hr := append_room_run (P := P) (w := w) (w' := w) (rt := o.type) hu hty htd hsz (base := p) (sLen := 0) (sCap := 0) (hn4 w rfl).1 (hn4 w rfl).2 (by simp)
          (fun b _ => by simp [storeCells]) (fun _ => rfl)
        refine ⟨_, a.eval x, w, g, sv, ow', fin _ _ ?_, .inl rfl, h6, h7⟩
        rw [hp]
        simpa using hr
      · have hpos : 0 < ys.length := List.length_pos_iff.mpr hy0
        obtain ⟨v', w', g', ow', h6, h7, h8⟩ := grow [] p 0 src (by simpa using hp) (by rw [hp]; exact VR.nil) rfl (by simpa using hmax) (by simpa using hpos) hsrc
        exact ⟨_, v', w', g', sv, ow', fin _ _ h6, .inl rfl, by simpa using h7, h8⟩
    split at h5
    · rename_i hxv
      obtain ⟨g5, h6⟩ := guardR_ok h5
      cases h6
      rw [hxv] at hx
      have hp : _ = Value.slice none 0 0 := hx
      exact empty none hp none (fun _ _ h => by cases h) (of_decide_eq_true g5) (fun _ => hF.free hd (s := .own sz []) (fun _ _ => .inl ⟨rfl, none, hp⟩) trivial)
    · rename_i sz' l hxv
      obtain ⟨g5, h6⟩ := guardR_ok h5
      cases h6
      simp only [Bool.and_eq_true, decide_eq_true_eq] at g5
      obtain ⟨g5, g6⟩ := g5
      have g5 := Nat.eq_of_beq_eq_true g5
      subst g5
      have hsrc := handed_view (st := st) (x := x)
      rw [hxv] at hsrc ⊢
      have hvl : VR g (.list l) (a.eval x) := by rw [hxv] at hx; exact SR.toAV (.own sz l) _ _ hx rfl
      rw [hxv] at hx
      rcases hx with ⟨rfl, p, hp⟩ | ⟨B, cap, hp, hown, hO⟩
      · have := empty p hp (handed x (.own sz [])) hsrc (by simpa using g6) (fun _ => by have := hF.handOp hd x; rwa [hxv] at this)
        simpa using this
      · obtain ⟨hlc, ⟨arr, ⟨elem, hB⟩, hcs⟩, him, hno⟩ := hO
        have hls : sizedAll sz l = true := List.all_eq_true.mpr (fun z hz => by
          obtain ⟨k, hk⟩ := List.mem_iff_getElem?.mp hz
          rw [(him k z hk).1]; exact Nat.beq_refl _)
        by_cases hroom : l.length + ys.length ≤ cap
        · obtain ⟨t0, rfl⟩ := own_tmp hxv
          have hfit : l.length * sz + news.length ≤ arr.size := by
            rw [hn1, ← Nat.add_mul]; exact Nat.le_trans (Nat.mul_le_mul_right _ hroom) hcs
          have hst := run_storeCells_at P B (l.length * sz) elem news 0 arr w hB (by simpa using hfit) hn3
          simp only [Nat.add_zero] at hst
          have hr := append_room_run (P := P) (w := w) (w' := w.setRow B (arr.toList.take (l.length * sz) ++ news ++ arr.toList.drop (l.length * sz + news.length)).toArray) (rt := o.type) hu hty htd hsz
            (base := some ⟨B, 0, none⟩) (sLen := l.length) (sCap := cap) (hn4 w rfl).1 (hn4 w rfl).2 hroom (fun b hb => by cases hb; rw [Addr_add]; simpa using hst) (fun h => by cases h)
          have hcell : ∀ k, w.cell? ⟨B, k, none⟩ = arr[k]? := fun k => cell_of_row w B k arr elem (0, 0) hB
          have hold : ∀ k, k < l.length * sz → (arr.toList.take (l.length * sz) ++ news ++ arr.toList.drop (l.length * sz + news.length)).toArray[k]? = arr[k]? := by
            intro k hk
            have : k < (arr.toList.take (l.length * sz)).length := by simp; omega
            simp only [List.getElem?_toArray]
            rw [List.append_assoc, List.getElem?_append_left this, List.getElem?_take_of_lt hk]; simp
          have hrow : RowR g sz (l ++ ys) (arr.toList.take (l.length * sz) ++ news ++ arr.toList.drop (l.length * sz + news.length)).toArray := by
            refine RowR.append (a1 := arr) (fun i z hz => ⟨(him i z hz).1, fun j q hq => ?_⟩) hn2 (fun k u hk hu => by rw [hold k hk]; exact hu) (fun k u hk hu => ?_)
            · obtain ⟨u, h7, h8, h9⟩ := hF.gc _ _ _ ((him i z hz).2 j q hq)
              rw [hcell] at h7
              exact ⟨u, h7, h8, h9⟩
            · have hlt : (arr.toList.take (l.length * sz)).length = l.length * sz := by simp; omega
              have hu' : news[k]? = some u := by simpa using hu
              simp only [List.getElem?_toArray]
              rw [List.append_assoc, List.getElem?_append_right (by rw [hlt]; omega), hlt, Nat.add_sub_cancel_left, List.getElem?_append_left (len_of_get hu')]
              exact hu'
          obtain ⟨g', ow', h8, h9⟩ := hF.own_set hd (B := B) (cap := cap) (sz := sz) (l := l ++ ys) (elem := elem) (src := handed (.tmp t0) (.own sz l)) (setRow_touch hB) (setRow_heap w B arr _ elem _ hB)
            (fun k q hk => by
              have hlt : k < l.length * sz := by
                rcases Nat.lt_or_ge k (l.length * sz) with h | h
                · exact h
                · exact absurd hk (hno k q h)
              refine ⟨Nat.lt_of_lt_of_le hlt (Nat.mul_le_mul_right _ (by simp)), ?_⟩
              obtain ⟨u, h7, h8, h9⟩ := hF.gc _ _ _ hk
              rw [hcell] at h7
              exact ⟨u, by rw [hold k hlt]; exact h7, h8, h9⟩)
            (fun h hh => by rw [hown] at hh; cases hh; exact ⟨t0, rfl, _, rfl⟩) hsrc hrow
            (by simp only [List.size_toArray, List.length_append, List.length_take, List.length_drop, Array.length_toList]; omega) (by simpa using hroom)
          refine ⟨_, _, _, g', sv, ow', fin _ _ ?_, .inl rfl, h8, h9⟩
          rw [hp, List.length_append]
          exact hr
        · obtain ⟨v', w', g', ow', h6, h7, h8⟩ := grow l (some ⟨B, 0, none⟩) cap (handed x (.own sz l)) hp hvl hls g6 (by omega) hsrc
          exact ⟨_, v', w', g', sv, ow', fin _ _ h6, .inl rfl, h7, h8⟩
    · rename_i hxv
      exact absurd hxv (hnh _ _ _ _ _)
    · cases h5
  · cases he

end
end Go.Sw
/-! Boxes of the frame, and objects that hold cells. -/
namespace Go.Sw
open Go

/-- A box, or an object that holds cells. -/
inductive Pl where
  | loc (s : Nat)
  | ref (r : Nat)

def Pl.root : Pl → Nat → Root
  | .loc s, o => .cell s o
  | .ref r, o => .hcell r o
def Pl.top : Pl → Root
  | .loc s => .site s
  | .ref r => .hobj r
def Pl.cells (st : St) : Pl → Option (List Slot)
  | .loc s => assoc s st.locs
  | .ref r => match st.heap[r]? with | some (.cells cs) => some cs | _ => none
def Pl.at (g : Gh) (sv : Nat → Option Nat) : Pl → Option Nat
  | .loc s => sv s
  | .ref r => g.rf r
def Pl.set (st : St) (cs : List Slot) (log : List (Nat × Nat)) (e : Eff) : Pl → Eff
  | .loc s => { e with box := some (s, cs), log := log }
  | .ref r => { e with heap := some (st.heap.set r (.cells cs)) }

theorem assoc_set_same (s : Nat) (c : List Slot) : ∀ l : List (Nat × List Slot), assoc s (assocSet s c l) = some c
  | [] => by simp [assocSet, assoc]
  | (k, d) :: l => by
    simp only [assocSet]
    cases h : Nat.beq k s with
    | true => simp [assoc]
    | false => simp only [assoc, h]; exact assoc_set_same s c l
theorem assoc_set_other {s t : Nat} (c : List Slot) (h : t ≠ s) : ∀ l : List (Nat × List Slot), assoc t (assocSet s c l) = assoc t l
  | [] => by
    have : Nat.beq s t = false := by
      cases hb : Nat.beq s t with
      | false => rfl
      | true => exact absurd (Nat.eq_of_beq_eq_true hb).symm h
    simp [assocSet, assoc, this]
  | (k, d) :: l => by
    simp only [assocSet]
    cases hk : Nat.beq k s with
    | true =>
      have e := Nat.eq_of_beq_eq_true hk
      subst e
      have : Nat.beq k t = false := by
        cases hb : Nat.beq k t with
        | false => rfl
        | true => exact absurd (Nat.eq_of_beq_eq_true hb).symm h
      simp [assoc, this]
    | false =>
      simp only [assoc]
      cases Nat.beq k t with
      | true => rfl
      | false => exact assoc_set_other c h l

section
variable {P : Program} {n : Nat} {o : Oper} {st : St} {a : Act} {w : World} {g : Gh} {sv : Nat → Option Nat} {ow : Ow}

theorem CellsR.anySv {root : Nat → Root} {cs : List Slot} {arr : Array Value} {sv' : Nat → Option Nat} (h : CellsR w g sv ow root cs arr) : CellsR w g sv' ow root cs arr :=
  ⟨h.1, fun o c hc => by
    obtain ⟨h1, v, h2, h3, h4⟩ := h.2 o c hc
    exact ⟨h1, v, h2, h3, SR.plain_sv h1 h4⟩⟩

/-- what is known of a place. -/
structure PlR (w : World) (g : Gh) (sv : Nat → Option Nat) (ow : Ow) (pl : Pl) (cs : List Slot) (B : Nat) (arr : Array Value) : Prop where
  ad : pl.at g sv = some B
  hd : ow B = some ⟨pl.top, []⟩
  bk : Blk w B arr
  im : ∀ o y, ¬ g.im B o y
  cl : CellsR w g sv ow pl.root cs arr

theorem FR.place (hF : FR n st a w g sv ow) {pl : Pl} {cs : List Slot} (h : pl.cells st = some cs) : ∃ B arr, PlR w g sv ow pl cs B arr := by
  cases pl with
  | loc s =>
    obtain ⟨B, arr, h1, h2, h3, h4, h5⟩ := hF.lc s cs h
    exact ⟨B, arr, h1, h2, h3, h4, h5⟩
  | ref r =>
    simp only [Pl.cells] at h
    split at h
    · rename_i cs' hr
      cases h
      obtain ⟨B, arr, h1, h2, h3, h4, h5⟩ := hF.hr.ob r _ hr
      exact ⟨B, arr, h1, h2, h3, h4, h5.anySv⟩
    · cases h

/-- A place has other cells from then on. -/
theorem FR.cells_step (hF : FR n st a w g sv ow) {d : Option Nat} (hd : ∀ t, d = some t → t < n) {pl : Pl} {cs cs' : List Slot} {B : Nat} {arr arr' : Array Value} {elem : Nat} {f : Hold → Option Hold} {w' : World} {e : Eff} {log : List (Nat × Nat)} {v' : Value}
    (hc : pl.cells st = some cs) (hp : PlR w g sv ow pl cs B arr) (ht : Touch B w w') (hB : w'.heap[B]? = some (.cells arr' elem (0, 0)))
    (hbox : e.box = none) (hheap : e.heap = none)
    (hf : ∀ h, (∀ t, h.root ≠ .tmp t) → (∀ o, h.root ≠ pl.root o) → f h = some h)
    (hft : ∀ t p, d ≠ some t → (∀ s, e.src ≠ some (t, s)) → f ⟨.tmp t, p⟩ = some ⟨.tmp t, p⟩)
    (hcl : CellsR w' g sv (reownH f ow) pl.root cs' arr')
    (hdst : ∀ t, d = some t → SR w' g sv (reownH f ow) ⟨.tmp t, []⟩ e.dst v')
    (hsrc : ∀ t s, e.src = some (t, s) → d ≠ some t → SR w' g sv (reownH f ow) ⟨.tmp t, []⟩ s (a.tmps.getD t undef))
    (lkd : ∀ t, d = some t → lcTop (fun s => (assoc s st.locs).isSome = true) e.dst)
    (lks : ∀ t s, e.src = some (t, s) → lcTop (fun s => (assoc s st.locs).isSome = true) s) :
    FR n (applyEff st d (pl.set st cs' log e)) (a.put d v') w' g sv (reownH f ow) ∧ Fut w g ow w' g (reownH f ow) := by
  have hfB : reownH f ow B = some ⟨pl.top, []⟩ := by
    simp only [reownH, hp.hd, Option.bind_some]
    cases pl <;> exact hf _ (by simp [Pl.top]) (by simp [Pl.top, Pl.root])
  have hne : ∀ B' h, ow B' = some h → h.root ≠ pl.top → B' ≠ B := by
    intro B' h hh hr e
    subst e
    rw [hp.hd] at hh
    cases hh
    exact hr rfl
  have hk : ∀ {p : Root → Prop}, (∀ r, p r → r ≠ pl.top ∧ ∀ q, f ⟨r, q⟩ = some ⟨r, q⟩) → Keeps p w g ow w' g (reownH f ow) := fun hpp =>
    ⟨Gh.le.refl g, fun B' r q hr h => ⟨by simp [reownH, h, (hpp r hr).2 q], ht.oth _ (hne B' _ h (hpp r hr).1) (hF.bd _ _ h), fun _ _ h => h⟩⟩
  have hkn : Keeps (fun r => r ≠ pl.top ∧ (∀ t, r ≠ .tmp t) ∧ ∀ o, r ≠ pl.root o) w g ow w' g (reownH f ow) := hk (fun r hr => ⟨hr.1, fun q => hf _ hr.2.1 hr.2.2⟩)
  have hgc : GCons w' g := ht.gc hF.gc (Gh.le.refl g) (fun o y h => absurd h (hp.im o y)) (fun _ _ _ _ h => h)
  have hbl : Blk w' B arr' := ⟨elem, hB⟩
  have hsrc' : (pl.set st cs' log e).src = e.src := by cases pl <;> rfl
  have hdst' : (pl.set st cs' log e).dst = e.dst := by cases pl <;> rfl
  have hlk : ∀ s, (assoc s st.locs).isSome = true → (assoc s (applyEff st d (pl.set st cs' log e)).locs).isSome = true := by
    intro s h
    cases pl with
    | ref r => simpa [applyEff, Pl.set, hbox] using h
    | loc s' =>
      simp only [applyEff, Pl.set]
      by_cases hs : s = s'
      · subst hs; rw [assoc_set_same]; rfl
      · rw [assoc_set_other _ hs]; exact h
  have lcUp : ∀ {s : Slot}, lcTop (fun s => (assoc s st.locs).isSome = true) s → lcTop (fun s => (assoc s (applyEff st d (pl.set st cs' log e)).locs).isSome = true) s := by
    intro s h
    cases s <;> first | exact hlk _ h | exact h
  refine ⟨hF.step hd hgc (fun t h => by rw [hdst']; exact hdst t h) (fun t s h => hsrc t s (hsrc' ▸ h)) (fun t h1 h2 => ?_) (fun t h => by rw [hdst']; exact lcUp (lkd t h)) (fun t s h => lcUp (lks t s (hsrc' ▸ h))) hlk (fun s cs2 h => ?_) ?_ ?_ ?_, ?_⟩
  · exact (hk (p := fun r => r = .tmp t) (fun r hr => by
      subst hr
      exact ⟨by cases pl <;> simp [Pl.top], fun q => hft t q h1 (fun s hs => h2 s (hsrc'.trans hs))⟩)).keep rfl (fun _ _ h => h)
  · cases pl with
    | ref r =>
      have h : assoc s st.locs = some cs2 := by simpa [applyEff, Pl.set, hbox] using h
      exact (hF.lc s cs2 h).keeps hkn ⟨by simp [Pl.top], by simp, by simp [Pl.root]⟩ (fun o => ⟨by simp [Pl.top], by simp, by simp [Pl.root]⟩) (fun _ h => h)
    | loc s' =>
      simp only [applyEff, Pl.set] at h
      by_cases hs : s = s'
      · subst hs
        rw [assoc_set_same] at h
        cases h
        exact ⟨B, arr', hp.ad, hfB, hbl, hp.im, hcl⟩
      · rw [assoc_set_other _ hs] at h
        exact (hF.lc s cs2 h).keeps hkn ⟨by simp [Pl.top, hs], by simp, by simp [Pl.root]⟩ (fun o => ⟨by simp [Pl.top], by simp, by simp [Pl.root, hs]⟩) (fun _ h => h)
  · cases pl with
    | loc s' =>
      have e1 : (applyEff st d ((Pl.loc s').set st cs' log e)).heap = st.heap := by simp [applyEff, Pl.set, hheap]
      rw [e1]
      exact ⟨fun r o h => (hF.hr.ob r o h).keeps hkn ⟨by simp [Pl.top], by simp, by simp [Pl.root]⟩ (fun o => ⟨by simp [Pl.top], by simp, by simp [Pl.root]⟩) (fun _ h => h) (fun _ _ h => h), hF.hr.nf⟩
    | ref r =>
      have e1 : (applyEff st d ((Pl.ref r).set st cs' log e)).heap = st.heap.set r (.cells cs') := by simp [applyEff, Pl.set]
      rw [e1]
      refine ⟨fun r' o h => ?_, fun r' h => hF.hr.nf r' (by simpa using h)⟩
      by_cases hr : r' = r
      · subst hr
        have hlt : r' < st.heap.length := by
          simp only [Pl.cells] at hc
          split at hc
          · rename_i h0; exact len_of_get h0
          · cases hc
        rw [List.getElem?_set_self hlt] at h
        cases h
        exact ⟨B, arr', hp.ad, hfB, hbl, hp.im, hcl.anySv⟩
      · rw [List.getElem?_set_ne (fun e => hr e.symm)] at h
        exact (hF.hr.ob r' o h).keeps hkn ⟨by simp [Pl.top, hr], by simp, by simp [Pl.root]⟩ (fun o => ⟨by simp [Pl.top], by simp, by simp [Pl.root, hr]⟩) (fun _ h => h) (fun _ _ h => h)
  · exact DR.keeps hkn ⟨by cases pl <;> simp [Pl.top], by simp, by cases pl <;> simp [Pl.root]⟩ _ _ hF.df
  · exact fun B' k hk => Nat.lt_of_lt_of_le (reownH_bd hF.bd B' k hk) ht.sz
  · exact ⟨Gh.le.refl g, ht.sz, fun B' q hB' => hkn.ow B' .ctx q ⟨by cases pl <;> simp [Pl.top], by simp, by cases pl <;> simp [Pl.root]⟩ hB', ht.tp, ht.os, ht.ot⟩

end
end Go.Sw
/-! Loads. -/
namespace Go.Sw
open Go

section
variable {P : Program} {n : Nat} {o : Oper} {st : St} {a : Act} {w : World} {g : Gh} {sv : Nat → Option Nat} {ow : Ow}

/-- what may be read behind an address. -/
def RD (w : World) (g : Gh) (sv : Nat → Option Nat) (cs : List Slot) (off B k : Nat) : Prop :=
  ∀ j c, cs[off + j]? = some c → plainCell c = true ∧ ∃ u, w.cell? ⟨B, k + j, none⟩ = some u ∧ Cell1 u ∧ FreeR w g sv (view c) u

theorem SR_toFree {c : Slot} {u : Value} {h : Hold} (hs : SR w g sv ow h c u) : FreeR w g sv (view c) u := fun _ _ => SR.view (Gh.le.refl g) (fun _ _ h => h) _ _ hs

theorem plain_v_of_cell1 {y : AV} {u : Value} (h : VR g y u) (h1 : Cell1 u) : plainCell (.v y) = true := by
  cases y with
  | agg cs => obtain ⟨vs, rfl, _⟩ := h; cases h1
  | _ => rfl

theorem PlR.rd {pl : Pl} {cs : List Slot} {B : Nat} {arr : Array Value} (hp : PlR w g sv ow pl cs B arr) (off : Nat) : RD w g sv cs off B off := by
  intro j c hc
  obtain ⟨h1, u, h2, h3, h4⟩ := hp.cl.2 _ c hc
  obtain ⟨elem, hb⟩ := hp.bk
  exact ⟨h1, u, by rw [cell_of_row w B (off + j) arr elem (0, 0) hb]; exact h2, h3, SR_toFree h4⟩

def Pl.log (off m : Nat) (l : List (Nat × Nat)) : Pl → List (Nat × Nat)
  | .loc s => logOf s off m
  | .ref _ => l

/-- what lies behind a pointer: a place; or cells that are plain values. -/
theorem behind_ptr (hF : FR n st a w g sv ow) {A : Option Nat} {p : Slot} {v : Value} {h : Hold} (hs : SR w g sv ow h p v) {cs : List Slot} {off : Nat} (hb : behind (envOf A st) p = some (cs, off)) :
    ∃ B k, v = .pointer (some ⟨B, k, none⟩) ∧ RD w g sv cs off B k ∧
      ((∃ pl arr, pl.cells st = some cs ∧ PlR w g sv ow pl cs B arr ∧ k = off ∧ ∀ cs' m e, e.box = none → setBehind (envOf A st) p cs' off m e = some (pl.set st cs' (pl.log off m e.log) e)) ∨
       ∃ ys : List AV, cs = ys.map .v ∧ ((∃ r ver i j, p = .er r ver i j) ∨ ∀ cs' m e, setBehind (envOf A st) p cs' off m e = none)) := by
  unfold behind at hb
  split at hb
  · rename_i s k
    split at hb
    · rename_i cs' hcs
      cases hb
      obtain ⟨B, arr, hp⟩ := hF.place (pl := .loc s) hcs
      obtain ⟨B', h1, rfl⟩ := hs
      have : B' = B := by have := hp.ad; simp only [Pl.at] at this; rw [this] at h1; exact (Option.some.inj h1).symm
      subst this
      exact ⟨B', _, rfl, hp.rd _, .inl ⟨.loc s, arr, hcs, hp, rfl, fun cs' m e _ => rfl⟩⟩
    · cases hb
  · rename_i r k
    split at hb
    · rename_i cs' hcs
      cases hb
      have hcs' : st.heap[r]? = some (.cells cs) := hcs
      obtain ⟨B, arr, hp⟩ := hF.place (pl := .ref r) (cs := cs) (by simp only [Pl.cells, hcs'])
      obtain ⟨B', h1, rfl⟩ := hs
      have : B' = B := by have := hp.ad; simp only [Pl.at] at this; rw [this] at h1; exact (Option.some.inj h1).symm
      subst this
      exact ⟨B', _, rfl, hp.rd _, .inl ⟨.ref r, arr, by simp only [Pl.cells, hcs'], hp, rfl, fun cs' m e _ => rfl⟩⟩
    · cases hb
  · rename_i ys
    cases hb
    obtain ⟨B, k, rfl, hi⟩ := hs
    refine ⟨B, k, rfl, fun j c hc => ?_, .inr ⟨ys, rfl, .inr fun _ _ _ => rfl⟩⟩
    simp only [Nat.zero_add, List.getElem?_map] at hc
    cases hy : ys[j]? with
    | none => simp [hy] at hc
    | some y =>
      simp [hy] at hc
      subst hc
      obtain ⟨u, h1, h2, h3⟩ := hF.gc _ _ _ (hi j y hy)
      exact ⟨plain_v_of_cell1 h2 h3, u, h1, h3, VR.free h2⟩
  · rename_i r ver i j
    split at hb
    · rename_i ver' sz' l hr
      split at hb
      · rename_i x hver hx
        cases hb
        have hver := Nat.eq_of_beq_eq_true hver
        subst hver
        have hr' : st.heap[r]? = some (.row ver sz' l) := hr
        obtain ⟨B, sz, C, h1, rfl⟩ := hs
        obtain ⟨B', C', arr, h2, h3, ⟨elem, h4⟩, _, _, _, h5, _⟩ := hF.hr.ob r _ hr'
        rw [h1] at h2
        simp only [Option.some.injEq, Prod.mk.injEq] at h2
        obtain ⟨rfl, rfl, rfl⟩ := h2
        refine ⟨B, _, rfl, fun k c hc => ?_, .inr ⟨_, rfl, .inl ⟨_, _, _, _, rfl⟩⟩⟩
        simp only [List.getElem?_map] at hc
        cases hy : (cellsOfAV x)[off + k]? with
        | none => simp [hy] at hc
        | some y =>
          simp [hy] at hc
          subst hc
          obtain ⟨u, h6, h7, h8⟩ := (h5 i x hx).2 _ y hy
          refine ⟨plain_v_of_cell1 h7 h8, u, ?_, h8, VR.free h7⟩
          rw [cell_of_row w B _ arr elem (0, 0) h4, Nat.add_assoc]
          exact h6
      · cases hb
    · cases hb
  · cases hb

theorem sliceL_get {α : Type} {l r : List α} {off m : Nat} (h : sliceL l off m = some r) : r.length = m ∧ ∀ (j : Nat) (x : α), r[j]? = some x → l[off + j]? = some x ∧ j < m := by
  obtain ⟨rfl, h2⟩ := sliceL_some h
  refine ⟨h2, fun j x hx => ?_⟩
  have hj : j < m := by have := len_of_get hx; omega
  rw [List.getElem?_take_of_lt hj, List.getElem?_drop] at hx
  exact ⟨hx, hj⟩

theorem views_get : ∀ (l : List Slot) (i : Nat), (views l)[i]? = (l[i]?).map view
  | [], i => by simp [views]
  | s :: l, 0 => by simp [views]
  | s :: l, i + 1 => by simp [views, views_get l i]
theorem views_length : ∀ (l : List Slot), (views l).length = l.length
  | [] => rfl
  | s :: l => by simp [views, views_length l]

/-- loading an aggregate. -/
theorem load_agg {t m B k off : Nat} {cs l : List Slot} (hag : isAggT P t = some true) (hm : sizeT P t = some m) (hr : RD w g sv cs off B k) (hl : sliceL cs off m = some l) :
    ∃ arr, (Instr.loadAt t (.pointer (some ⟨B, k, none⟩))).run P w = .ok (.agg arr) w ∧ CellsF w g sv (views l) arr ∧ (∀ c ∈ l, plainCell c = true) ∧
      arr.size = l.length ∧ ∀ j u, arr[j]? = some u → w.cell? ⟨B, k + j, none⟩ = some u := by
  obtain ⟨hlen, hget⟩ := sliceL_get hl
  let us : List Value := (List.range m).map fun j => (w.cell? ⟨B, k + j, none⟩).getD undef
  have hus : ∀ (j : Nat) (u : Value), us[j]? = some u → w.cell? ⟨B, k + j, none⟩ = some u := by
    intro j u hu
    have hj : j < m := by have := len_of_get hu; simpa [us] using this
    have hlj : l[j]? = some (l[j]'(by omega)) := List.getElem?_eq_getElem (by omega)
    obtain ⟨_, v, h1, _⟩ := hr j _ (hget j _ hlj).1
    simp [us, hj, h1] at hu
    rw [h1, hu]
  have hlen2 : us.length = m := by simp [us]
  refine ⟨us.toArray, ?_, ⟨by simp [views_length, hlen, hlen2], fun j c u hc hu => ?_⟩, fun c hc => ?_, by simp [hlen, hlen2], fun j u hu => hus j u (by simpa using hu)⟩
  · have hload := run_loadCells_list (P := P) (w := w) ⟨B, k, none⟩ us (fun j v hv => by rw [Addr_add]; exact hus j v hv)
    rw [hlen2] at hload
    simp [Instr.loadAt, Instr.sureAddr, loadVar, isAggT_run hag, sizeT_run hm, hload]
  · rw [views_get] at hc
    cases hlj : l[j]? with
    | none => simp [hlj] at hc
    | some c' =>
      simp [hlj] at hc
      subst hc
      obtain ⟨_, v, h1, _, h3⟩ := hr j _ (hget j _ hlj).1
      have := hus j u (by simpa using hu)
      rw [h1] at this
      cases this
      exact h3
  · obtain ⟨j, hj⟩ := List.mem_iff_getElem?.mp hc
    exact (hr j c (hget j c hj).1).1

/-- loading one cell. -/
theorem load_one {t B k off : Nat} {cs : List Slot} {c : Slot} (hag : isAggT P t = some false) (hr : RD w g sv cs off B k) (hc : cs[off]? = some c) :
    ∃ u, (Instr.loadAt t (.pointer (some ⟨B, k, none⟩))).run P w = .ok u w ∧ w.cell? ⟨B, k, none⟩ = some u ∧ plainCell c = true ∧ FreeR w g sv (view c) u := by
  obtain ⟨h0, u, h1, _, h3⟩ := hr 0 c hc
  rw [Nat.add_zero] at h1
  refine ⟨u, ?_, h1, h0, h3⟩
  simp [Instr.loadAt, Instr.sureAddr, loadVar, isAggT_run hag, load, Sem.run, h1]

theorem allV_views {l : List Slot} {xs : List AV} (h : allV l = some xs) : views l = l := by
  rw [allV_get l xs h]
  have : ∀ xs : List AV, views (xs.map Slot.v) = xs.map Slot.v := by
    intro xs
    induction xs with
    | nil => rfl
    | cons x xs ih => simp [views, view, ih]
  exact this xs

/-- where what lay in some cells goes. -/
def takeF (pl : Pl) (off m : Nat) (ag : Bool) (d : Option Nat) (h : Hold) : Option Hold :=
  match pl, h.root with
  | .loc s, .cell s' k => if s' = s ∧ off ≤ k ∧ k < off + m then d.map (fun t => ⟨.tmp t, h.path ++ (if ag then [k - off] else [])⟩) else some h
  | .ref r, .hcell r' k => if r' = r ∧ off ≤ k ∧ k < off + m then d.map (fun t => ⟨.tmp t, h.path ++ (if ag then [k - off] else [])⟩) else some h
  | _, .tmp t => if d = some t then none else some h
  | _, _ => some h

theorem takeF_in {pl : Pl} {off m k : Nat} {ag : Bool} {d : Option Nat} {q : List Nat} (h1 : off ≤ k) (h2 : k < off + m) : takeF pl off m ag d ⟨pl.root k, q⟩ = d.map (fun t => ⟨.tmp t, q ++ (if ag then [k - off] else [])⟩) := by
  cases pl <;> simp [takeF, Pl.root, h1, h2]
theorem takeF_out {pl : Pl} {off m k : Nat} {ag : Bool} {d : Option Nat} {q : List Nat} (h : ¬ (off ≤ k ∧ k < off + m)) : takeF pl off m ag d ⟨pl.root k, q⟩ = some ⟨pl.root k, q⟩ := by
  cases pl <;> simp [takeF, Pl.root] <;> (intro h1; omega)
theorem takeF_other {pl : Pl} {off m : Nat} {ag : Bool} {d : Option Nat} {h : Hold} (h1 : ∀ t, h.root ≠ .tmp t) (h2 : ∀ o, h.root ≠ pl.root o) : takeF pl off m ag d h = some h := by
  obtain ⟨r, q⟩ := h
  cases pl <;> cases r <;> simp [takeF, Pl.root] at h1 h2 ⊢
  · rename_i s s' k; intro e; exact absurd e.symm (fun e' => h2 e'.symm)
  · rename_i s s' k; intro e; exact absurd e.symm (fun e' => h2 e'.symm)
theorem takeF_tmp {pl : Pl} {off m t : Nat} {ag : Bool} {d : Option Nat} {q : List Nat} (h : d ≠ some t) : takeF pl off m ag d ⟨.tmp t, q⟩ = some ⟨.tmp t, q⟩ := by
  cases pl <;> simp [takeF, h]

theorem touch_refl {w : World} {B : Nat} (h : B < w.heap.size) : Touch B w w := ⟨fun _ _ _ => rfl, Nat.le_refl _, h, rfl, rfl, rfl⟩

/-- cells hand over what they hold. -/
theorem FR.take (hF : FR n st a w g sv ow) {d : Option Nat} (hd : ∀ t, d = some t → t < n) {pl : Pl} {cs cs' : List Slot} {B : Nat} {arr : Array Value} {off m : Nat} {ag : Bool} {s : Slot} {v' : Value} {log : List (Nat × Nat)}
    (hc : pl.cells st = some cs) (hp : PlR w g sv ow pl cs B arr)
    (hlen : cs'.length = cs.length) (hin : ∀ k, off ≤ k ∧ k < off + m → cs'[k]? = (cs[k]?).map view) (hout : ∀ k, ¬ (off ≤ k ∧ k < off + m) → cs'[k]? = cs[k]?)
    (hdst : ∀ t, d = some t → SR w g sv (reownH (takeF pl off m ag d) ow) ⟨.tmp t, []⟩ s v') (hl : noLoc s = true) :
    ∃ ow', FR n (applyEff st d (pl.set st cs' log { dst := s })) (a.put d v') w g sv ow' ∧ Fut w g ow w g ow' := by
  obtain ⟨elem, hb⟩ := hp.bk
  have hlt : B < w.heap.size := (Array.getElem?_eq_some_iff.1 hb).1
  refine ⟨_, hF.cells_step hd (f := takeF pl off m ag d) (e := { dst := s }) hc hp (touch_refl hlt) hb rfl rfl (fun h h1 h2 => takeF_other h1 h2) (fun t p h _ => takeF_tmp h) ⟨by rw [hlen]; exact hp.cl.1, fun k c hk => ?_⟩ hdst (fun _ _ h => by cases h) (fun _ _ => noLoc_lcTop hl) (fun _ _ h => by cases h)⟩
  by_cases hr : off ≤ k ∧ k < off + m
  · rw [hin k hr] at hk
    cases hck : cs[k]? with
    | none => simp [hck] at hk
    | some c0 =>
      simp [hck] at hk
      subst hk
      obtain ⟨h1, u, h2, h3, h4⟩ := hp.cl.2 k c0 hck
      refine ⟨?_, u, h2, h3, SR.view (Gh.le.refl g) (fun _ _ h => h) _ _ h4⟩
      cases c0 <;> first | exact h1 | rfl | cases h1
  · rw [hout k hr] at hk
    obtain ⟨h1, u, h2, h3, h4⟩ := hp.cl.2 k c hk
    exact ⟨h1, u, h2, h3, SR.keep ⟨Gh.le.refl g, fun _ _ h => h, fun B' q hB' => ⟨by simp [reownH, hB', takeF_out hr], rfl, fun _ _ h => h⟩⟩ _ _ _ h4⟩

/-- a load, wherever it goes. -/
theorem load_ok {t : Nat} {x : Operand} {tk : Bool} {A : Option Nat} (hF : FR n st a w g sv ow) {d : Option Nat} (hd : ∀ t, d = some t → t < n) {e : Eff}
    (he : evLoad P tk t (opd st x) (envOf A st) = .ok e) : ∃ B k u ow', a.eval x = .pointer (some ⟨B, k, none⟩) ∧ (Instr.loadAt t (.pointer (some ⟨B, k, none⟩))).run P w = .ok u w ∧ FR n (applyEff st d e) (a.put d u) w g sv ow' ∧ Fut w g ow w g ow' := by
  obtain ⟨⟨cs, off⟩, hb, h2⟩ := Res.mbind_ok he
  obtain ⟨ag, hag, h3⟩ := Res.mbind_ok h2
  obtain ⟨m, hm, h4⟩ := Res.mbind_ok h3
  clear he h2 h3
  have hag := opt_ok hag
  have hm := opt_ok hm
  obtain ⟨B, k, hv, hrd, hpl⟩ := behind_ptr hF (hF.opnd x) (opt_ok hb)
  have fin : ∀ {s : Slot} {u : Value}, (Instr.loadAt t (.pointer (some ⟨B, k, none⟩))).run P w = .ok u w → FreeR w g sv s u → lcTop (fun s => (assoc s st.locs).isSome = true) s →
      ∃ B k u ow', a.eval x = .pointer (some ⟨B, k, none⟩) ∧ (Instr.loadAt t (.pointer (some ⟨B, k, none⟩))).run P w = .ok u w ∧ FR n (applyEff st d { dst := s }) (a.put d u) w g sv ow' ∧ Fut w g ow w g ow' := by
    intro s u hu hs hl
    obtain ⟨ow', h1, h2⟩ := hF.free hd hs hl
    exact ⟨B, k, u, ow', hv, hu, h1, h2⟩
  cases ag with
  | true =>
    obtain ⟨l, hl, h5⟩ := Res.mbind_ok h4
    have hl := opt_ok hl
    obtain ⟨arr, h6, h7, h8, h9, h10⟩ := load_agg hag hm hrd hl
    obtain ⟨hlm, hget⟩ := sliceL_get hl
    have hnl : noLocs l = true := noLocs_of _ (fun c hc => plain_noLoc (h8 c hc))
    cases tk with
    | false =>
      cases h5
      exact fin h6 h7.agg (mkAgg_lcTop (views_noLocs l hnl))
    | true =>
      simp only at h5
      split at h5
      · rename_i xs hxs
        cases h5
        rw [allV_views hxs] at h7
        have := h7.agg
        unfold mkAgg at this
        rw [hxs] at this
        exact fin h6 this trivial
      · rename_i hnv
        have h5 := opt_ok h5
        rcases hpl with ⟨pl, arr0, hc, hp, rfl, hset⟩ | ⟨ys, rfl, _⟩
        · rw [hset _ _ _ rfl] at h5
          cases h5
          have hk : ∀ (j : Nat), j < m → ∃ c, l[j]? = some c ∧ cs[k + j]? = some c := fun j hj => by
            have : l[j]? = some (l[j]'(by omega)) := List.getElem?_eq_getElem (by omega)
            exact ⟨_, this, (hget j _ this).1⟩
          obtain ⟨ow', h11, h12⟩ := hF.take (v' := .agg arr) (s := .agg l) (off := k) (m := m) (ag := true) (cs' := writeL cs k (views l)) (log := pl.log k m []) hd hc hp (writeL_length _ _ _)
            (fun q hq => by
              obtain ⟨c, h13, h14⟩ := hk (q - k) (by omega)
              have e : k + (q - k) = q := by omega
              rw [e] at h14
              rw [writeL_get, if_pos ⟨hq.1, by rw [views_length]; omega, len_of_get h14⟩, views_get, h13, h14])
            (fun q hq => by rw [writeL_get, if_neg (fun h => hq ⟨h.1, by have := h.2.1; rw [views_length] at this; omega⟩)])
            (fun t ht => by
              refine ⟨arr, rfl, SRs_of _ _ _ (by simpa using h9) (fun j c hc' => ?_)⟩
              obtain ⟨hcs, hj⟩ := hget j c hc'
              obtain ⟨_, u, h13, _, h14⟩ := hp.cl.2 _ c hcs
              have harr : arr[j]? = some u := by
                have hj' : j < arr.size := by omega
                have h15 := h10 j arr[j] (by simp [hj'])
                obtain ⟨elem, hbk⟩ := hp.bk
                rw [cell_of_row w B _ arr0 elem (0, 0) hbk, h13] at h15
                rw [Array.getElem?_eq_getElem hj', ← Option.some.inj h15]
              refine ⟨u, by simpa using harr, ?_⟩
              rw [Nat.zero_add]
              exact SR.keepH c ⟨pl.root (k + j), []⟩ ⟨.tmp t, [j]⟩ u ⟨Gh.le.refl g, fun _ _ h => h, fun B' q hB' => ⟨by
                simp only [List.append_nil] at hB'
                simp [reownH, hB', ht, takeF_in (pl := pl) (k := k + j) (off := k) (m := m) (by omega) (by omega)], rfl, fun _ _ h => h⟩⟩ h14) hnl
          exact ⟨B, k, _, ow', hv, h6, h11, h12⟩
        · exfalso
          obtain ⟨hl1, _⟩ := sliceL_some hl
          have : ∀ xs : List AV, allV (xs.map Slot.v) = some xs := by
            intro xs; induction xs with
            | nil => rfl
            | cons x xs ih => simp [allV, ih]
          rw [hl1, ← List.map_drop, ← List.map_take, this] at hnv
          cases hnv
  | false =>
    obtain ⟨c, hc0, h5⟩ := Res.mbind_ok h4
    have hc0 := opt_ok hc0
    obtain ⟨u, h6, h7, h8, h9⟩ := load_one (t := t) hag hrd hc0
    cases tk with
    | false =>
      cases h5
      exact fin h6 h9 (view_lcTop (noLoc_lcTop (plain_noLoc h8)))
    | true =>
      simp only at h5
      split at h5
      · cases h5
        exact fin h6 h9 trivial
      · rename_i hnv
        have h5 := opt_ok h5
        rcases hpl with ⟨pl, arr0, hc, hp, rfl, hset⟩ | ⟨ys, rfl, _⟩
        · rw [hset _ _ _ rfl] at h5
          cases h5
          obtain ⟨ow', h11, h12⟩ := hF.take (v' := u) (s := c) (off := k) (m := 1) (ag := false) (cs' := cs.set k (view c)) (log := pl.log k 1 []) hd hc hp (List.length_set ..)
            (fun q hq => by
              have : q = k := by omega
              subst this
              rw [List.getElem?_set_self (len_of_get hc0), hc0]; rfl)
            (fun q hq => by rw [List.getElem?_set_ne (by omega)])
            (fun t ht => by
              obtain ⟨_, u', h13, _, h14⟩ := hp.cl.2 _ c hc0
              obtain ⟨elem, hbk⟩ := hp.bk
              rw [cell_of_row w B _ arr0 elem (0, 0) hbk, h13] at h7
              cases h7
              exact SR.keepH c ⟨pl.root k, []⟩ ⟨.tmp t, []⟩ u ⟨Gh.le.refl g, fun _ _ h => h, fun B' q hB' => ⟨by
                simp only [List.append_nil] at hB'
                simp [reownH, hB', ht, takeF_in (pl := pl) (k := k) (off := k) (m := 1) (by omega) (by omega)], rfl, fun _ _ h => h⟩⟩ h14) (plain_noLoc h8)
          exact ⟨B, k, _, ow', hv, h6, h11, h12⟩
        · exfalso
          simp only [List.getElem?_map] at hc0
          cases hy : ys[off]? with
          | none => simp [hy] at hc0
          | some y =>
            simp [hy] at hc0
            exact hnv y hc0.symm

theorem op_load {t : Nat} {x : Operand} {tk : Bool} {A : Option Nat} (hF : FR n st a w g sv ow) (hd : ∀ t, o.dst = some t → t < n) {e : Eff} (ho : o.op = .load t x)
    (he : evLoad P tk t (opd st x) (envOf A st) = .ok e) : OpOK P n o a w g ow (applyEff st o.dst e) := by
  obtain ⟨B, k, u, ow', h1, h2, h3, h4⟩ := load_ok hF hd he
  exact ⟨_, u, w, g, sv, ow', by simp [execOp, ho, h1, h2], .inl rfl, h3, h4⟩

end
end Go.Sw
/-! Stores into boxes and cells. -/
namespace Go.Sw
open Go

/-- the holder, in a slot, of a cell of it. -/
def partPath : Slot → Nat → List Nat
  | .agg _, j => [j]
  | _, _ => []

section
variable {P : Program} {n : Nat} {o : Oper} {st : St} {a : Act} {w : World} {g : Gh} {sv : Nat → Option Nat} {ow : Ow}

theorem cells_SR {s : Slot} {v : Value} {r : Root} (hs : SR w g sv ow ⟨r, []⟩ s v) (hp : (cellsOfSlot s).all plainCell = true) :
    v.cells.size = (cellsOfSlot s).length ∧ ∀ (j : Nat) (c : Slot), (cellsOfSlot s)[j]? = some c → ∃ u, v.cells[j]? = some u ∧ Cell1 u ∧ SR w g sv ow ⟨r, partPath s j⟩ c u := by
  have one : cellsOfSlot s = [s] → (∀ j, partPath s j = []) → v.cells.size = (cellsOfSlot s).length ∧ ∀ (j : Nat) (c : Slot), (cellsOfSlot s)[j]? = some c → ∃ u, v.cells[j]? = some u ∧ Cell1 u ∧ SR w g sv ow ⟨r, partPath s j⟩ c u := by
    intro h1 h2
    rw [h1] at hp ⊢
    have h3 := SR.cell1 (by simpa using hp) hs
    rw [cells_of_cell1 h3]
    refine ⟨rfl, fun j c hc => ?_⟩
    cases j with
    | zero => simp at hc; subst hc; exact ⟨v, rfl, h3, by rw [h2]; exact hs⟩
    | succ j => simp at hc
  cases s with
  | agg cs =>
    obtain ⟨vs, rfl, hr⟩ := hs
    refine ⟨SRs_length _ _ _ hr, fun j c hc => ?_⟩
    obtain ⟨u, h1, h2⟩ := SRs_get _ _ _ hr j c hc
    have h2 : SR w g sv ow ⟨r, [j]⟩ c u := by simpa using h2
    exact ⟨u, by simpa [Value.cells] using h1, SR.cell1 (List.all_eq_true.mp hp c (List.mem_of_getElem? hc)) h2, h2⟩
  | v x =>
    cases x with
    | agg xs =>
      have h1 := cellsOfSlot_F (VR.free (w := w) (sv := sv) hs) hp
      refine ⟨h1.1, fun j c hc => ?_⟩
      obtain ⟨u, h2, h3⟩ := h1.get hc
      exact ⟨u, h2, plain_cell1 (List.all_eq_true.mp hp c (List.mem_of_getElem? hc)) h3, h3 _ _⟩
    | _ => exact one rfl (fun _ => rfl)
  | _ => exact one rfl (fun _ => rfl)

/-- the temporary that hands over. -/
def handsT (x : Operand) (s : Slot) : Option Nat := match handed x s with | some (t, _) => some t | none => none

/-- where what is stored goes. -/
def storeF (pl : Pl) (off m : Nat) (x : Operand) (s : Slot) (h : Hold) : Option Hold :=
  match pl, h.root with
  | .loc b, .cell b' k => if b' = b ∧ off ≤ k ∧ k < off + m then none else some h
  | .ref r, .hcell r' k => if r' = r ∧ off ≤ k ∧ k < off + m then none else some h
  | pl, .tmp t => if handsT x s = some t then (match s with
      | .agg _ => match h.path.getLast? with | some j => if j < m then some ⟨pl.root (off + j), h.path.dropLast⟩ else none | none => none
      | _ => some ⟨pl.root off, h.path⟩) else some h
  | _, _ => some h

theorem storeF_out {pl : Pl} {off m k : Nat} {x : Operand} {s : Slot} {q : List Nat} (h : ¬ (off ≤ k ∧ k < off + m)) : storeF pl off m x s ⟨pl.root k, q⟩ = some ⟨pl.root k, q⟩ := by
  cases pl <;> simp [storeF, Pl.root] <;> (intro h1; omega)
theorem storeF_other {pl : Pl} {off m : Nat} {x : Operand} {s : Slot} {h : Hold} (h1 : ∀ t, h.root ≠ .tmp t) (h2 : ∀ o, h.root ≠ pl.root o) : storeF pl off m x s h = some h := by
  obtain ⟨r, q⟩ := h
  cases pl <;> cases r <;> simp [storeF, Pl.root] at h1 h2 ⊢
  · rename_i s s' k; intro e; exact absurd e.symm (fun e' => h2 e'.symm)
  · rename_i s s' k; intro e; exact absurd e.symm (fun e' => h2 e'.symm)
theorem storeF_tmp {pl : Pl} {off m t : Nat} {x : Operand} {s : Slot} {q : List Nat} (h : ∀ s', handed x s ≠ some (t, s')) : storeF pl off m x s ⟨.tmp t, q⟩ = some ⟨.tmp t, q⟩ := by
  have : handsT x s ≠ some t := by
    unfold handsT
    split
    · rename_i t' s' e; intro h'; cases h'; exact h _ e
    · simp
  cases pl <;> simp [storeF, this]
theorem storeF_part {pl : Pl} {off m j t : Nat} {x : Operand} {s s' : Slot} {q : List Nat} (hh : handed x s = some (t, s')) (h : j < m) (hj : (∃ cs, s = .agg cs) ∨ j = 0) :
    storeF pl off m x s ⟨.tmp t, q ++ partPath s j⟩ = some ⟨pl.root (off + j), q⟩ := by
  have : handsT x s = some t := by simp [handsT, hh]
  cases s with
  | agg cs => cases pl <;> simp [storeF, partPath, h, this]
  | _ =>
    rcases hj with ⟨cs, hj⟩ | rfl
    · cases hj
    · cases pl <;> simp [storeF, partPath, this]

theorem handed_some {x : Operand} {s : Slot} {t : Nat} {s' : Slot} (h : handed x s = some (t, s')) : x = .tmp t ∧ s' = view s ∧ ∀ y, s ≠ .v y := by
  cases x <;> cases s <;> simp [handed] at h ⊢ <;> exact ⟨h.1, h.2.symm⟩

/-- what is not handed over is nobody's. -/
theorem FR.notHanded (hF : FR n st a w g sv ow) {x : Operand} (h : handed x (opd st x) = none) : FreeR w g sv (opd st x) (a.eval x) := by
  cases x with
  | tmp t =>
    have h1 := hF.tm t
    simp only [opd] at h ⊢
    cases hs : getT st.tmps t with
    | v y => rw [hs] at h1; exact VR.free h1
    | nil0 => rw [hs] at h1; exact fun _ _ => h1
    | _ => rw [hs] at h; simp [handed] at h
  | const c => exact ofConst_F c
  | func f => exact VR.free ⟨#[], rfl, rfl⟩
  | global b =>
    have hs := hF.opnd (.global b)
    cases hg : globs b with
    | none => simp only [opd, hg]; exact fun _ _ => trivial
    | some cs => simp only [opd, hg] at hs ⊢; exact fun _ _ => hs

theorem setRow_size {w : World} {B : Nat} {cs : Array Value} : (w.setRow B cs).heap.size = w.heap.size := by simp [World.setRow]

theorem store_place {t m : Nat} {x : Operand} (hF : FR n st a w g sv ow) {d : Option Nat} (hd : ∀ t, d = some t → t < n) {pl : Pl} {cs : List Slot} {B off : Nat} {arr : Array Value} {log : List (Nat × Nat)}
    (hm : sizeT P t = some m) (hc : pl.cells st = some cs) (hp : PlR w g sv ow pl cs B arr)
    (h1 : (cellsOfSlot (opd st x)).length = m) (h2 : (cellsOfSlot (opd st x)).all plainCell = true) (h3 : off + m ≤ cs.length) :
    ∃ w' ow', (Instr.storeAt t (.pointer (some ⟨B, off, none⟩)) (a.eval x)).run P w = .ok () w' ∧
      FR n (applyEff st d (pl.set st (writeL cs off (cellsOfSlot (opd st x))) log { dst := .undef, src := handed x (opd st x) })) (a.put d undef) w' g sv ow' ∧ Fut w g ow w' g ow' := by
  obtain ⟨elem, hb⟩ := hp.bk
  -- the cells of what is stored
  have hcells : (a.eval x).cells.size = m ∧ ∀ (j : Nat) (c : Slot), (cellsOfSlot (opd st x))[j]? = some c → ∃ u, (a.eval x).cells[j]? = some u ∧ Cell1 u ∧ SR w g sv ow ⟨(opHold x).root, partPath (opd st x) j⟩ c u := by
    have h0 : SR w g sv ow ⟨(opHold x).root, []⟩ (opd st x) (a.eval x) := by have := hF.opnd x; cases x <;> exact this
    have := cells_SR h0 h2
    rw [h1] at this
    exact this
  obtain ⟨hsz, hget⟩ := hcells
  have hone : ∀ u ∈ (a.eval x).cells.toList, u.oneCell' = true := by
    intro u hu
    obtain ⟨j, hj⟩ := List.mem_iff_getElem?.mp hu
    have hjl : j < m := by have := len_of_get hj; simpa [hsz] using this
    obtain ⟨u', e1, e2, _⟩ := hget j _ (List.getElem?_eq_getElem (by omega))
    have : u = u' := by
      rw [Array.getElem?_toList] at hj
      rw [e1] at hj
      exact (Option.some.inj hj).symm
    rw [this]; exact e2
  have hst := run_storeCells_at P B off elem (a.eval x).cells.toList 0 arr w hb (by rw [Array.length_toList, hsz, hp.cl.1]; omega) hone
  simp only [Nat.add_zero, Array.length_toList, hsz] at hst
  let arr' : Array Value := (arr.toList.take off ++ (a.eval x).cells.toList ++ arr.toList.drop (off + m)).toArray
  have harr' : ∀ k, arr'[k]? = if off ≤ k ∧ k < off + m then (a.eval x).cells[k - off]? else arr[k]? := by
    intro k
    have hl : (arr.toList.take off).length = off := by simp; rw [hp.cl.1]; omega
    simp only [arr', List.getElem?_toArray]
    by_cases hk : k < off
    · rw [if_neg (by omega), List.append_assoc, List.getElem?_append_left (by omega), List.getElem?_take_of_lt hk, Array.getElem?_toList]
    · rw [List.append_assoc, List.getElem?_append_right (by omega), hl]
      by_cases hk2 : k < off + m
      · rw [if_pos ⟨by omega, hk2⟩, List.getElem?_append_left (by simp [hsz]; omega), Array.getElem?_toList]
      · rw [if_neg (by omega), List.getElem?_append_right (by simp [hsz]; omega), List.getElem?_drop, Array.getElem?_toList]
        congr 1
        simp [hsz]; omega
  have ht : Touch B w (w.setRow B arr') := setRow_touch hb
  have hrun : (Instr.storeAt t (.pointer (some ⟨B, off, none⟩)) (a.eval x)).run P w = .ok () (w.setRow B arr') := by
    simp [Instr.storeAt, Instr.sureAddr, storeVar, sizeT_run hm, hsz, hst, arr']
  have hne : ∀ B' h, ow B' = some h → h.root ≠ pl.top → B' ≠ B := by
    intro B' h hh hr e
    subst e
    rw [hp.hd] at hh
    cases hh
    exact hr rfl
  refine ⟨_, _, hrun, hF.cells_step hd (f := storeF pl off m x (opd st x)) (e := { dst := .undef, src := handed x (opd st x) }) hc hp ht (setRow_heap w B arr _ elem _ hb) rfl rfl (fun h e1 e2 => storeF_other e1 e2) (fun t p _ hs => ?_) ⟨?_, fun k c hk => ?_⟩ (fun _ _ => trivial) (fun t s hs _ => ?_) (fun _ _ => trivial) (fun t s hs => ?_)⟩
  · exact storeF_tmp hs
  · rw [writeL_length, ← hp.cl.1]
    simp [arr', hsz]
    have := hp.cl.1
    omega
  · rw [writeL_get, h1] at hk
    split at hk
    · rename_i hr
      obtain ⟨u, e1, e2, e3⟩ := hget _ c hk
      refine ⟨List.all_eq_true.mp h2 c (List.mem_of_getElem? hk), u, by rw [harr', if_pos ⟨hr.1, hr.2.1⟩]; exact e1, e2, ?_⟩
      have hjm : k - off < m := by omega
      have hek : off + (k - off) = k := by omega
      cases hh : handed x (opd st x) with
      | none =>
        have h4 := cellsOfSlot_F (hF.notHanded hh) h2
        have h5 := h4.2 _ c u hk e1
        have h6 := List.all_eq_true.mp h2 c (List.mem_of_getElem? hk)
        cases c with
        | v y => exact (show VR g y u from h5 ow ⟨.ret, []⟩)
        | nil0 => exact h5 ow ⟨.ret, []⟩
        | own sz l =>
          rcases h5 (fun _ => none) ⟨.ret, []⟩ with h | ⟨_, _, _, h, _⟩
          · exact .inl h
          · cases h
        | _ => cases h6
      | some ts =>
        obtain ⟨t0, s'⟩ := ts
        obtain ⟨rfl, _, hnv⟩ := handed_some hh
        refine SR.keepH c _ _ u ⟨Gh.le.refl g, fun _ _ h => h, fun B' q hB' => ⟨?_, ht.oth _ (hne B' _ hB' (by cases pl <;> simp [Pl.top, opHold])) (hF.bd _ _ hB'), fun _ _ h => h⟩⟩ e3
        have hj : (∃ cs, opd st (.tmp t0) = .agg cs) ∨ k - off = 0 := by
          cases hs : opd st (.tmp t0) with
          | agg cs => exact .inl ⟨cs, rfl⟩
          | v y => exact absurd hs (hnv y)
          | _ => rw [hs] at h1; simp [cellsOfSlot] at h1; exact .inr (by omega)
        simp only [reownH, hB', Option.bind_some, opHold]
        rw [storeF_part hh hjm hj, hek]
        simp
    · rename_i hr
      have hr' : ¬ (off ≤ k ∧ k < off + m) := fun h => hr ⟨h.1, h.2, len_of_get hk⟩
      obtain ⟨e1, u, e2, e3, e4⟩ := hp.cl.2 k c hk
      refine ⟨e1, u, by rw [harr', if_neg hr']; exact e2, e3, SR.keep ⟨Gh.le.refl g, fun _ _ h => h, fun B' q hB' => ⟨by simp [reownH, hB', storeF_out hr'], ht.oth _ (hne B' _ hB' (by cases pl <;> simp [Pl.top, Pl.root])) (hF.bd _ _ hB'), fun _ _ h => h⟩⟩ _ _ _ e4⟩
  · rw [handed_view t s hs]
    exact SR.view (Gh.le.refl g) (fun _ _ h => h) _ _ (hF.tm t)
  · rw [handed_view t s hs]
    exact view_lcTop (hF.lk t)

end
end Go.Sw
/-! New boxes, and new objects of the heap. -/
namespace Go.Sw
open Go

section
variable {P : Program} {n : Nat} {o : Oper} {st : St} {a : Act} {w : World} {g : Gh} {sv : Nat → Option Nat} {ow : Ow}

/-- the cells of a new place. -/
theorem new_cells (hF : FR n st a w g sv ow) {x : Operand} {pl : Pl} {m : Nat} (h1 : (cellsOfSlot (opd st x)).length = m) (h2 : (cellsOfSlot (opd st x)).all plainCell = true)
    {w' : World} {g' : Gh} {sv' : Nat → Option Nat} {ow' : Ow} (hle : g.le g') (hw : ∀ B h, ow B = some h → w'.heap[B]? = w.heap[B]?) (him : ∀ B h o y, ow B = some h → g'.im B o y → g.im B o y)
    (ho : ∀ B h k, ow B = some h → storeF pl 0 m x (opd st x) h = some k → ow' B = some k) : CellsR w' g' sv' ow' pl.root (cellsOfSlot (opd st x)) (a.eval x).cells := by
  have h0 : SR w g sv ow ⟨(opHold x).root, []⟩ (opd st x) (a.eval x) := by have := hF.opnd x; cases x <;> exact this
  obtain ⟨hsz, hget⟩ := cells_SR h0 h2
  refine ⟨hsz, fun j c hc => ?_⟩
  have hj := len_of_get hc
  obtain ⟨u, e1, e2, e3⟩ := hget j c hc
  have hpc := List.all_eq_true.mp h2 c (List.mem_of_getElem? hc)
  refine ⟨hpc, u, e1, e2, ?_⟩
  cases hh : handed x (opd st x) with
  | none =>
    have h5 := (cellsOfSlot_F (hF.notHanded hh) h2).2 _ c u hc e1
    cases c with
    | v y => exact VR.mono hle _ _ (show VR g y u from h5 ow ⟨.ret, []⟩)
    | nil0 => exact h5 ow ⟨.ret, []⟩
    | own sz l =>
      rcases h5 (fun _ => none) ⟨.ret, []⟩ with h | ⟨_, _, _, h, _⟩
      · exact .inl h
      · cases h
    | _ => cases hpc
  | some ts =>
    obtain ⟨t0, s'⟩ := ts
    obtain ⟨rfl, _, hnv⟩ := handed_some hh
    have e4 : SR w g (fun _ => none) ow _ c u := SR.plain_sv hpc e3
    refine SR.plain_sv (sv := fun _ => none) hpc (SR.keepH c _ _ u ⟨hle, fun _ _ h => h, fun B q hB => ⟨?_, hw B _ hB, fun o y hy => him B _ o y hB hy⟩⟩ e4)
    have hj' : (∃ cs, opd st (.tmp t0) = .agg cs) ∨ j = 0 := by
      cases hs : opd st (.tmp t0) with
      | agg cs => exact .inl ⟨cs, rfl⟩
      | v y => exact absurd hs (hnv y)
      | _ => rw [hs] at hj; simp [cellsOfSlot] at hj; exact .inr hj
    refine ho B _ _ hB ?_
    simp only [opHold]
    rw [storeF_part hh (by omega) hj']
    simp

theorem lay_get {E : Env} {x : HO} (h : layOk E = true) : (lay E x).2[(lay E x).1]? = some x ∧ (∀ r, r ≠ (lay E x).1 → (lay E x).2[r]? = E.H[r]?) ∧ (E.H.length ≤ (lay E x).1 ∨ E.H[(lay E x).1]? = some .free) ∧
    E.H.length ≤ (lay E x).2.length ∧ (lay E x).1 < (lay E x).2.length := by
  unfold layOk at h
  unfold lay
  split at h
  · rename_i hA
    simp only
    refine ⟨by simp, fun r hr => ?_, .inl (Nat.le_refl _), by simp, by simp⟩
    by_cases h1 : r < E.H.length
    · rw [List.getElem?_append_left h1]
    · rw [List.getElem?_eq_none (by simp; omega), List.getElem?_eq_none (by omega)]
  · rename_i r hA
    simp only
    split at h
    · rename_i hr
      have hlt := len_of_get hr
      exact ⟨List.getElem?_set_self hlt, fun r' hne => List.getElem?_set_ne (fun e => hne e.symm), .inr hr, by simp, by simpa using hlt⟩
    · cases h

/-- A new object. -/
theorem FR.lay_step (hF : FR n st a w g sv ow) {d : Option Nat} (hd : ∀ t, d = some t → t < n) {A : Option Nat} {x : HO} {r : Nat} {H' : Heap} (hok : layOk (envOf A st) = true) (hr : (lay (envOf A st) x).1 = r) (hH : (lay (envOf A st) x).2 = H')
    {f : Hold → Option Hold} {w' : World} {g' : Gh} {e : Eff} {v' : Value} {B : Nat}
    (hne : ∀ h, ow B = some h → ∃ t, h.root = .tmp t ∧ ∃ s, e.src = some (t, s)) (hBim : ∀ o y, ¬ g.im B o y)
    (ht : Touch B w w') (hle : g.le g') (him : ∀ B o y, g'.im B o y → g.im B o y) (hrf : ∀ r', r' ≠ r → g'.rf r' = g.rf r') (hrw : ∀ r', r' ≠ r → g'.rw r' = g.rw r')
    (hbox : e.box = none) (hheap : e.heap = some H')
    (hf : ∀ h, (∀ t, h.root ≠ .tmp t) → (∀ o, h.root ≠ .hcell r o) → f h = some h)
    (hft : ∀ t p, d ≠ some t → (∀ s, e.src ≠ some (t, s)) → f ⟨.tmp t, p⟩ = some ⟨.tmp t, p⟩)
    {ow' : Ow} (how : ow' = fun B' => if B' = B then some ⟨.hobj r, []⟩ else reownH f ow B')
    (hob : OR w' g' ow' r x)
    (hdst : ∀ t, d = some t → SR w' g' sv ow' ⟨.tmp t, []⟩ e.dst v')
    (hsrc : ∀ t s, e.src = some (t, s) → s = view (getT st.tmps t))
    (lkd : noLoc e.dst = true) :
    FR n (applyEff st d e) (a.put d v') w' g' sv ow' ∧ Fut w g ow w' g' ow' := by
  obtain ⟨l1, l2, l3, l4, l5⟩ := lay_get (x := x) hok
  rw [hH, hr] at l1 l5
  rw [hH] at l2 l4
  rw [hr] at l3 l2
  have hfree : g.rf r = none ∧ ∀ v, g.rw r v = none := by
    rcases l3 with h | h
    · exact hF.hr.nf r h
    · exact hF.hr.ob r _ h
  have hownew : ∀ B' h, ow B' = some h → (∀ t s, e.src = some (t, s) → h.root ≠ .tmp t) → B' ≠ B := fun B' h hB' hh e => by
    subst e
    obtain ⟨t, h1, s, h2⟩ := hne h hB'
    exact hh t s h2 h1
  have how' : ∀ B' h k, ow B' = some h → (∀ t s, e.src = some (t, s) → h.root ≠ .tmp t) → f h = some k → ow' B' = some k := by
    intro B' h k hB hh hk
    subst how
    simp only [if_neg (hownew B' h hB hh), reownH, hB, Option.bind_some, hk]
  have hk : ∀ {p : Root → Prop}, (∀ r, p r → (∀ t s, e.src = some (t, s) → r ≠ .tmp t) ∧ ∀ q, f ⟨r, q⟩ = some ⟨r, q⟩) → Keeps p w g ow w' g' ow' := fun hpp =>
    ⟨hle, fun B' r q hr h => ⟨how' _ _ _ h (hpp r hr).1 ((hpp r hr).2 q), ht.oth _ (hownew _ _ h (hpp r hr).1) (hF.bd _ _ h), fun o y hy => him _ _ _ hy⟩⟩
  have hkn : Keeps (fun r' => (∀ t, r' ≠ .tmp t) ∧ ∀ o, r' ≠ .hcell r o) w g ow w' g' ow' := hk (fun r hr => ⟨fun t _ _ => hr.1 t, fun q => hf _ hr.1 hr.2⟩)
  have hheap' : (applyEff st d e).heap = H' := by simp [applyEff, hheap]
  have hlocs' : (applyEff st d e).locs = st.locs := by simp [applyEff, hbox]
  refine ⟨hF.step hd (ht.gc hF.gc hle (fun o y h => absurd (him _ _ _ h) (hBim o y)) (fun _ _ _ _ h => him _ _ _ h)) hdst (fun t s h _ => ?_) (fun t h1 h2 => ?_) (fun t h => noLoc_lcTop lkd) (fun t s h => ?_) (fun s h => by rw [hlocs']; exact h) (fun s cs2 h => ?_) ?_ ?_ ?_, ?_⟩
  · rw [hsrc t s h]
    exact SR.view hle (fun _ _ h => h) _ _ (hF.tm t)
  · exact (hk (p := fun r => r = .tmp t) (fun r hr => by subst hr; exact ⟨fun t' s hs e' => h2 s (by cases e'; exact hs), fun q => hft t q h1 h2⟩)).keep rfl (fun _ _ h => h)
  · rw [hsrc t s h, hlocs']
    exact view_lcTop (hF.lk t)
  · rw [hlocs'] at h
    exact (hF.lc s cs2 h).keeps hkn ⟨by simp, by simp⟩ (fun o => ⟨by simp, by simp⟩) (fun _ h => h)
  · rw [hheap']
    refine ⟨fun r' o' h => ?_, fun r' h => ?_⟩
    · by_cases hr' : r' = r
      · subst hr'
        rw [l1] at h
        cases h
        exact hob
      · have h2 : st.heap[r']? = some o' := (l2 r' hr').symm.trans h
        exact (hF.hr.ob r' o' h2).keeps hkn ⟨by simp, by simp⟩ (fun o => ⟨by simp, by simp [hr']⟩) (fun _ h => by rwa [hrf r' hr'] at h) (fun _ _ h => by rwa [hrw r' hr'] at h)
    · have hne : r' ≠ r := by omega
      rw [hrf r' hne, hrw r' hne]
      exact hF.hr.nf r' (Nat.le_trans l4 h)
  · exact DR.keeps hkn ⟨by simp, by simp⟩ _ _ hF.df
  · intro B k hB
    subst how
    simp only at hB
    split at hB
    · rename_i e; subst e; exact ht.lt
    · exact Nat.lt_of_lt_of_le (reownH_bd hF.bd B k hB) ht.sz
  · exact ⟨hle, ht.sz, fun B' q hB' => hkn.ow B' .ctx q ⟨by simp, by simp⟩ hB', ht.tp, ht.os, ht.ot⟩

theorem FR.freshHold (hF : FR n st a w g sv ow) {e : Eff} : ∀ h, ow w.heap.size = some h → ∃ t, h.root = .tmp t ∧ ∃ s, e.src = some (t, s) := by
  intro h hh
  rw [hF.fresh.1] at hh; cases hh

/-- the ghost with a new object of cells, or a new map. -/
def Gh.addRf (g : Gh) (r B : Nat) : Gh := { g with rf := fun r' => if r' = r then some B else g.rf r' }
theorem Gh.le_addRf {g : Gh} {r B : Nat} (h : g.rf r = none) : g.le (g.addRf r B) := ⟨fun _ _ _ h => h, fun r' B' h' => by
  simp only [Gh.addRf]
  split
  · rename_i e; subst e; rw [h] at h'; cases h'
  · exact h', fun _ _ _ h => h⟩

theorem FR.layFree (hF : FR n st a w g sv ow) {A : Option Nat} {x : HO} (hok : layOk (envOf A st) = true) : g.rf (lay (envOf A st) x).1 = none ∧ ∀ v, g.rw (lay (envOf A st) x).1 v = none := by
  obtain ⟨_, _, l3, _, _⟩ := lay_get (x := x) hok
  rcases l3 with h | h
  · exact hF.hr.nf _ h
  · exact hF.hr.ob _ _ h

/-- a box on the heap. -/
theorem box_heap (hF : FR n st a w g sv ow) {d : Option Nat} (hd : ∀ t, d = some t → t < n) {A : Option Nat} (hok : layOk (envOf A st) = true) {x : Operand} (h2 : (cellsOfSlot (opd st x)).all plainCell = true) (elem : Nat) :
    ∃ g' ow', FR n (applyEff st d { dst := .v (.ref (lay (envOf A st) (.cells (cellsOfSlot (opd st x)))).1 0), src := handed x (opd st x), heap := some (lay (envOf A st) (.cells (cellsOfSlot (opd st x)))).2 })
      (a.put d (.pointer (some ⟨w.heap.size, 0, none⟩))) (w.alloc (.cells (a.eval x).cells elem (0, 0))) g' sv ow' ∧ Fut w g ow (w.alloc (.cells (a.eval x).cells elem (0, 0))) g' ow' := by
  let r := (lay (envOf A st) (.cells (cellsOfSlot (opd st x)))).1
  have hfree := hF.layFree (x := .cells (cellsOfSlot (opd st x))) hok
  have ht : Touch w.heap.size w (w.alloc (.cells (a.eval x).cells elem (0, 0))) := touch_alloc w rfl rfl rfl rfl _
  have hle : g.le (g.addRf r w.heap.size) := Gh.le_addRf hfree.1
  have hownew : ∀ B h, ow B = some h → B ≠ w.heap.size := fun B h hB e => by have := hF.bd B h hB; omega
  have hrr : (g.addRf r w.heap.size).rf r = some w.heap.size := by simp [Gh.addRf]
  refine ⟨g.addRf r w.heap.size, fun B => if B = w.heap.size then some ⟨.hobj r, []⟩ else reownH (storeF (.ref r) 0 (cellsOfSlot (opd st x)).length x (opd st x)) ow B,
    hF.lay_step hd (r := r) hok rfl rfl hF.freshHold hF.fresh.2 ht hle (fun _ _ _ h => h) (fun r' h => by simp [Gh.addRf, h]) (fun _ _ => rfl) rfl rfl (fun h h1 h2 => storeF_other (pl := .ref r) h1 h2) (fun t p _ hs => storeF_tmp hs) rfl ?_ ?_ (fun t s h => handed_view t s h) rfl⟩
  · exact ⟨w.heap.size, (a.eval x).cells, hrr, by simp, ⟨elem, alloc_new w rfl _⟩, fun o y h => hF.fresh.2 o y h,
      new_cells hF (pl := .ref r) rfl h2 hle (fun B h hB => ht.oth B (hownew B h hB) (hF.bd B h hB)) (fun _ _ _ _ _ h => h) (fun B h k hB hk => by simp only [if_neg (hownew B h hB), reownH, hB, Option.bind_some, hk])⟩
  · exact fun t _ => ⟨w.heap.size, hrr, rfl⟩

mutual
theorem SR_sv {sv' : Nat → Option Nat} {h : Hold} : ∀ (s : Slot) (v : Value), noLoc s = true → SR w g sv ow h s v → SR w g sv' ow h s v
  | .undef, _, _, e => e
  | .skip, _, _, e => e
  | .v _, _, _, e => e
  | .nil0, _, _, e => e
  | .coin, _, _, e => e
  | .own _ _, _, _, e => e
  | .loc _ _, _, hn, _ => by cases hn
  | .imm _, _, _, e => e
  | .er _ _ _ _, _, _, e => e
  | .it _ _, _, _, e => e
  | .agg cs, _, hn, ⟨vs, a, b⟩ => ⟨vs, a, SRs_sv cs 0 _ hn b⟩
  | .tup cs, _, hn, ⟨vs, a, b⟩ => ⟨vs, a, SRs_sv cs 0 _ hn b⟩
theorem SRs_sv {sv' : Nat → Option Nat} {h : Hold} : ∀ (l : List Slot) (i : Nat) (vs : List Value), noLocs l = true → SRs w g sv ow h i l vs → SRs w g sv' ow h i l vs
  | [], _, _, _, e => e
  | s :: l, i, _, hn, ⟨v, vs', a, b, c⟩ => by
    simp only [noLocs, Bool.and_eq_true] at hn
    exact ⟨v, vs', a, SR_sv s v hn.1 b, SRs_sv l (i + 1) vs' hn.2 c⟩
end

/-- where a box that is not there lay is of no matter. -/
theorem FR.forget (hF : FR n st a w g sv ow) {d : Nat} (h : assoc d st.locs = none) : FR n st a w g (fun s => if s = d then none else sv s) ow := by
  refine ⟨hF.sz, hF.gc, fun t => ?_, hF.lk, fun s cs hs => ?_, hF.hr, hF.df, hF.bd, hF.gv⟩
  · have h1 := hF.tm t
    have h2 := hF.lk t
    cases hs : getT st.tmps t with
    | loc b off =>
      rw [hs] at h1 h2
      obtain ⟨B, h3, h4⟩ := h1
      have hb : b ≠ d := by
        intro e; subst e
        have h2 : (assoc b st.locs).isSome = true := h2
        rw [h] at h2; cases h2
      exact ⟨B, by simp only [if_neg hb]; exact h3, h4⟩
    | agg cs => rw [hs] at h1 h2; exact SR_sv (.agg cs) _ h2 h1
    | tup cs => rw [hs] at h1 h2; exact SR_sv (.tup cs) _ h2 h1
    | _ => rw [hs] at h1; exact h1
  · obtain ⟨B, arr, h1, h2, h3, h4, h5⟩ := hF.lc s cs hs
    have hb : s ≠ d := by intro e; subst e; rw [h] at hs; cases hs
    exact ⟨B, arr, by simp only [if_neg hb]; exact h1, h2, h3, h4, h5.anySv⟩

/-- a box of the frame. -/
theorem box_local (hF : FR n st a w g sv ow) {b : Nat} {d : Option Nat} (hd : ∀ t, d = some t → t < n) (hb : assoc b st.locs = none) {x : Operand} (h2 : (cellsOfSlot (opd st x)).all plainCell = true) (elem : Nat) {log : List (Nat × Nat)} :
    ∃ sv' ow', FR n (applyEff st d { dst := .loc b 0, src := handed x (opd st x), box := some (b, cellsOfSlot (opd st x)), log := log })
      (a.put d (.pointer (some ⟨w.heap.size, 0, none⟩))) (w.alloc (.cells (a.eval x).cells elem (0, 0))) g sv' ow' ∧ Fut w g ow (w.alloc (.cells (a.eval x).cells elem (0, 0))) g ow' := by
  have hF' := hF.forget hb
  have ht : Touch w.heap.size w (w.alloc (.cells (a.eval x).cells elem (0, 0))) := touch_alloc w rfl rfl rfl rfl _
  have hownew : ∀ B h, ow B = some h → B ≠ w.heap.size := fun B h hB e => by have := hF.bd B h hB; omega
  let sv' : Nat → Option Nat := fun s => if s = b then some w.heap.size else sv s
  let f := storeF (.loc b) 0 (cellsOfSlot (opd st x)).length x (opd st x)
  let ow' : Ow := fun B => if B = w.heap.size then some ⟨.site b, []⟩ else reownH f ow B
  have how' : ∀ B h k, ow B = some h → f h = some k → ow' B = some k := by
    intro B h k hB hk
    simp only [ow', if_neg (hownew B h hB), reownH, hB, Option.bind_some, hk]
  have hk : ∀ {p : Root → Prop}, (∀ r, p r → ∀ q, f ⟨r, q⟩ = some ⟨r, q⟩) → Keeps p w g ow (w.alloc (.cells (a.eval x).cells elem (0, 0))) g ow' := fun hpp =>
    ⟨Gh.le.refl g, fun B' r q hr h => ⟨how' _ _ _ h (hpp r hr q), ht.oth _ (hownew _ _ h) (hF.bd _ _ h), fun o y hy => hy⟩⟩
  have hkn : Keeps (fun r' => (∀ t, r' ≠ .tmp t) ∧ ∀ o, r' ≠ .cell b o) w g ow (w.alloc (.cells (a.eval x).cells elem (0, 0))) g ow' := hk (fun r hr q => storeF_other (pl := .loc b) hr.1 hr.2)
  have hsv : ∀ s B, (if s = b then none else sv s) = some B → sv' s = some B := by
    intro s B h
    split at h
    · cases h
    · rename_i hs; simp only [sv', if_neg hs]; exact h
  have hass : ∀ s, s ≠ b → assoc s (assocSet b (cellsOfSlot (opd st x)) st.locs) = assoc s st.locs := fun s hs => assoc_set_other _ hs _
  have lkUp : ∀ s, (assoc s st.locs).isSome = true → (assoc s (assocSet b (cellsOfSlot (opd st x)) st.locs)).isSome = true := by
    intro s h
    by_cases hs : s = b
    · subst hs; rw [assoc_set_same]; rfl
    · rw [hass s hs]; exact h
  have lcUp : ∀ {s : Slot}, lcTop (fun s => (assoc s st.locs).isSome = true) s → lcTop (fun s => (assoc s (assocSet b (cellsOfSlot (opd st x)) st.locs)).isSome = true) s := by
    intro s h
    cases s <;> first | exact lkUp _ h | exact h
  refine ⟨sv', ow', hF'.step hd (ht.gc hF.gc (Gh.le.refl g) (fun o y h => absurd h (hF.fresh.2 o y)) (fun _ _ _ _ h => h)) (fun t _ => ⟨w.heap.size, by simp [sv'], rfl⟩) (fun t s h _ => ?_) (fun t h1 h2 => ?_) (fun t _ => ?_) (fun t s h => ?_) lkUp (fun s cs2 h => ?_) ?_ ?_ ?_, ?_⟩
  · rw [handed_view t s h]
    exact SR.view (Gh.le.refl g) hsv _ _ (hF'.tm t)
  · exact (hk (p := fun r => r = .tmp t) (fun r hr q => by subst hr; exact storeF_tmp h2)).keep rfl hsv
  · show (assoc b (assocSet b (cellsOfSlot (opd st x)) st.locs)).isSome = true
    rw [assoc_set_same]; rfl
  · rw [handed_view t s h]
    exact lcUp (view_lcTop (hF.lk t))
  · have h : assoc s (assocSet b (cellsOfSlot (opd st x)) st.locs) = some cs2 := h
    by_cases hs : s = b
    · subst hs
      rw [assoc_set_same] at h
      cases h
      exact ⟨w.heap.size, (a.eval x).cells, by simp [sv'], by simp [ow'], ⟨elem, alloc_new w rfl _⟩, fun o y h => hF.fresh.2 o y h,
        new_cells hF (pl := .loc s) rfl h2 (Gh.le.refl g) (fun B h hB => ht.oth B (hownew B h hB) (hF.bd B h hB)) (fun _ _ _ _ _ h => h) how'⟩
    · rw [hass s hs] at h
      exact (hF'.lc s cs2 h).keeps hkn ⟨by simp, by simp⟩ (fun o => ⟨by simp, by simp [hs]⟩) (fun B h => hsv s B h)
  · exact ⟨fun r o h => (hF.hr.ob r o h).keeps hkn ⟨by simp, by simp⟩ (fun o => ⟨by simp, by simp⟩) (fun _ h => h) (fun _ _ h => h), hF.hr.nf⟩
  · exact DR.keeps hkn ⟨by simp, by simp⟩ _ _ hF.df
  · intro B k hB
    simp only [ow'] at hB
    split at hB
    · rename_i e; subst e; exact ht.lt
    · exact Nat.lt_of_lt_of_le (reownH_bd hF.bd B k hB) ht.sz
  · exact ⟨Gh.le.refl g, ht.sz, fun B' q hB' => hkn.ow B' .ctx q ⟨by simp, by simp⟩ hB', ht.tp, ht.os, ht.ot⟩

theorem newBox_ok (hF : FR n st a w g sv ow) (hd : ∀ t, o.dst = some t → t < n) {h : Hint} {A : Option Nat} {x : Operand} {e : Eff} {elem : Nat}
    (hrun : (execOp a.eval o).run P w = .ok (.value (.pointer (some ⟨w.heap.size, 0, none⟩))) (w.alloc (.cells (a.eval x).cells elem (0, 0))))
    (he : newBox h o.dst (cellsOfSlot (opd st x)) (handed x (opd st x)) (envOf A st) = .ok e) : OpOK P n o a w g ow (applyEff st o.dst e) := by
  unfold newBox at he
  split at he
  · cases he
  · rename_i b hb
    obtain ⟨h2, he⟩ := guardR_ok he
    split at he
    · obtain ⟨hok, he⟩ := guardR_ok he
      cases he
      obtain ⟨g', ow', h3, h4⟩ := box_heap hF hd hok h2 elem
      exact ⟨_, _, _, g', sv, ow', hrun, .inl rfl, h3, h4⟩
    · split at he
      · cases he
      · rename_i hn
        cases he
        obtain ⟨sv', ow', h3, h4⟩ := box_local hF (b := b) hd hn h2 elem (log := logOf b 0 (cellsOfSlot (opd st x)).length)
        exact ⟨_, _, _, g, sv', ow', hrun, .inl rfl, h3, h4⟩

theorem op_box {elem : Nat} {x : Operand} (hF : FR n st a w g sv ow) (hd : ∀ t, o.dst = some t → t < n) {h : Hint} {A : Option Nat} {e : Eff} (ho : o.op = .box elem x)
    (he : newBox h o.dst (cellsOfSlot (opd st x)) (handed x (opd st x)) (envOf A st) = .ok e) : OpOK P n o a w g ow (applyEff st o.dst e) :=
  newBox_ok hF hd (elem := elem) (by simp [execOp, ho, Instr.box, newVar, newRow]) he

theorem op_alloc {elem : Nat} (hF : FR n st a w g sv ow) (hd : ∀ t, o.dst = some t → t < n) {h : Hint} {A : Option Nat} {e : Eff} (ho : o.op = .alloc elem) {why : String}
    (he : (do let z ← opt why (zeroT P elem); newBox h o.dst (cellsOfSlot z) none (envOf A st)) = .ok e) : OpOK P n o a w g ow (applyEff st o.dst e) := by
  obtain ⟨z, hz, he⟩ := Res.mbind_ok he
  obtain ⟨zv, hzr, rfl⟩ := zeroT_run (w := w) (opt_ok hz)
  refine newBox_ok hF hd (x := .const zv) (elem := elem) (h := h) (A := A) ?_ ?_
  · simp [execOp, ho, Instr.alloc, hzr, newVar, newRow, Act.eval]
  · rw [show handed (.const zv) (opd st (.const zv)) = none by cases h : opd st (.const zv) <;> rfl]
    exact he

theorem op_makeMap {t : Nat} (hF : FR n st a w g sv ow) (hd : ∀ t, o.dst = some t → t < n) {A : Option Nat} {e : Eff} (ho : o.op = .makeMap t none)
    (he : guardR "makeMap: place" (layOk (envOf A st)) (.ok { dst := .v (.map (lay (envOf A st) (.map [])).1), heap := some (lay (envOf A st) (.map [])).2 }) = .ok e) : OpOK P n o a w g ow (applyEff st o.dst e) := by
  obtain ⟨hok, he⟩ := guardR_ok he
  cases he
  let r := (lay (envOf A st) (.map [])).1
  have hfree := hF.layFree (x := .map []) hok
  have ht : Touch w.heap.size w (w.alloc (.map #[] 0)) := touch_alloc w rfl rfl rfl rfl _
  have hle : g.le (g.addRf r w.heap.size) := Gh.le_addRf hfree.1
  have hrr : (g.addRf r w.heap.size).rf r = some w.heap.size := by simp [Gh.addRf]
  obtain ⟨h3, h4⟩ := hF.lay_step hd (e := { dst := .v (.map r), heap := some (lay (envOf A st) (.map [])).2 }) (v' := .map (some w.heap.size)) (f := some) (r := r) hok rfl rfl hF.freshHold hF.fresh.2 ht hle (fun _ _ _ h => h) (fun r' h => by simp [Gh.addRf, h]) (fun _ _ => rfl) rfl rfl (fun _ _ _ => rfl) (fun _ _ _ _ => rfl) rfl
    ⟨w.heap.size, #[], 0, hrr, by simp, alloc_new w rfl _, rfl⟩ (fun t _ => ⟨w.heap.size, hrr, rfl⟩) (fun _ _ h => by cases h) rfl
  exact ⟨_, _, _, _, sv, _, by simp [execOp, ho, Instr.makeMap], .inl rfl, h3, h4⟩

end
end Go.Sw
/-! Rows of the heap. -/
namespace Go.Sw
open Go

section
variable {P : Program} {n : Nat} {o : Oper} {st : St} {a : Act} {w : World} {g : Gh} {sv : Nat → Option Nat} {ow : Ow}

/-- An object is another one from then on. -/
theorem FR.obj_step (hF : FR n st a w g sv ow) {d : Option Nat} (hd : ∀ t, d = some t → t < n) {r B : Nat} {x' : HO} (hr : r < st.heap.length)
    (hne : ∀ h, ow B = some h → h.root = .hobj r) (hBim : ∀ o y, ¬ g.im B o y) {w' : World} {g' : Gh} {e : Eff} {v' : Value} {ow' : Ow}
    (ht : Touch B w w') (hle : g.le g') (him : ∀ B o y, g'.im B o y → g.im B o y) (hrf : g'.rf = g.rf) (hrw : ∀ r', r' ≠ r → g'.rw r' = g.rw r')
    (hbox : e.box = none) (hheap : e.heap = some (st.heap.set r x'))
    (hbd : ∀ B' k, ow' B' = some k → B' < w'.heap.size)
    (hf : ∀ B' h, ow B' = some h → (∀ t, h.root ≠ .tmp t) → (∀ o, h.root ≠ .hcell r o) → h.root ≠ .hobj r → ow' B' = some h)
    (hft : ∀ B' t p, ow B' = some ⟨.tmp t, p⟩ → d ≠ some t → (∀ s, e.src ≠ some (t, s)) → ow' B' = some ⟨.tmp t, p⟩)
    (hob : OR w' g' ow' r x')
    (hdst : ∀ t, d = some t → SR w' g' sv ow' ⟨.tmp t, []⟩ e.dst v')
    (hsrc : ∀ t s, e.src = some (t, s) → s = view (getT st.tmps t))
    (lkd : noLoc e.dst = true) :
    FR n (applyEff st d e) (a.put d v') w' g' sv ow' ∧ Fut w g ow w' g' ow' := by
  have hB : ∀ B' h, ow B' = some h → h.root ≠ .hobj r → B' ≠ B := fun B' h hh hr e => by subst e; exact hr (hne _ hh)
  have hkn : Keeps (fun r' => (∀ t, r' ≠ .tmp t) ∧ (∀ o, r' ≠ .hcell r o) ∧ r' ≠ .hobj r) w g ow w' g' ow' :=
    ⟨hle, fun B' r' q hp h => ⟨hf _ _ h hp.1 hp.2.1 hp.2.2, ht.oth _ (hB _ _ h hp.2.2) (hF.bd _ _ h), fun o y hy => him _ _ _ hy⟩⟩
  have hheap' : (applyEff st d e).heap = st.heap.set r x' := by simp [applyEff, hheap]
  have hlocs' : (applyEff st d e).locs = st.locs := by simp [applyEff, hbox]
  refine ⟨hF.step hd (ht.gc hF.gc hle (fun o y h => absurd (him _ _ _ h) (hBim o y)) (fun _ _ _ _ h => him _ _ _ h)) hdst (fun t s h _ => ?_) (fun t h1 h2 => ?_) (fun t h => noLoc_lcTop lkd) (fun t s h => ?_) (fun s h => by rw [hlocs']; exact h) (fun s cs2 h => ?_) ?_ ?_ hbd, ?_⟩
  · rw [hsrc t s h]
    exact SR.view hle (fun _ _ h => h) _ _ (hF.tm t)
  · exact ⟨hle, fun _ _ h => h, fun B' q h => ⟨hft _ _ _ h h1 h2, ht.oth _ (hB _ _ h (by simp)) (hF.bd _ _ h), fun o y hy => him _ _ _ hy⟩⟩
  · rw [hsrc t s h, hlocs']
    exact view_lcTop (hF.lk t)
  · rw [hlocs'] at h
    exact (hF.lc s cs2 h).keeps hkn ⟨by simp, by simp, by simp⟩ (fun o => ⟨by simp, by simp, by simp⟩) (fun _ h => h)
  · rw [hheap']
    refine ⟨fun r' o' h => ?_, fun r' h => ?_⟩
    · by_cases hr' : r' = r
      · subst hr'
        rw [List.getElem?_set_self hr] at h
        cases h
        exact hob
      · rw [List.getElem?_set_ne (fun e => hr' e.symm)] at h
        exact (hF.hr.ob r' o' h).keeps hkn ⟨by simp, by simp, by simp [hr']⟩ (fun o => ⟨by simp, by simp [hr'], by simp⟩) (fun _ h => by rwa [hrf] at h) (fun _ _ h => by rwa [hrw r' hr'] at h)
    · have hlen : st.heap.length ≤ r' := by simpa using h
      rw [hrf, hrw r' (by omega)]
      exact hF.hr.nf r' hlen
  · exact DR.keeps hkn ⟨by simp, by simp, by simp⟩ _ _ hF.df
  · exact ⟨hle, ht.sz, fun B' q hB' => hkn.ow B' .ctx q ⟨by simp, by simp, by simp⟩ hB', ht.tp, ht.os, ht.ot⟩

def Gh.addRw (g : Gh) (r ver : Nat) (x : Nat × Nat × Nat) : Gh := { g with rw := fun r' v => if r' = r ∧ v = ver then some x else g.rw r' v }
theorem Gh.le_addRw {g : Gh} {r ver : Nat} {x : Nat × Nat × Nat} (h : g.rw r ver = none) : g.le (g.addRw r ver x) := ⟨fun _ _ _ h => h, fun _ _ h => h, fun r' v y h' => by
  simp only [Gh.addRw]
  split
  · rename_i e; rw [e.1, e.2, h] at h'; cases h'
  · exact h'⟩

/-- a row that comes to the heap. -/
theorem row_put (hF : FR n st a w g sv ow) {d : Option Nat} (hd : ∀ t, d = some t → t < n) {A : Option Nat} {sz cap B : Nat} {l : List AV} {arr : Array Value} {elem : Nat} {w' : World} {src : Option (Nat × Slot)}
    (hok : layOk (envOf A st) = true) (ht : Touch B w w') (hB : w'.heap[B]? = some (.cells arr elem (0, 0))) (hne : ∀ h, ow B = some h → ∃ t, h.root = .tmp t ∧ ∃ s, src = some (t, s)) (hBim : ∀ o y, ¬ g.im B o y)
    (hsrc : ∀ t s, src = some (t, s) → s = view (getT st.tmps t)) (hrow : RowR g sz l arr) (hcap : cap * sz ≤ arr.size) (hl : l.length ≤ cap) :
    ∃ g' ow', FR n (applyEff st d { dst := .v (.hsl (lay (envOf A st) (.row 0 sz l)).1 0 sz 0 l.length), heap := some (lay (envOf A st) (.row 0 sz l)).2, src := src }) (a.put d (.slice (some ⟨B, 0, none⟩) l.length cap)) w' g' sv ow' ∧
      Fut w g ow w' g' ow' := by
  let r := (lay (envOf A st) (.row 0 sz l)).1
  have hfree := hF.layFree (x := .row 0 sz l) hok
  have hle : g.le (g.addRw r 0 (B, sz, cap)) := Gh.le_addRw (hfree.2 0)
  have hrr : (g.addRw r 0 (B, sz, cap)).rw r 0 = some (B, sz, cap) := by simp [Gh.addRw]
  obtain ⟨h4, h5⟩ := hF.lay_step hd (e := { dst := .v (.hsl r 0 sz 0 l.length), heap := some (lay (envOf A st) (.row 0 sz l)).2, src := src }) (v' := .slice (some ⟨B, 0, none⟩) l.length cap) (f := some) (r := r) hok rfl rfl hne hBim ht hle
    (fun _ _ _ h => h) (fun _ _ => rfl) (fun r' h => by funext v; simp [Gh.addRw, h]) rfl rfl (fun _ _ _ => rfl) (fun _ _ _ _ => rfl) rfl
    ⟨B, cap, arr, hrr, by simp, ⟨elem, hB⟩, fun o y h => hBim o y h, hcap, hl, hrow.mono hle, fun v hv => by
      simp only [Gh.addRw]
      rw [if_neg (by omega)]
      exact hfree.2 v⟩
    (fun t _ => ⟨B, cap, cap, hrr, by simp, by omega, hl⟩) hsrc rfl
  exact ⟨_, _, h4, h5⟩

/-- a new row on the heap. -/
theorem row_new (hF : FR n st a w g sv ow) {d : Option Nat} (hd : ∀ t, d = some t → t < n) {A : Option Nat} {sz cap : Nat} {l : List AV} {arr : Array Value} {elem : Nat} {w1 : World} {src : Option (Nat × Slot)}
    (hok : layOk (envOf A st) = true) (h0 : w1.heap = w.heap) (h1 : w1.tape = w.tape) (h2 : w1.os = w.os) (h3 : w1.output = w.output)
    (hsrc : ∀ t s, src = some (t, s) → s = view (getT st.tmps t)) (hrow : RowR g sz l arr) (hcap : cap * sz ≤ arr.size) (hl : l.length ≤ cap) :
    ∃ g' ow', FR n (applyEff st d { dst := .v (.hsl (lay (envOf A st) (.row 0 sz l)).1 0 sz 0 l.length), heap := some (lay (envOf A st) (.row 0 sz l)).2, src := src }) (a.put d (.slice (some ⟨w.heap.size, 0, none⟩) l.length cap)) (w1.alloc (.cells arr elem (0, 0))) g' sv ow' ∧
      Fut w g ow (w1.alloc (.cells arr elem (0, 0))) g' ow' :=
  row_put hF hd hok (touch_alloc w h0 h1 h2 h3 _) (alloc_new w h0 _) (fun h hh => by rw [hF.fresh.1] at hh; cases hh) hF.fresh.2 hsrc hrow hcap hl

theorem op_makeSliceH {t : Nat} {x y : Operand} (hF : FR n st a w g sv ow) (hd : ∀ t, o.dst = some t → t < n) {e : Eff} {A : Option Nat} (ho : o.op = .makeSlice t x y)
    (he : evMakeSlice P true t (opd st x) (opd st y) (envOf A st) = .ok e) : OpOK P n o a w g ow (applyEff st o.dst e) := by
  unfold evMakeSlice at he
  split at he
  · rename_i k1 m1 k2 m2 el hx hy hu
    obtain ⟨sz, hsz, h2⟩ := Res.mbind_ok he
    obtain ⟨by_, hby, h3⟩ := Res.mbind_ok h2
    obtain ⟨z, hz, h4⟩ := Res.mbind_ok h3
    obtain ⟨q, hq, h5⟩ := Res.mbind_ok h4
    obtain ⟨ag, hag, h6⟩ := Res.mbind_ok h5
    obtain ⟨hg, h7⟩ := guardR_ok h6
    obtain ⟨hg2, h8⟩ := guardR_ok h7
    cases h8
    clear he h2 h3 h4 h5 h6 h7
    simp only [Bool.and_eq_true, Bool.not_eq_true', decide_eq_true_eq] at hg hg2
    obtain ⟨⟨⟨⟨⟨⟨⟨g1, g2⟩, g3⟩, g4⟩, g5⟩, g6⟩, g7⟩, _⟩ := hg
    obtain ⟨rfl, hok⟩ := hg2
    have g4 := Nat.le_of_ble_eq_true g4
    have g7 := Nat.eq_of_beq_eq_true g7
    obtain ⟨i, zv, hi, rfl, rfl, hzv, rfl⟩ := info_all (opt_ok hsz) (opt_ok hby) (opt_ok hz)
    have hq := toAVR_ok hq
    have e1 : a.eval x = .int k1 m1 := by have := hF.opnd x; rw [hx] at this; exact this
    have e2 : a.eval y = .int k2 m1 := by have := hF.opnd y; rw [hy] at this; exact this
    rw [bigLen_eq] at g3
    have hbytes : (i.bytes : Int) * m1 ≤ 281474976710656 := by
      have h1 : (i.bytes : Int) ≤ 256 := by omega
      have h2 : (i.bytes : Int) * m1 ≤ 256 * m1 := Int.mul_le_mul_of_nonneg_right h1 (by omega)
      omega
    have hrun := run_make (P := P) w t el i zv hu hi hzv k1 k2 m1 m1 g1 g2 hbytes (by omega)
    have hzl : (cellsOfSlot (ofConst zv)).length = i.size := (cellsOf_length hq).trans g7
    have hrow := makeSlice_row (g := g) (i := i) (m := m1.toNat) (c := m1.toNat) hq g6 g7 hzl (by omega)
    obtain ⟨g', ow', h8, h9⟩ := row_new hF hd (cap := m1.toNat) (elem := el) (w1 := w) (src := none) hok rfl rfl rfl rfl (fun _ _ h => by cases h) hrow (by rw [size_madeCells]; exact Nat.le_refl _) (by simp)
    refine ⟨_, _, _, g', sv, ow', ?_, .inl rfl, by simpa using h8, h9⟩
    simp [execOp, ho, e1, e2, hrun]
  · cases he

end
end Go.Sw

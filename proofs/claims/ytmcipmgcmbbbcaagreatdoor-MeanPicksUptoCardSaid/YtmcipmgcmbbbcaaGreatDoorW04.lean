/- A reflective evaluator over the code of a program, and the proof that what it finds is what the machine of the model does. It asks of the program what ProgOK says; nothing of a law is said here. -/
import Derived.Test.YtmcipmgcmbbbcaaGreatDoorW03
import Derived.KernelRfl
/-! Appending to rows of the heap; stores into their elements. -/
namespace Go.Sw
open Go

section
variable {P : Program} {n : Nat} {o : Oper} {st : St} {a : Act} {w : World} {g : Gh} {sv : Nat → Option Nat} {ow : Ow}

/-- the row that growing makes. -/
theorem grown_row (hZ : ZeroOk P) {t ty e rt : Nat} {td : TypeDesc} (ht : P.underlying t = some (.slice e)) (hty : P.underlying ty = some td)
    (htd : (∃ q, td = .slice q) ∨ td = .string) {sz by_ : Nat} (hsz : sizeT P e = some sz) (hby : bytesT P e = some by_) {x : Value} {l ys : List AV} {olds news : List Value} {base : Option Addr} {sCap : Nat}
    (ho1 : olds.length = l.length * sz) (ho2 : RowR g sz l olds.toArray) (ho4 : (Builtin.firstCells sz l.length (.slice base l.length sCap)).run P w.drew = .ok olds.toArray w.drew)
    (hn1 : news.length = ys.length * sz) (hn2 : RowR g sz ys news.toArray)
    (hn4 : ∀ w1 : World, w1.heap = w.heap → (Builtin.lenOf x).run P w1 = .ok ys.length w1 ∧ (Builtin.firstCells sz ys.length x).run P w1 = .ok news.toArray w1)
    (hb : by_ ≤ 256) (hmax : l.length + ys.length ≤ bigLen) (hg : sCap < l.length + ys.length) :
    ∃ cap arr, (Builtin.append_ #[t, ty] rt #[.slice base l.length sCap, x]).run P w = .ok (.slice (some ⟨w.heap.size, 0, none⟩) (l ++ ys).length cap) (w.drew.alloc (.cells arr e)) ∧
      RowR g sz (l ++ ys) arr ∧ cap * sz ≤ arr.size ∧ (l ++ ys).length ≤ cap := by
  obtain ⟨i, hi, rfl⟩ := sizeT_info hsz
  obtain ⟨hlt, i', hi', hby'⟩ := bytesT_lt hby
  rw [hi] at hi'
  cases hi'
  subst hby'
  obtain ⟨zv, hz, hzs⟩ := hZ _ _ hlt hi
  rw [bigLen_eq] at hmax
  have hfit : (l.length + ys.length) * i.bytes ≤ 140737488355328 := by
    have := Nat.mul_le_mul hmax hb; omega
  have hrun := append_grow_run (P := P) (w := w) (rt := rt) ht hty htd hi hz (sCap := sCap) (base := base) (hn4 w rfl).1 ho4 (hn4 w.drew rfl).2 hg hfit (by omega)
  have hge := grownCap_ge w (l.length + ys.length) sCap e
  refine ⟨_, _, by rw [List.length_append]; exact hrun, RowR.append ho2 hn2 (fun k u hk hu => ?_) (fun k u hk hu => ?_), ?_, by simpa using hge⟩
  · rw [Array.getElem?_append_left (by simp [ho1]; omega), Array.getElem?_append_left (by simp [ho1]; omega)]; exact hu
  · rw [Array.getElem?_append_left (by simp [ho1, hn1]; omega), Array.getElem?_append_right (by simp [ho1])]
    simpa [ho1] using hu
  · simp only [Array.size_append, List.size_toArray, zeroCells_size, hzs, ho1, hn1, ← Nat.add_mul]
    exact Nat.mul_le_mul_right _ (by omega)

theorem RowR.take {sz k : Nat} {l : List AV} {arr arr' : Array Value} (h : RowR g sz l arr) (he : ∀ j v, j < k * sz → arr[j]? = some v → arr'[j]? = some v) : RowR g sz (l.take k) arr' := by
  intro i x hx
  have hi := len_of_get hx
  simp only [List.length_take] at hi
  rw [List.getElem?_take_of_lt (by omega)] at hx
  obtain ⟨h1, h2⟩ := h i x hx
  refine ⟨h1, fun j y hy => ?_⟩
  obtain ⟨v, h3, h4, h5⟩ := h2 j y hy
  exact ⟨v, he _ v (row_lt (by omega) (by have := len_of_get hy; rwa [h1] at this)) h3, h4, h5⟩

/-- what is stored in the middle of a row. -/
theorem splice_get {arr : Array Value} {vs : List Value} {off : Nat} (h : off + vs.length ≤ arr.size) (k : Nat) :
    (arr.toList.take off ++ vs ++ arr.toList.drop (off + vs.length)).toArray[k]? = if off ≤ k ∧ k < off + vs.length then vs[k - off]? else arr[k]? := by
  have hl : (arr.toList.take off).length = off := by simp; omega
  simp only [List.getElem?_toArray]
  by_cases hk : k < off
  · rw [if_neg (by omega), List.append_assoc, List.getElem?_append_left (by omega), List.getElem?_take_of_lt hk, Array.getElem?_toList]
  · rw [List.append_assoc, List.getElem?_append_right (by omega), hl]
    by_cases hk2 : k < off + vs.length
    · rw [if_pos ⟨by omega, hk2⟩, List.getElem?_append_left (by omega)]
    · rw [if_neg (by omega), List.getElem?_append_right (by omega), List.getElem?_drop, Array.getElem?_toList]
      congr 1
      omega
theorem splice_size {arr : Array Value} {vs : List Value} {off : Nat} (h : off + vs.length ≤ arr.size) : (arr.toList.take off ++ vs ++ arr.toList.drop (off + vs.length)).toArray.size = arr.size := by
  simp; omega

/-- appending to a row of the heap. -/
theorem append_hsl (hF : FR n st a w g sv ow) (hZ : ZeroOk P) {d : Option Nat} (hd : ∀ t, d = some t → t < n) {t ty e rt : Nat} {td : TypeDesc} (ht : P.underlying t = some (.slice e)) (hty : P.underlying ty = some td)
    (htd : (∃ q, td = .slice q) ∨ td = .string) {sz by_ : Nat} (hsz : sizeT P e = some sz) (hby : bytesT P e = some by_) {v x : Value} {l ys : List AV} {news : List Value} {r ver sz0 k : Nat}
    (hv : VR g (.hsl r ver sz0 0 k) v) (hr : st.heap[r]? = some (.row ver sz l)) (hk : k ≤ l.length)
    (hn1 : news.length = ys.length * sz) (hn2 : RowR g sz ys news.toArray) (hn3 : ∀ u ∈ news, u.oneCell' = true)
    (hn4 : ∀ w1 : World, w1.heap = w.heap → (Builtin.lenOf x).run P w1 = .ok ys.length w1 ∧ (Builtin.firstCells sz ys.length x).run P w1 = .ok news.toArray w1)
    (hb : by_ ≤ 256) (hmax : k + ys.length ≤ bigLen) :
    ∃ v' w' g' ow', (Builtin.append_ #[t, ty] rt #[v, x]).run P w = .ok v' w' ∧
      FR n (applyEff st d { dst := .v (.hsl r (ver + 1) sz 0 (k + ys.length)), heap := some (st.heap.set r (.row (ver + 1) sz (l.take k ++ ys))) }) (a.put d v') w' g' sv ow' ∧ Fut w g ow w' g' ow' := by
  obtain ⟨B, C, c, h1, rfl, h2, h3⟩ := hv
  obtain ⟨B', C', arr, h4, h5, ⟨elem, h6⟩, h7, h8, h9, h10, h11⟩ := hF.hr.ob r _ hr
  rw [h1] at h4
  simp only [Option.some.injEq, Prod.mk.injEq] at h4
  obtain ⟨rfl, rfl, rfl⟩ := h4
  have hrl := len_of_get hr
  have hno := h11 (ver + 1) (by omega)
  have hlk : (l.take k).length = k := by simp; omega
  have hcs : c * sz0 ≤ arr.size := Nat.le_trans (Nat.mul_le_mul_right _ (by omega)) h8
  have hks : k * sz0 ≤ arr.size := Nat.le_trans (Nat.mul_le_mul_right _ h3) hcs
  have hrwne : ∀ (y : Nat × Nat × Nat) r', r' ≠ r → (g.addRw r (ver + 1) y).rw r' = g.rw r' := fun y r' h => by funext v; simp [Gh.addRw, h]
  have hrw2 : ∀ (y : Nat × Nat × Nat) v, ver + 1 < v → (g.addRw r (ver + 1) y).rw r v = none := fun y v hv => by
    simp only [Gh.addRw]; rw [if_neg (by omega)]; exact h11 v (by omega)
  by_cases hroom : k + ys.length ≤ c
  · have hfit : k * sz0 + news.length ≤ arr.size := by rw [hn1, ← Nat.add_mul]; exact Nat.le_trans (Nat.mul_le_mul_right _ hroom) hcs
    have hst := run_storeCells_at P B (k * sz0) elem news 0 arr w h6 (by simpa using hfit) hn3
    simp only [Nat.add_zero] at hst
    let arr' : Array Value := (arr.toList.take (k * sz0) ++ news ++ arr.toList.drop (k * sz0 + news.length)).toArray
    have harr' : ∀ j, arr'[j]? = if k * sz0 ≤ j ∧ j < k * sz0 + news.length then news[j - k * sz0]? else arr[j]? := splice_get hfit
    have hr0 := append_room_run (P := P) (w := w) (w' := w.setRow B arr') (rt := rt) ht hty htd hsz (base := some ⟨B, 0 * sz0, none⟩) (sLen := k) (sCap := c) (hn4 w rfl).1 (hn4 w rfl).2 hroom
      (fun b hb => by cases hb; rw [Addr_add, Nat.zero_mul, Nat.zero_add]; exact hst) (fun h => by cases h)
    have hrow : RowR g sz0 (l.take k ++ ys) arr' := by
      refine RowR.append (a1 := arr) (a2 := news.toArray) (h10.take (fun j v _ h => h)) hn2 (fun j u hj hu => ?_) (fun j u hj hu => ?_)
      · rw [hlk] at hj; rw [harr', if_neg (by omega)]; exact hu
      · have hu' : news[j]? = some u := by simpa using hu
        have := len_of_get hu'
        rw [hlk, harr', if_pos ⟨by omega, by omega⟩, Nat.add_sub_cancel_left]; exact hu'
    have hle : g.le (g.addRw r (ver + 1) (B, sz0, C)) := Gh.le_addRw hno
    have hrr : (g.addRw r (ver + 1) (B, sz0, C)).rw r (ver + 1) = some (B, sz0, C) := by simp [Gh.addRw]
    obtain ⟨q1, q2⟩ := hF.obj_step hd (r := r) (B := B) (x' := .row (ver + 1) sz0 (l.take k ++ ys)) (e := { dst := .v (.hsl r (ver + 1) sz0 0 (k + ys.length)), heap := some (st.heap.set r (.row (ver + 1) sz0 (l.take k ++ ys))) })
      (v' := .slice (some ⟨B, 0 * sz0, none⟩) (k + ys.length) c) (ow' := ow) hrl (fun h hh => by rw [h5] at hh; cases hh; rfl) h7 (setRow_touch (cs := arr') h6) hle (fun _ _ _ h => h) rfl (hrwne _) rfl rfl
      (fun B' k' hB' => by rw [setRow_size]; exact hF.bd _ _ hB') (fun _ _ h _ _ _ => h) (fun _ _ _ h _ _ => h)
      ⟨B, C, arr', hrr, h5, ⟨elem, setRow_heap w B arr _ elem _ h6⟩, h7, by rw [splice_size hfit]; exact h8, by simp [hlk]; omega, hrow.mono hle, hrw2 _⟩
      (fun t _ => ⟨B, C, c, hrr, rfl, h2, hroom⟩) (fun _ _ h => by cases h) rfl
    exact ⟨_, _, _, _, hr0, q1, q2⟩
  · have hload : (Builtin.firstCells sz0 (l.take k).length (.slice (some ⟨B, 0 * sz0, none⟩) (l.take k).length c)).run P w.drew = .ok (arr.toList.take (k * sz0)).toArray w.drew := by
      rw [hlk]
      refine run_firstCells_some (P := P) w.drew sz0 k ⟨B, 0 * sz0, none⟩ k c (arr.toList.take (k * sz0)) (by simp; omega) (fun j u hu => ?_)
      have hj := len_of_get hu
      simp only [List.length_take] at hj
      rw [List.getElem?_take_of_lt (by omega), Array.getElem?_toList] at hu
      rw [Addr_add, World.cell?_drew, Nat.zero_mul, Nat.zero_add, cell_of_row w B j arr elem (0, 0) h6]
      exact hu
    obtain ⟨cap, arr2, q1, q2, q3, q4⟩ := grown_row (P := P) (rt := rt) (w := w) hZ ht hty htd hsz hby (l := l.take k) (ys := ys) (olds := arr.toList.take (k * sz0)) (base := some ⟨B, 0 * sz0, none⟩) (sCap := c) (by simp [hlk]; omega)
      (h10.take (fun j u hj hu => by simp only [List.getElem?_toArray]; rw [List.getElem?_take_of_lt hj, Array.getElem?_toList]; exact hu)) hload hn1 hn2 hn4 hb (by rw [hlk]; exact hmax) (by rw [hlk]; omega)
    rw [hlk] at q1
    have hle : g.le (g.addRw r (ver + 1) (w.heap.size, sz0, cap)) := Gh.le_addRw hno
    have hrr : (g.addRw r (ver + 1) (w.heap.size, sz0, cap)).rw r (ver + 1) = some (w.heap.size, sz0, cap) := by simp [Gh.addRw]
    have hlen : (l.take k ++ ys).length = k + ys.length := by simp [hlk]
    have ht2 : Touch w.heap.size w (w.drew.alloc (.cells arr2 e)) := touch_alloc w (w1 := w.drew) rfl rfl rfl rfl _
    have hownew : ∀ B h, ow B = some h → B ≠ w.heap.size := fun B h hB e => by have := hF.bd B h hB; omega
    obtain ⟨q5, q6⟩ := hF.obj_step hd (r := r) (B := w.heap.size) (x' := .row (ver + 1) sz0 (l.take k ++ ys)) (e := { dst := .v (.hsl r (ver + 1) sz0 0 (k + ys.length)), heap := some (st.heap.set r (.row (ver + 1) sz0 (l.take k ++ ys))) })
      (v' := .slice (some ⟨w.heap.size, 0, none⟩) (k + ys.length) cap) (ow' := fun B' => if B' = w.heap.size then some ⟨.hobj r, []⟩ else ow B') hrl (fun h hh => by rw [hF.fresh.1] at hh; cases hh) hF.fresh.2 ht2 hle (fun _ _ _ h => h) rfl (hrwne _) rfl rfl
      (fun B' k' hB' => by
        split at hB'
        · rename_i e; subst e; exact ht2.lt
        · exact Nat.lt_of_lt_of_le (hF.bd _ _ hB') ht2.sz)
      (fun B' h hB' _ _ _ => by simp only [if_neg (hownew _ _ hB')]; exact hB') (fun B' t p hB' _ _ => by simp only [if_neg (hownew _ _ hB')]; exact hB')
      ⟨w.heap.size, cap, arr2, hrr, by simp, ⟨e, alloc_new w (w1 := w.drew) rfl _⟩, hF.fresh.2, q3, q4, q2.mono hle, hrw2 _⟩
      (fun t _ => ⟨w.heap.size, cap, cap, hrr, by simp, by omega, by rw [← hlen]; exact q4⟩) (fun _ _ h => by cases h) rfl
    rw [hlen] at q1
    exact ⟨_, _, _, _, q1, q5, q6⟩

theorem op_appendHsl {c : Go.Call} (hF : FR n st a w g sv ow) (hZ : ZeroOk P) (hd : ∀ t, o.dst = some t → t < n) {e : Eff} {A : Option Nat} {hp : Bool} (ho : o.op = .call c) (hc : c.callee = .builtin .append)
    {x y : Operand} {t ty : Nat} (hxy : c.args.toList = [x, y]) (htt : c.argTypes.toList = [t, ty]) {td : TypeDesc} (hty : P.underlying ty = some td) (htd : (∃ q, td = .slice q) ∨ td = .string)
    {r ver sz0 off k : Nat} (hxv : opd st x = .v (.hsl r ver sz0 off k))
    (he : evAppend P hp t x (opd st x) (opd st y) (envOf A st) = .ok e) : OpOK P n o a w g ow (applyEff st o.dst e) := by
  have hrun0 := run_builtin (P := P) (w := w) (a := a) ho hc
  rw [arr2 hxy, arr2 htt] at hrun0
  have fin : ∀ v' w', (Builtin.append_ #[t, ty] o.type #[a.eval x, a.eval y]).run P w = .ok v' w' → (execOp a.eval o).run P w = .ok (.value v') w' := by
    intro v' w' h
    rw [hrun0]
    simp [builtin, h]
  have hx := hF.opnd x
  rw [hxv] at hx he
  unfold evAppend at he
  split at he
  · rename_i el hu
    obtain ⟨sz, hsz, h2⟩ := Res.mbind_ok he
    obtain ⟨by_, hby, h3⟩ := Res.mbind_ok h2
    obtain ⟨ys, hys, h4⟩ := Res.mbind_ok h3
    obtain ⟨hg, h5⟩ := guardR_ok h4
    clear he h2 h3 h4
    simp only [Bool.and_eq_true, Bool.not_eq_true'] at hg
    obtain ⟨⟨⟨g1, g2⟩, g3⟩, g4⟩ := hg
    have g1 := Nat.le_of_ble_eq_true g1
    obtain ⟨news, hn1, hn2, hn3, hn4⟩ := appended_run (P := P) hF hys g4
    have hsz := opt_ok hsz
    have hby := opt_ok hby
    cases off with
    | succ off => simp at h5
    | zero =>
      simp only at h5
      split at h5
      · rename_i ver' sz' l hr
        obtain ⟨g5, h6⟩ := guardR_ok h5
        cases h6
        simp only [Bool.and_eq_true, decide_eq_true_eq] at g5
        obtain ⟨⟨⟨g5, g6⟩, g7⟩, g8⟩ := g5
        have g5 := Nat.eq_of_beq_eq_true g5
        have g6 := Nat.eq_of_beq_eq_true g6
        have g7 := Nat.le_of_ble_eq_true g7
        subst g5
        subst g6
        obtain ⟨v', w', g', ow', q1, q2, q3⟩ := append_hsl (P := P) (rt := o.type) hF hZ hd hu hty htd hsz hby hx hr g7 hn1 hn2 hn3 hn4 g1 g8
        exact ⟨_, v', w', g', sv, ow', fin _ _ q1, .inl rfl, q2, q3⟩
      · cases h5
  · cases he

end
end Go.Sw
/-! Appending on the heap; stores into elements of rows; all of 'append' and 'store'. -/
namespace Go.Sw
open Go

section
variable {P : Program} {n : Nat} {o : Oper} {st : St} {a : Act} {w : World} {g : Gh} {sv : Nat → Option Nat} {ow : Ow}

theorem op_appendH {c : Go.Call} (hF : FR n st a w g sv ow) (hZ : ZeroOk P) (hd : ∀ t, o.dst = some t → t < n) {e : Eff} {A : Option Nat} (ho : o.op = .call c) (hc : c.callee = .builtin .append)
    {x y : Operand} {t ty : Nat} (hxy : c.args.toList = [x, y]) (htt : c.argTypes.toList = [t, ty]) {td : TypeDesc} (hty : P.underlying ty = some td) (htd : (∃ q, td = .slice q) ∨ td = .string)
    (hnh : ∀ r ver sz off len, opd st x ≠ .v (.hsl r ver sz off len))
    (he : evAppend P true t x (opd st x) (opd st y) (envOf A st) = .ok e) : OpOK P n o a w g ow (applyEff st o.dst e) := by
  have hrun0 := run_builtin (P := P) (w := w) (a := a) ho hc
  rw [arr2 hxy, arr2 htt] at hrun0
  have fin : ∀ v' w', (Builtin.append_ #[t, ty] o.type #[a.eval x, a.eval y]).run P w = .ok v' w' → (execOp a.eval o).run P w = .ok (.value v') w' := by
    intro v' w' h
    rw [hrun0]
    simp [builtin, h]
  have hx := hF.opnd x
  unfold evAppend at he
  split at he
  · rename_i el hu
    obtain ⟨sz, hsz, h2⟩ := Res.mbind_ok he
    obtain ⟨by_, hby, h3⟩ := Res.mbind_ok h2
    obtain ⟨ys, hys, h4⟩ := Res.mbind_ok h3
    obtain ⟨hg, h5⟩ := guardR_ok h4
    clear he h2 h3 h4
    simp only [Bool.and_eq_true, Bool.not_eq_true'] at hg
    obtain ⟨⟨⟨g1, g2⟩, g3⟩, g4⟩ := hg
    have g1 := Nat.le_of_ble_eq_true g1
    obtain ⟨news, hn1, hn2, hn3, hn4⟩ := appended_run (P := P) hF hys g4
    have hsz := opt_ok hsz
    have hby := opt_ok hby
    have hrow0 : RowR g sz [] (#[] : Array Value) := fun i x hx => by simp at hx
    -- a slice without room
    have empty : ∀ p sCap, a.eval x = .slice p 0 sCap → sCap < ys.length → layOk (envOf A st) = true → ys.length ≤ bigLen → ∀ src : Option (Nat × Slot), (∀ t s, src = some (t, s) → s = view (getT st.tmps t)) →
        OpOK P n o a w g ow (applyEff st o.dst { dst := .v (.hsl (lay (envOf A st) (.row 0 sz ys)).1 0 sz 0 ys.length), heap := some (lay (envOf A st) (.row 0 sz ys)).2, src := src }) := by
      intro p sCap hp hlt hok hmax src hsrc
      obtain ⟨cap, arr, q1, q2, q3, q4⟩ := grown_row (P := P) (rt := o.type) (w := w) (g := g) hZ hu hty htd hsz hby (l := []) (ys := ys) (olds := []) (base := p) (sCap := sCap) (by simp) (by simpa using hrow0)
        (run_firstCells_zero _ _ _ _ _) hn1 hn2 hn4 g1 (by simpa using hmax) (by simpa using hlt)
      simp only [List.nil_append, List.length_nil] at q1 q2 q4
      obtain ⟨g', ow', h8, h9⟩ := row_new hF hd (cap := cap) (elem := el) (w1 := w.drew) (src := src) hok rfl rfl rfl rfl hsrc q2 q3 q4
      exact ⟨_, _, _, g', sv, ow', fin _ _ (by rw [hp]; exact q1), .inl rfl, h8, h9⟩
    split at h5
    · rename_i hxv
      obtain ⟨g5, h6⟩ := guardR_ok h5
      obtain ⟨g6, h7⟩ := guardR_ok h6
      cases h7
      simp only [Bool.and_eq_true] at g6
      rw [hxv] at hx
      have hp : _ = Value.slice none 0 0 := hx
      exact empty none 0 hp (by have := Nat.le_of_ble_eq_true g6.2; omega) g6.1 (of_decide_eq_true g5) none (fun _ _ h => by cases h)
    · rename_i sz' l hxv
      obtain ⟨g5, h6⟩ := guardR_ok h5
      obtain ⟨g7, h7⟩ := guardR_ok h6
      cases h7
      simp only [Bool.and_eq_true, decide_eq_true_eq] at g5 g7
      obtain ⟨g5, g6⟩ := g5
      obtain ⟨⟨g7, g8⟩, g9⟩ := g7
      have g5 := Nat.eq_of_beq_eq_true g5
      subst g5
      have hl0 : l = [] := List.eq_nil_of_length_eq_zero (Nat.eq_of_beq_eq_true g9)
      subst hl0
      have hsrc := handed_view (st := st) (x := x)
      have hpos := Nat.le_of_ble_eq_true g8
      rw [hxv] at hx
      rcases hx with ⟨_, p, hp⟩ | ⟨B, cap, hp, hown, hO⟩
      · exact empty p 0 hp (by omega) g7 (by simpa using g6) _ hsrc
      · obtain ⟨hlc, ⟨arr, ⟨elem, hB⟩, hcs⟩, him, hno⟩ := hO
        by_cases hroom : ys.length ≤ cap
        · obtain ⟨t0, rfl⟩ := own_tmp hxv
          have hfit : 0 + news.length ≤ arr.size := by
            rw [hn1, Nat.zero_add]; exact Nat.le_trans (Nat.mul_le_mul_right _ hroom) hcs
          have hst := run_storeCells_at P B 0 elem news 0 arr w hB (by simpa using hfit) hn3
          have hr := append_room_run (P := P) (w := w) (w' := w.setRow B (arr.toList.take 0 ++ news ++ arr.toList.drop (0 + news.length)).toArray) (rt := o.type) hu hty htd hsz
            (base := some ⟨B, 0, none⟩) (sLen := 0) (sCap := cap) (hn4 w rfl).1 (hn4 w rfl).2 (by omega) (fun b hb => by cases hb; rw [Addr_add, Nat.zero_mul, Nat.zero_add]; exact hst) (fun h => by cases h)
          have hrow : RowR g sz ys (arr.toList.take 0 ++ news ++ arr.toList.drop (0 + news.length)).toArray := by
            have := RowR.append (arr := (arr.toList.take 0 ++ news ++ arr.toList.drop (0 + news.length)).toArray) hrow0 hn2 (fun k v hk _ => by simp at hk) (fun k u hk hu => by
              have hu' : news[k]? = some u := by simpa using hu
              have := len_of_get hu'
              rw [splice_get hfit, if_pos ⟨by simp, by simp; omega⟩]
              simpa using hu')
            simpa using this
          obtain ⟨g', ow', h8, h9⟩ := row_put hF hd (B := B) (cap := cap) (elem := elem) (src := handed (.tmp t0) (opd st (.tmp t0))) g7 (setRow_touch hB) (setRow_heap w B arr _ elem _ hB)
            (fun h hh => by rw [hown] at hh; cases hh; exact ⟨t0, rfl, _, by rw [hxv]; rfl⟩) (fun k q hk => hno k q (by simp) hk) hsrc hrow (by rw [splice_size hfit]; exact hcs) hroom
          refine ⟨_, _, _, g', sv, ow', fin _ _ ?_, .inl rfl, h8, h9⟩
          rw [hp]
          simpa using hr
        · exact empty (some ⟨B, 0, none⟩) cap hp (by omega) g7 (by simpa using g6) _ hsrc
    · rename_i hxv
      exact absurd hxv (hnh _ _ _ _ _)
    · cases h5
  · cases he

/-- all of 'append'. -/
theorem op_appendAll {c : Go.Call} (hF : FR n st a w g sv ow) (hZ : ZeroOk P) (hd : ∀ t, o.dst = some t → t < n) {e : Eff} {A : Option Nat} {h : Hint} (ho : o.op = .call c) (hc : c.callee = .builtin .append)
    (he : evAppendOp P h o.dst c (envOf A st) = .ok e) : OpOK P n o a w g ow (applyEff st o.dst e) := by
  unfold evAppendOp at he
  split at he
  · rename_i x y t ty hxy htt
    have main : ∀ td, P.underlying ty = some td → ((∃ q, td = .slice q) ∨ td = .string) → evAppend P (onHeap h o.dst) t x (opd st x) (opd st y) (envOf A st) = .ok e → OpOK P n o a w g ow (applyEff st o.dst e) := by
      intro td hty htd he
      by_cases hh : ∃ r ver sz off len, opd st x = .v (.hsl r ver sz off len)
      · obtain ⟨r, ver, sz, off, len, hh⟩ := hh
        exact op_appendHsl hF hZ hd ho hc hxy htt hty htd hh he
      · have hnh : ∀ r ver sz off len, opd st x ≠ .v (.hsl r ver sz off len) := fun r ver sz off len e => hh ⟨r, ver, sz, off, len, e⟩
        cases hb : onHeap h o.dst with
        | true => rw [hb] at he; exact op_appendH hF hZ hd ho hc hxy htt hty htd hnh he
        | false => rw [hb] at he; exact op_append hF hZ hd ho hc hxy htt hty htd hnh he
    split at he
    · rename_i q hty; exact main _ hty (.inl ⟨q, rfl⟩) he
    · rename_i hty; exact main _ hty (.inr rfl) he
    · cases he
  · cases he

theorem elemOf_cells {x : AV} {xs : List AV} (hl : xs.length = (cellsOfAV x).length) (hp : (∀ cs, x ≠ .agg cs) → ∀ y ∈ xs, ∀ cs, y ≠ .agg cs) : cellsOfAV (elemOf x xs) = xs := by
  cases x with
  | agg cs => rfl
  | _ =>
    have h1 := hp (by simp)
    match xs, hl with
    | [y], _ =>
      have := h1 y (by simp)
      cases y <;> first | rfl | exact absurd rfl (this _)

/-- a store into an element of a row. -/
theorem store_er {t m : Nat} {x : Operand} (hF : FR n st a w g sv ow) (hd : ∀ t, o.dst = some t → t < n) {e : Eff} {A : Option Nat} {r ver i j : Nat} {y : Operand} (hy : opd st y = .er r ver i j) (ho : o.op = .store t y x)
    {cs : List Slot} {off : Nat} (hb : behind (envOf A st) (.er r ver i j) = some (cs, off)) (hm : sizeT P t = some m)
    (h1 : (cellsOfSlot (opd st x)).length = m) (h2 : (cellsOfSlot (opd st x)).all plainCell = true) (h3 : off + m ≤ cs.length)
    (he : setBehind (envOf A st) (.er r ver i j) (writeL cs off (cellsOfSlot (opd st x))) off m { dst := .undef, src := handed x (opd st x) } = some e) : OpOK P n o a w g ow (applyEff st o.dst e) := by
  have hv := hF.opnd y
  rw [hy] at hv
  obtain ⟨B, sz0, C, hg1, hv⟩ := hv
  simp only [behind] at hb
  split at hb
  · rename_i ver' sz l hr
    split at hb
    · rename_i z hver hz
      cases hb
      have hver := Nat.eq_of_beq_eq_true hver
      subst hver
      have hr' : st.heap[r]? = some (.row ver sz l) := hr
      simp only [setBehind, hr] at he
      split at he
      · rename_i z' xs _ hz' hxs
        rw [hz] at hz'
        cases hz'
        cases he
        obtain ⟨B', C', arr, h4, h5, ⟨elem, h6⟩, h7, h8, h9, h10, h11⟩ := hF.hr.ob r _ hr'
        rw [hg1] at h4
        simp only [Option.some.injEq, Prod.mk.injEq] at h4
        obtain ⟨rfl, rfl, rfl⟩ := h4
        have hrl := len_of_get hr'
        obtain ⟨hzl, hzc⟩ := h10 i z hz
        have h0 : SR w g sv ow ⟨(opHold x).root, []⟩ (opd st x) (a.eval x) := by have := hF.opnd x; cases x <;> exact this
        obtain ⟨hsz, hget⟩ := cells_SR h0 h2
        rw [h1] at hsz
        have hone : ∀ u ∈ (a.eval x).cells.toList, u.oneCell' = true := by
          intro u hu
          obtain ⟨q, hq⟩ := List.mem_iff_getElem?.mp hu
          have hjl : q < m := by have := len_of_get hq; simpa [hsz] using this
          obtain ⟨u', e1, e2, _⟩ := hget q _ (List.getElem?_eq_getElem (by omega))
          have : u = u' := by
            rw [Array.getElem?_toList] at hq
            rw [e1] at hq
            exact (Option.some.inj hq).symm
          rw [this]; exact e2
        have hcl : j + m ≤ sz0 := by simpa [hzl] using h3
        have hil : i < C := Nat.lt_of_lt_of_le (len_of_get hz) h9
        have hin : (i + 1) * sz0 ≤ arr.size := Nat.le_trans (Nat.mul_le_mul_right _ hil) h8
        rw [Nat.add_mul, Nat.one_mul] at hin
        have hfit : i * sz0 + j + (a.eval x).cells.toList.length ≤ arr.size := by rw [Array.length_toList, hsz]; omega
        have hst := run_storeCells_at P B (i * sz0 + j) elem (a.eval x).cells.toList 0 arr w h6 (by simpa using hfit) hone
        simp only [Nat.add_zero] at hst
        let arr' : Array Value := (arr.toList.take (i * sz0 + j) ++ (a.eval x).cells.toList ++ arr.toList.drop (i * sz0 + j + (a.eval x).cells.toList.length)).toArray
        have harr' : ∀ k, arr'[k]? = if i * sz0 + j ≤ k ∧ k < i * sz0 + j + m then (a.eval x).cells[k - (i * sz0 + j)]? else arr[k]? := by
          intro k
          have := splice_get hfit k
          rw [Array.length_toList, hsz, Array.getElem?_toList] at this
          rw [← this]
          simp only [arr', Array.length_toList, hsz]
        obtain ⟨hxl, hxg⟩ := toAVs_get _ _ hxs
        have hxl' : xs.length = sz0 := by rw [hxl, writeL_length]; simpa using hzl
        -- what the element's cells are then
        have hnew : ∀ (k : Nat) (q : AV), xs[k]? = some q → ∃ u, arr'[i * sz0 + k]? = some u ∧ VR g q u ∧ Cell1 u := by
          intro k q hq
          obtain ⟨c, hc1, hc2⟩ := hxg k q hq
          rw [writeL_get, h1] at hc1
          split at hc1
          · rename_i hr2
            obtain ⟨u, e1, e2, e3⟩ := hget _ c hc1
            refine ⟨u, ?_, SR.toAV _ _ _ e3 hc2, e2⟩
            rw [harr', if_pos ⟨by omega, by omega⟩]
            have : i * sz0 + k - (i * sz0 + j) = k - j := by omega
            rw [this]; exact e1
          · rename_i hr2
            simp only [List.getElem?_map] at hc1
            cases hzk : (cellsOfAV z)[k]? with
            | none => simp [hzk] at hc1
            | some q' =>
              simp [hzk] at hc1
              subst hc1
              cases hc2
              obtain ⟨u, e1, e2, e3⟩ := hzc k q hzk
              have hk := len_of_get hzk
              refine ⟨u, ?_, e2, e3⟩
              rw [harr', if_neg (fun h => hr2 ⟨by omega, by omega, by simpa using hk⟩)]
              exact e1
        have hel : cellsOfAV (elemOf z xs) = xs := elemOf_cells (by rw [hxl', hzl]) (fun hna q hq cs e => by
          obtain ⟨k, hk⟩ := List.mem_iff_getElem?.mp hq
          obtain ⟨u, _, e2, e3⟩ := hnew k q hk
          subst e
          obtain ⟨vs, rfl, _⟩ := e2
          cases e3)
        have hrow : RowR g sz0 (l.set i (elemOf z xs)) arr' := by
          intro i' z' hz'
          by_cases hi : i' = i
          · subst hi
            rw [List.getElem?_set_self (len_of_get hz)] at hz'
            cases hz'
            rw [hel]
            exact ⟨hxl', hnew⟩
          · rw [List.getElem?_set_ne (fun e => hi e.symm)] at hz'
            obtain ⟨e1, e2⟩ := h10 i' z' hz'
            refine ⟨e1, fun k q hq => ?_⟩
            obtain ⟨u, e3, e4, e5⟩ := e2 k q hq
            have hk := len_of_get hq
            rw [e1] at hk
            refine ⟨u, ?_, e4, e5⟩
            rw [harr', if_neg]
            · exact e3
            · rintro ⟨c1, c2⟩
              rcases Nat.lt_or_ge i' i with h | h
              · have := row_lt (sz := sz0) (j := k) h hk; omega
              · have h' : i < i' := by omega
                have := Nat.mul_le_mul_right sz0 (show i + 1 ≤ i' from h')
                rw [Nat.add_mul] at this; omega
        obtain ⟨q1, q2⟩ := hF.obj_step hd (r := r) (B := B) (x' := .row ver sz0 (l.set i (elemOf z xs))) (e := { dst := .undef, src := handed x (opd st x), heap := some (st.heap.set r (.row ver sz0 (l.set i (elemOf z xs)))) })
          (v' := undef) (ow' := ow) hrl (fun h hh => by rw [h5] at hh; cases hh; rfl) h7 (setRow_touch (cs := arr') h6) (Gh.le.refl g) (fun _ _ _ h => h) rfl (fun _ _ => rfl) rfl rfl
          (fun B' k' hB' => by rw [setRow_size]; exact hF.bd _ _ hB') (fun _ _ h _ _ _ => h) (fun _ _ _ h _ _ => h)
          ⟨B, C, arr', hg1, h5, ⟨elem, setRow_heap w B arr _ elem _ h6⟩, h7, by rw [splice_size hfit]; exact h8, by simpa using h9, hrow, h11⟩
          (fun _ _ => trivial) (fun t s h => handed_view t s h) rfl
        refine ⟨_, _, _, g, sv, ow, ?_, .inr ⟨rfl, rfl⟩, q1, q2⟩
        simp only [execOp, ho, hv, Instr.storeAt, Instr.sureAddr, storeVar, Sem.run_bind, Sem.run_pure, sizeT_run hm, hsz, Result.andThen_ok, ne_eq, not_true_eq_false, if_false]
        rw [hst]
        rfl
      · cases he
    · cases hb
  · cases hb

theorem op_store {t : Nat} {y x : Operand} {A : Option Nat} (hF : FR n st a w g sv ow) (hd : ∀ t, o.dst = some t → t < n) {e : Eff} (ho : o.op = .store t y x)
    (he : evStore P t (opd st y) x (envOf A st) = .ok e) : OpOK P n o a w g ow (applyEff st o.dst e) := by
  obtain ⟨⟨cs, off⟩, hb, h2⟩ := Res.mbind_ok he
  obtain ⟨m, hm, h3⟩ := Res.mbind_ok h2
  obtain ⟨hg, h4⟩ := guardR_ok h3
  clear he h2 h3
  have hm := opt_ok hm
  have h4 := opt_ok h4
  have hb := opt_ok hb
  simp only [Bool.and_eq_true] at hg
  obtain ⟨⟨g1, g2⟩, g3⟩ := hg
  have g1 := Nat.eq_of_beq_eq_true g1
  have g3 := Nat.le_of_ble_eq_true g3
  by_cases her : ∃ r ver i j, opd st y = .er r ver i j
  · obtain ⟨r, ver, i, j, hy⟩ := her
    rw [hy] at hb h4
    exact store_er hF hd hy ho hb hm g1 g2 g3 h4
  · obtain ⟨B, k, hv, hrd, hpl⟩ := behind_ptr hF (hF.opnd y) hb
    rcases hpl with ⟨pl, arr0, hc, hp, rfl, hset⟩ | ⟨ys, rfl, hno⟩
    · have h5 := hset (writeL cs k (cellsOfSlot (opd st x))) m { dst := .undef, src := handed x (opd st x) } rfl
      have h4' : some (pl.set st (writeL cs k (cellsOfSlot (opd st x))) (pl.log k m []) { dst := .undef, src := handed x (opd st x) }) = some e := h5.symm.trans h4
      cases h4'
      obtain ⟨w', ow', q1, q2, q3⟩ := store_place (P := P) (t := t) hF hd (log := pl.log k m []) hm hc hp g1 g2 g3
      exact ⟨_, _, w', g, sv, ow', by simp [execOp, ho, hv, q1], .inr ⟨rfl, rfl⟩, q2, q3⟩
    · exfalso
      rcases hno with ⟨r, ver, i, j, hs⟩ | hno
      · exact her ⟨r, ver, i, j, hs⟩
      · rw [hno] at h4; cases h4

end
end Go.Sw
/-! Ranges over strings; maps. -/
namespace Go.Sw
open Go

section
variable {P : Program} {n : Nat} {o : Oper} {st : St} {a : Act} {w : World} {g : Gh} {sv : Nat → Option Nat} {ow : Ow}

theorem op_range {t : Nat} {x : Operand} (hF : FR n st a w g sv ow) (hd : ∀ t, o.dst = some t → t < n) {e : Eff} (ho : o.op = .range t x)
    (he : (match opd st x, P.underlying t with | .v (.str s), some .string => Res.ok ({ dst := .it s 0 } : Eff) | _, _ => .bad "range") = .ok e) : OpOK P n o a w g ow (applyEff st o.dst e) := by
  have hx := hF.opnd x
  split at he
  · rename_i s hxv hu
    cases he
    rw [hxv] at hx
    obtain ⟨b, hb, hbs⟩ := hx
    have ht : Touch w.heap.size w (w.alloc (.stringIter b 0)) := touch_alloc w (w1 := w) rfl rfl rfl rfl _
    obtain ⟨h1, h2⟩ := hF.give hd (s := .it s 0) (v' := .pointer (some ⟨w.heap.size, 0, none⟩)) (src := none) ht (Gh.le.refl g) (fun _ _ _ _ h => h) rfl rfl (fun o y h => absurd h (hF.fresh.2 o y))
      (fun h hh => by rw [hF.fresh.1] at hh; cases hh) (fun _ _ h => by cases h) (fun _ _ h => by cases h) trivial
      (fun t ht => ⟨w.heap.size, b, rfl, by simp [giveTmp, ht], alloc_new w (w1 := w) rfl _, hbs⟩)
    exact ⟨_, _, _, g, sv, _, by simp [execOp, ho, Instr.range, run_und hu, hb], .inl rfl, h1, h2⟩
  · cases he

theorem run_setObj {r : Nat} {x y : Obj} (h : w.heap[r]? = some x) (hc : ∀ c e f, x ≠ .cells c e f) : (setObj r y).run P w = .ok () { w with heap := w.heap.setIfInBounds r y } := by
  cases x <;> first | exact absurd rfl (hc _ _ _) | simp [setObj, Sem.run, h]

theorem touch_setObj {r : Nat} {x : Obj} (y : Obj) (h : w.heap[r]? = some x) : Touch r w { w with heap := w.heap.setIfInBounds r y } :=
  ⟨fun B' hne _ => by simp only; rw [Array.getElem?_setIfInBounds_ne (fun e => hne e.symm)], by simp, by simpa using (Array.getElem?_eq_some_iff.1 h).1, rfl, rfl, rfl⟩
theorem setObj_get {r : Nat} {x : Obj} (y : Obj) (h : w.heap[r]? = some x) : ({ w with heap := w.heap.setIfInBounds r y } : World).heap[r]? = some y := by
  have := (Array.getElem?_eq_some_iff.1 h).1
  simp [this]

theorem op_next {x : Operand} (hF : FR n st a w g sv ow) (hd : ∀ t, o.dst = some t → t < n) {e : Eff} (ho : o.op = .next x true)
    (he : evNext x (opd st x) = .ok e) : OpOK P n o a w g ow (applyEff st o.dst e) := by
  have hx := hF.opnd x
  unfold evNext at he
  split at he
  · rename_i s pos t hxv
    rw [hxv] at hx
    obtain ⟨B, b, hv, hown, hw, hbs⟩ := hx
    have hbl : b.size = s.length := by rw [← hbs]; simp
    have hbe : b = ⟨s.toArray⟩ := by rw [← hbs]
    have hget := run_getObj (P := P) hw (by simp)
    split at he
    · rename_i hlt
      have hlt := of_decide_eq_true hlt
      cases he
      let y : Obj := .stringIter b (pos + (Utf8.decode b pos).2)
      have ht := touch_setObj y hw
      have hBim : ∀ o z, ¬ g.im B o z := by
        intro o z h
        obtain ⟨u, h1, _⟩ := hF.gc _ _ _ h
        simp [World.cell?, hw] at h1
      have hBl : ∀ B' r p, ow B' = some ⟨r, p⟩ → r ≠ .tmp t → B' ≠ B := by
        intro B' r p h hr e
        subst e
        rw [hown] at h
        cases h
        exact hr rfl
      have hlt' : pos < b.size := by omega
      let f : Root → Option Root := match o.dst with | some d => dropTmp d | none => some
      have hf : ∀ r, (∀ t, o.dst = some t → r ≠ .tmp t) → f r = some r := by
        intro r hr
        cases hdst : o.dst with
        | none => simp [f, hdst]
        | some t => cases r <;> simp [f, hdst, dropTmp] <;> (intro h; exact absurd h (by simpa using hr t hdst))
      have hk : ∀ {p : Root → Prop}, (∀ r, p r → r ≠ .tmp t ∧ ∀ t', o.dst = some t' → r ≠ .tmp t') → Keeps p w g ow { w with heap := w.heap.setIfInBounds B y } g (reown f ow) := fun hp =>
        ⟨Gh.le.refl g, fun B' r q hr h => ⟨by simp [reown, h, hf r (hp r hr).2], ht.oth _ (hBl _ _ _ h (hp r hr).1) (hF.bd _ _ h), fun _ _ h => h⟩⟩
      have hkn := hk (p := fun r => ∀ t, r ≠ .tmp t) (fun r hr => ⟨hr t, fun t' _ => hr t'⟩)
      refine ⟨_, .tuple #[.bool true, goInt pos, .int .i32 (Utf8.decode b pos).1], { w with heap := w.heap.setIfInBounds B y }, g, sv, reown f ow, ?_, .inl rfl,
        hF.step hd (ht.gc hF.gc (Gh.le.refl g) (fun o z h => absurd h (hBim o z)) (fun _ _ _ _ h => h)) (fun t' _ => ?_) (fun t' s' h hne => ?_) (fun t' h1 h2 => ?_) (fun _ _ => rfl) (fun t' s' h => ?_) (fun s h => h) (fun s cs h => ?_) ?_ ?_ ?_, ?_⟩
      · have hset := run_setObj (P := P) (y := y) hw (by simp)
        have hset' : (setObj B (.stringIter b (pos + (Utf8.decode b pos).2))).run P w = .ok () { w with heap := w.heap.setIfInBounds B y } := hset
        have hv' : a.eval (.tmp t) = .pointer (some ⟨B, 0, none⟩) := hv
        simp [execOp, ho, Instr.next, hv', hget, hlt', hset']
      · refine ⟨_, rfl, _, _, rfl, rfl, _, _, rfl, rfl, _, _, rfl, ?_, rfl⟩
        rw [← hbe]; rfl
      · cases h
        refine ⟨B, b, hv, ?_, ?_, hbs⟩
        · have : f (.tmp t) = some (.tmp t) := hf _ (fun t' h' e => hne (by cases e; exact h'))
          simp [reown, hown, opHold, this]
        · rw [← hbe]; exact setObj_get y hw
      · exact (hk (p := fun r => r = .tmp t') (fun r hr => by
          subst hr
          exact ⟨fun e => h2 _ (by cases e; rfl), fun t'' h'' e => h1 (by cases e; exact h'')⟩)).keep rfl (fun _ _ h => h)
      · cases h; trivial
      · exact (hF.lc s cs h).keeps hkn (by simp) (by simp) (fun _ h => h)
      · exact ⟨fun r o h => (hF.hr.ob r o h).keeps hkn (by simp) (by simp) (fun _ h => h) (fun _ _ h => h), hF.hr.nf⟩
      · exact DR.keeps hkn (by simp) _ _ hF.df
      · exact fun B' k hB' => Nat.lt_of_lt_of_le (reown_bd hF.bd B' k hB') ht.sz
      · exact ⟨Gh.le.refl g, ht.sz, fun B' q hB' => hkn.ow B' .ctx q (by simp) hB', rfl, rfl, rfl⟩
    · rename_i hlt
      have hlt := of_decide_eq_false hlt
      cases he
      refine opOK_free hF hd (v' := .tuple #[.bool false]) ?_ (fun _ _ => ⟨_, rfl, _, _, rfl, rfl, rfl⟩) rfl
      have hv' : a.eval (.tmp t) = .pointer (some ⟨B, 0, none⟩) := hv
      have : ¬ pos < b.size := by omega
      simp [execOp, ho, Instr.next, hv', hget, this]
  · cases he

theorem bytes_beq (b c : ByteArray) : (b == c) = (b.data.toList == c.data.toList) := by
  rw [show (b == c) = (b.data == c.data) from rfl]
  by_cases h : b.data = c.data
  · simp [h]
  · have h2 : ¬ b.data.toList = c.data.toList := fun e => h (Array.toList_inj.mp e)
    rw [beq_eq_false_iff_ne.mpr h, beq_eq_false_iff_ne.mpr h2]

/-- a key is what the model takes it for. -/
theorem sameKey_run {k k' : AV} {v v' : Value} {kt : Nat} {kind : TypeDesc} {q : Bool} (hk : VR g k v) (hk' : VR g k' v') (hu : P.underlying kt = some kind) (hok : keyOk P kt k = true) (hs : sameKey k k' = some q) :
    Instr.sameNow kind v v' = some q ∧ (q = true → Instr.sameBits 10000 v' v = true) := by
  unfold sameKey at hs
  split at hs
  · cases hs
    simp only [keyOk, hu] at hok
    split at hok
    · rename_i hkk
      cases hkk
      obtain ⟨b, rfl, hb⟩ := hk
      obtain ⟨c, rfl, hc⟩ := hk'
      rw [← hb, ← hc]
      refine ⟨by simp [Instr.sameNow, bytes_beq], fun h => ?_⟩
      simp only [Instr.sameBits, bytes_beq]
      rw [beq_iff_eq] at h ⊢
      exact h.symm
    · cases hok
  · simp only [keyOk, hu] at hok
    split at hok
    · rename_i hkk
      cases hkk
      split at hs
      · rename_i hkd
        have hkd := of_decide_eq_true hkd
        subst hkd
        cases hs
        have e1 : v = _ := hk
        have e2 : v' = _ := hk'
        subst e1; subst e2
        refine ⟨by simp [Instr.sameNow, beq_dec], fun h => ?_⟩
        have := of_decide_eq_true h
        subst this
        simp [Instr.sameBits]
      · cases hs
    · cases hok
  · cases hs

theorem checkKey_run {k : AV} {v : Value} {kt : Nat} {b : Bool} (hk : VR g k v) (hok : keyOk P kt k = true) (m : Nat) : (Instr.checkKey b (m + 1) kt v).run P w = .ok () w := by
  unfold keyOk at hok
  split at hok
  · split at hok
    · rename_i hu
      obtain ⟨c, rfl, _⟩ := hk
      simp [Instr.checkKey, run_und hu]
    · cases hok
  · split at hok
    · rename_i hu
      have e1 : v = _ := hk
      subst e1
      simp [Instr.checkKey, run_und hu]
    · cases hok
  · cases hok

theorem sameKey_eq {k k' : AV} (h : sameKey k k' = some true) : k = k' := by
  unfold sameKey at h
  split at h
  · simp only [Option.some.injEq, beq_iff_eq] at h; rw [h]
  · split at h
    · rename_i hk
      have := of_decide_eq_true hk
      simp only [Option.some.injEq, decide_eq_true_eq] at h
      rw [this, h]
    · cases h
  · cases h

/-- a key is found, or not. -/
theorem findKey_ok {key : AV} {v : Value} {kt : Nat} {kind : TypeDesc} (hk : VR g key v) (hu : P.underlying kt = some kind) (hok : keyOk P kt key = true) {r : Nat} :
    ∀ (es : List (AV × Slot)) (ents : List MapEntry) (j i : Nat) (f : Option Slot), MapR w g ow r j es ents → findKeyL key es = some f →
      (f = none ∧ Instr.findNow kind v ents i = some none ∧ ∀ s', setKeyL key s' es = es ++ [(key, s')]) ∨
      (∃ q s e k', f = some s ∧ es[q]? = some (k', s) ∧ ents[q]? = some e ∧ Instr.findNow kind v ents i = some (some (i + q, e.val)) ∧ SR w g (fun _ => none) ow ⟨.hcell r (j + q), []⟩ s e.val ∧
        (∀ s', setKeyL key s' es = es.set q (k', s')) ∧ VR g k' e.key ∧ Instr.sameBits 10000 e.key v = true ∧ noLoc s = true ∧ key = k')
  | [], ents, j, i, f, hm, h => by
    cases h
    cases hm
    exact .inl ⟨rfl, rfl, fun _ => rfl⟩
  | (k', s) :: l, ents, j, i, f, hm, h => by
    obtain ⟨e, ents', rfl, h1, h2, hnl, h3⟩ := hm
    simp only [findKeyL] at h
    split at h
    · rename_i hs
      cases h
      obtain ⟨e1, e2⟩ := sameKey_run hk h1 hu hok hs
      exact .inr ⟨0, s, e, k', rfl, rfl, rfl, by simp [Instr.findNow, e1], h2, fun s' => by simp [setKeyL, hs], h1, e2 rfl, hnl, sameKey_eq hs⟩
    · rename_i hs
      obtain ⟨e1, _⟩ := sameKey_run hk h1 hu hok hs
      rcases findKey_ok hk hu hok l ents' (j + 1) (i + 1) f h3 h with ⟨a1, a2, a3⟩ | ⟨q, s2, e2, k2, a1, a2, a3, a4, a5, a6, a7, a8, a9⟩
      · exact .inl ⟨a1, by simp [Instr.findNow, e1, a2], fun s' => by simp [setKeyL, hs, a3]⟩
      · refine .inr ⟨q + 1, s2, e2, k2, a1, by simpa using a2, by simpa using a3, ?_, ?_, fun s' => by simp [setKeyL, hs, a6], a7, a8, a9⟩
        · simp only [Instr.findNow, e1, a4]
          congr 2; congr 1; omega
        · rw [show j + (q + 1) = j + 1 + q by omega]; exact a5
    · cases h

theorem op_lookup {t : Nat} {m k : Operand} {ok : Bool} (hF : FR n st a w g sv ow) (hd : ∀ t, o.dst = some t → t < n) {e : Eff} (ho : o.op = .lookup t m k ok)
    (he : pureR (evLookup P t (opd st m) (opd st k) ok st.heap) = .ok e) : OpOK P n o a w g ow (applyEff st o.dst e) := by
  obtain ⟨r0, h1, rfl⟩ := pureR_ok he
  clear he
  have hm := hF.opnd m
  unfold evLookup at h1
  split at h1
  · rename_i r kt et hmv hu
    split at h1
    · rename_i es hes
      rw [hmv] at hm
      obtain ⟨B, hB, hm⟩ := hm
      obtain ⟨B', ents, clock, hB', hown, hw, hmr⟩ := hF.hr.ob r _ hes
      rw [hB] at hB'
      cases hB'
      obtain ⟨key, hkey, h2⟩ := Res.mbind_ok h1
      obtain ⟨f, hf, h3⟩ := Res.mbind_ok h2
      obtain ⟨z, hz, h4⟩ := Res.mbind_ok h3
      obtain ⟨hok, h5⟩ := guardR_ok h4
      cases h5
      have hk := hF.av (toAVR_ok hkey)
      obtain ⟨zv, hzr, rfl⟩ := zeroT_run (w := w) (opt_ok hz)
      have hkind : ∃ kind, P.underlying kt = some kind := by
        unfold keyOk at hok
        cases hkt : P.underlying kt with
        | none => rw [hkt] at hok; split at hok <;> cases hok
        | some kind => exact ⟨kind, rfl⟩
      obtain ⟨kind, hkind⟩ := hkind
      have hchk : ∀ b, (Instr.checkKey b 10000 kt (a.eval k)).run P w = .ok () w := fun b => checkKey_run hk hok 9999
      have hget := run_getObj (P := P) hw (by simp)
      rcases findKey_ok hk hkind hok es ents.toList 0 0 f hmr (opt_ok hf) with ⟨rfl, a2, _⟩ | ⟨q, s, e, k', rfl, _, _, a4, a5, _, _, _, a9, _⟩
      · have hrun : (execOp a.eval o).run P w = .ok (.value (if ok then .tuple #[zv, .bool false] else zv)) w := by
          simp [execOp, ho, Instr.lookup, run_und hu, hm, hget, hchk, Instr.findKey, run_und hkind, a2, hzr]
        cases ok with
        | true => exact opOK_free hF hd hrun (fun _ _ => ⟨_, rfl, _, _, rfl, SR.view (w := w) (ow := ow) (h := ⟨.ret, []⟩) (Gh.le.refl g) (fun _ _ h => h) _ _ (ofConst_SR zv _), _, _, rfl, rfl, rfl⟩) (by simp [lcTop, noLocs, noLoc, view_noLoc _ (ofConst_noLoc zv)])
        | false => exact opOK_free hF hd hrun (SR_toFree (ow := ow) (h := ⟨.ret, []⟩) (ofConst_SR zv _)) (view_lcTop (ofConst_lcTop zv))
      · have hrun : (execOp a.eval o).run P w = .ok (.value (if ok then .tuple #[e.val, .bool true] else e.val)) w := by
          simp [execOp, ho, Instr.lookup, run_und hu, hm, hget, hchk, Instr.findKey, run_und hkind, a4]
        cases ok with
        | true => exact opOK_free hF hd hrun (fun ow' h' => ⟨_, rfl, _, _, rfl, SR_sv _ _ (view_noLoc s a9) (SR_toFree a5 ow' _), _, _, rfl, rfl, rfl⟩) (by simp [lcTop, noLocs, noLoc, view_noLoc s a9])
        | false => exact opOK_free hF hd hrun (fun ow' h' => SR_sv _ _ (view_noLoc s a9) (SR_toFree a5 ow' _)) (view_lcTop (noLoc_lcTop a9))
    · cases h1
  · cases h1

end
end Go.Sw
/-! Entries of maps. -/
namespace Go.Sw
open Go

section
variable {P : Program} {n : Nat} {o : Oper} {st : St} {a : Act} {w : World} {g : Gh} {sv : Nat → Option Nat} {ow : Ow}

theorem MapR_get {r : Nat} : ∀ (j : Nat) (es : List (AV × Slot)) (ents : List MapEntry), MapR w g ow r j es ents → ∀ (i : Nat) (k : AV) (s : Slot), es[i]? = some (k, s) →
    ∃ e, ents[i]? = some e ∧ VR g k e.key ∧ SR w g (fun _ => none) ow ⟨.hcell r (j + i), []⟩ s e.val ∧ noLoc s = true
  | _, [], _, _, i, _, _, h => by simp at h
  | j, (k, s) :: l, _, ⟨e, es', h0, h1, h2, h3, h4⟩, 0, k', s', h => by
    simp at h; obtain ⟨rfl, rfl⟩ := h; subst h0
    exact ⟨e, rfl, h1, h2, h3⟩
  | j, (k, s) :: l, _, ⟨e, es', h0, h1, h2, h3, h4⟩, i + 1, k', s', h => by
    subst h0
    obtain ⟨e', g1, g2, g3, g4⟩ := MapR_get (j + 1) l es' h4 i k' s' (by simpa using h)
    exact ⟨e', by simpa using g1, g2, by rw [show j + (i + 1) = j + 1 + i by omega]; exact g3, g4⟩
theorem MapR_of {r : Nat} : ∀ (j : Nat) (es : List (AV × Slot)) (ents : List MapEntry), ents.length = es.length → (∀ (i : Nat) (k : AV) (s : Slot), es[i]? = some (k, s) →
    ∃ e, ents[i]? = some e ∧ VR g k e.key ∧ SR w g (fun _ => none) ow ⟨.hcell r (j + i), []⟩ s e.val ∧ noLoc s = true) → MapR w g ow r j es ents
  | _, [], [], _, _ => rfl
  | _, [], _ :: _, h, _ => by simp at h
  | _, _ :: _, [], h, _ => by simp at h
  | j, (k, s) :: l, e :: ents, h, hg => by
    obtain ⟨e', h1, h2, h3, h4⟩ := hg 0 k s rfl
    simp at h1; subst h1
    refine ⟨e, ents, rfl, h2, h3, h4, MapR_of (j + 1) l ents (by simpa using h) (fun i k s hs => ?_)⟩
    obtain ⟨e', g1, g2, g3, g4⟩ := hg (i + 1) k s (by simpa using hs)
    exact ⟨e', by simpa using g1, g2, by rw [show j + 1 + i = j + (i + 1) by omega]; exact g3, g4⟩

theorem retOk_noLoc {s : Slot} (h : retOk s = true) : noLoc s = true := by
  cases s with
  | agg cs => exact noLocs_of _ (fun c hc => plain_noLoc (List.all_eq_true.mp h c hc))
  | v _ => rfl
  | nil0 => rfl
  | own _ _ => rfl
  | _ => cases h

/-- what is put into an entry moves there. -/
def entryF (hs : Option Nat) (r q : Nat) : Root → Option Root
  | .tmp t => if hs = some t then some (.hcell r q) else some (.tmp t)
  | .hcell r' q' => if r' = r ∧ q' = q then none else some (.hcell r' q')
  | x => some x

theorem entryF_hcell {hs : Option Nat} {r q i : Nat} (h : i ≠ q) : entryF hs r q (.hcell r i) = some (.hcell r i) := by simp [entryF, h]

theorem SR_move {hs : Option Nat} {r q : Nat} {x : Operand} {w' : World} (hF : FR n st a w g sv ow) (hhs : hs = handsT x (opd st x)) (hr : retOk (opd st x) = true)
    (hw : ∀ B h, ow B = some h → (∀ r', h.root ≠ .hobj r') → w'.heap[B]? = w.heap[B]?) : SR w' g (fun _ => none) (reown (entryF hs r q) ow) ⟨.hcell r q, []⟩ (opd st x) (a.eval x) := by
  refine SR_sv (sv := sv) _ _ (retOk_noLoc hr) ?_
  cases hh : handed x (opd st x) with
  | none =>
    -- nothing is held
    have h0 := hF.notHanded hh
    cases hs' : opd st x with
    | v y => have := h0 ow ⟨.ret, []⟩; rw [hs'] at this; exact this
    | nil0 => have := h0 ow ⟨.ret, []⟩; rw [hs'] at this; exact this
    | own sz l =>
      have := h0 (fun _ => none) ⟨.ret, []⟩
      rw [hs'] at this
      rcases this with h | ⟨_, _, _, h, _⟩
      · exact .inl h
      · cases h
    | agg cs =>
      rw [hs'] at hr
      have h1 : CellsF w g sv (cellsOfSlot (opd st x)) (a.eval x).cells := cellsOfSlot_F h0 (by rw [hs']; exact hr)
      rw [hs'] at h1
      obtain ⟨vs, hvs, hrr⟩ := (by have := h0 ow ⟨.ret, []⟩; rw [hs'] at this; exact this : SR w g sv ow ⟨.ret, []⟩ (.agg cs) (a.eval x))
      rw [hvs] at h1 ⊢
      refine ⟨vs, rfl, SRs_of _ _ _ (SRs_length _ _ _ hrr) (fun i c hc => ?_)⟩
      obtain ⟨u, e1, e2⟩ := h1.get hc
      refine ⟨u, by simpa [Value.cells] using e1, ?_⟩
      have hpc := List.all_eq_true.mp hr c (List.mem_of_getElem? hc)
      cases c with
      | v y => exact (show VR g y u from e2 ow ⟨.ret, []⟩)
      | nil0 => exact e2 ow ⟨.ret, []⟩
      | own sz l =>
        rcases e2 (fun _ => none) ⟨.ret, []⟩ with h | ⟨_, _, _, h, _⟩
        · exact .inl h
        · cases h
      | _ => cases hpc
    | _ => rw [hs'] at hr; cases hr
  | some ts =>
    obtain ⟨t0, s'⟩ := ts
    obtain ⟨rfl, _, _⟩ := handed_some hh
    have he : hs = some t0 := by rw [hhs]; simp [handsT, hh]
    refine SR.keep (root := .tmp t0) (root' := .hcell r q) ⟨Gh.le.refl g, fun _ _ h => h, fun B p hB => ⟨by simp [reown, hB, entryF, he], hw B _ hB (by simp), fun _ _ h => h⟩⟩ _ _ _ (hF.tm t0)

theorem op_mapUpdate {t : Nat} {m k x : Operand} (hF : FR n st a w g sv ow) (hd : ∀ t, o.dst = some t → t < n) {e : Eff} (ho : o.op = .mapUpdate t m k x ∨ o.op = .insert t m k x)
    (he : evMapUpdate P t (opd st m) (opd st k) x (opd st x) st.heap = .ok e) : OpOK P n o a w g ow (applyEff st o.dst e) := by
  have hm := hF.opnd m
  unfold evMapUpdate at he
  split at he
  · rename_i r kt et hmv hu
    split at he
    · rename_i es hes
      rw [hmv] at hm
      obtain ⟨B, hB, hm⟩ := hm
      obtain ⟨B', ents, clock, hB', hown, hw, hmr⟩ := hF.hr.ob r _ hes
      rw [hB] at hB'
      cases hB'
      obtain ⟨key, hkey, h2⟩ := Res.mbind_ok he
      obtain ⟨f, hf, h3⟩ := Res.mbind_ok h2
      obtain ⟨hg, h5⟩ := guardR_ok h3
      cases h5
      simp only [Bool.and_eq_true] at hg
      obtain ⟨hret, hok⟩ := hg
      have hk := hF.av (toAVR_ok hkey)
      have hkind : ∃ kind, P.underlying kt = some kind := by
        unfold keyOk at hok
        cases hkt : P.underlying kt with
        | none => rw [hkt] at hok; split at hok <;> cases hok
        | some kind => exact ⟨kind, rfl⟩
      obtain ⟨kind, hkind⟩ := hkind
      have hchk : ∀ b, (Instr.checkKey b 10000 kt (a.eval k)).run P w = .ok () w := fun b => checkKey_run hk hok 9999
      have hget := run_getObj (P := P) hw (by simp)
      have hBim : ∀ o z, ¬ g.im B o z := by
        intro o z h
        obtain ⟨u, h1, _⟩ := hF.gc _ _ _ h
        simp [World.cell?, hw] at h1
      have hrl := len_of_get hes
      -- what is common
      have fin : ∀ (q : Nat) (es' : List (AV × Slot)) (ents' : Array MapEntry) (clock' : Nat), setKeyL key (opd st x) es = es' →
          (execOp a.eval o).run P w = .ok .skip { w with heap := w.heap.setIfInBounds B (.map ents' clock') } → ents'.toList.length = es'.length →
          (∃ e, es'[q]? = some (key, opd st x) ∧ ents'.toList[q]? = some e ∧ e.key = a.eval k ∧ e.val = a.eval x) →
          (∀ i, i ≠ q → (∀ p, es'[i]? = some p → es[i]? = some p) ∧ ∀ e, ents.toList[i]? = some e → ents'.toList[i]? = some e) →
          OpOK P n o a w g ow (applyEff st o.dst { dst := .undef, src := handed x (opd st x), heap := some (st.heap.set r (.map (setKeyL key (opd st x) es))) }) := by
        intro q es' ents' clock' hes' hrun hlen hq hoth
        rw [hes']
        have ht := touch_setObj (y := .map ents' clock') hw
        have hwo : ∀ B0 h, ow B0 = some h → (∀ r', h.root ≠ .hobj r') → ({ w with heap := w.heap.setIfInBounds B (.map ents' clock') } : World).heap[B0]? = w.heap[B0]? := by
          intro B0 h hB0 hne
          refine ht.oth B0 (fun e => ?_) (hF.bd _ _ hB0)
          subst e
          rw [hown] at hB0
          cases hB0
          exact hne r rfl
        obtain ⟨q1, q2⟩ := hF.obj_step hd (r := r) (B := B) (x' := .map es') (e := { dst := .undef, src := handed x (opd st x), heap := some (st.heap.set r (.map es')) }) (v' := undef)
          (ow' := reown (entryF (handsT x (opd st x)) r q) ow) hrl (fun h hh => by rw [hown] at hh; cases hh; rfl) hBim ht (Gh.le.refl g) (fun _ _ _ h => h) rfl (fun _ _ => rfl) rfl rfl
          (fun B' k' hB' => Nat.lt_of_lt_of_le (reown_bd hF.bd B' k' hB') ht.sz)
          (fun B' h hB' h1 h2 h3 => by
            obtain ⟨rt, p⟩ := h
            cases rt with
            | tmp t => exact absurd rfl (h1 t)
            | hcell r' q' =>
              have : ¬ (r' = r ∧ q' = q) := fun e => h2 q' (by rw [e.1])
              simp [reown, hB', entryF, this]
            | _ => simp [reown, hB', entryF])
          (fun B' t' p hB' h1 h2 => by
            have : handsT x (opd st x) ≠ some t' := by
              unfold handsT
              split
              · rename_i t'' s'' e; intro h'; cases h'; exact h2 _ e
              · simp
            simp [reown, hB', entryF, this])
          ⟨B, ents', clock', hB, by simp [reown, hown, entryF], setObj_get _ hw, MapR_of 0 es' ents'.toList hlen (fun i k1 s1 hi => by
            by_cases hiq : i = q
            · subst hiq
              obtain ⟨e, e1, e2, e3, e4⟩ := hq
              rw [e1] at hi
              cases hi
              refine ⟨e, e2, by rw [e3]; exact hk, ?_, retOk_noLoc hret⟩
              rw [e4, Nat.zero_add]
              exact SR_move hF rfl hret hwo
            · obtain ⟨a1, a2⟩ := hoth i hiq
              obtain ⟨e, b1, b2, b3, b4⟩ := MapR_get 0 es ents.toList hmr i k1 s1 (a1 _ hi)
              rw [Nat.zero_add] at b3 ⊢
              exact ⟨e, a2 e b1, b2, SR.keep (root := .hcell r i) (root' := .hcell r i) ⟨Gh.le.refl g, fun _ _ h => h, fun B' p hB' => ⟨by simp only [reown, hB', entryF_hcell hiq], hwo B' _ hB' (by simp), fun _ _ h => h⟩⟩ _ _ _ b3, b4⟩)⟩
          (fun _ _ => trivial) (fun t s h => handed_view t s h) rfl
        exact ⟨_, _, _, g, sv, _, hrun, .inr ⟨rfl, rfl⟩, q1, q2⟩
      have hlen0 := MapR_length _ _ _ hmr
      rcases findKey_ok hk hkind hok es ents.toList 0 0 f hmr (opt_ok hf) with ⟨rfl, a2, a3⟩ | ⟨q, s, e, k', rfl, a2, a3, a4, a5, a6, a7, a8, a9, rfl⟩
      · refine fin es.length _ (ents.push { key := a.eval k, val := a.eval x, born := clock }) (clock + 1) (a3 _) ?_ (by simpa using hlen0) ⟨_, by simp, by simp [← hlen0]; rfl, rfl, rfl⟩ (fun i hi => ⟨fun p hp => ?_, fun e he => ?_⟩)
        · have hset := run_setObj (P := P) (y := .map (ents.push { key := a.eval k, val := a.eval x, born := clock }) (clock + 1)) hw (by simp)
          rcases ho with ho | ho <;> simp [execOp, ho, Instr.mapUpdate, run_und hu, hm, hget, hchk, Instr.findKey, run_und hkind, a2, hset]
        · have := len_of_get hp
          simp at this
          rw [List.getElem?_append_left (by omega)] at hp
          exact hp
        · have := len_of_get he
          simp only [Array.toList_push]
          rw [List.getElem?_append_left this]; exact he
      · have hqe := len_of_get a3
        have hqa : ents[q]? = some e := by simpa using a3
        refine fin q _ (ents.modify q fun e => { e with key := a.eval k, val := a.eval x }) clock (a6 _) ?_ (by simpa using hlen0) ⟨{ e with key := a.eval k, val := a.eval x }, ?_, ?_, rfl, rfl⟩ (fun i hi => ⟨fun p hp => ?_, fun e' he => ?_⟩)
        · have hset := run_setObj (P := P) (y := .map (ents.modify q fun e => { e with key := a.eval k, val := a.eval x }) clock) hw (by simp)
          rcases ho with ho | ho <;> simp [execOp, ho, Instr.mapUpdate, run_und hu, hm, hget, hchk, Instr.findKey, run_und hkind, a4, hqa, Instr.keyThatStays, a8, hset]
        · exact List.getElem?_set_self (len_of_get a2)
        · simp [hqa]
        · rw [List.getElem?_set_ne (fun e => hi e.symm)] at hp; exact hp
        · have he' : ents[i]? = some e' := by simpa using he
          rw [Array.getElem?_toList, Array.getElem?_modify, if_neg (fun e => hi e.symm)]
          exact he'
    · cases he
  · cases he

end
end Go.Sw
/-! A row of the heap that becomes a slice of a place's own. -/
namespace Go.Sw
open Go

section
variable {P : Program} {n : Nat} {o : Oper} {st : St} {a : Act} {w : World} {g : Gh} {sv : Nat → Option Nat} {ow : Ow}

theorem FR.kill (hF : FR n st a w g sv ow) {r B : Nat} (hB : ow B = some ⟨.hobj r, []⟩) :
    FR n { st with heap := st.heap.set r .dead } a w g sv (fun B' => if B' = B then none else ow B') ∧ Fut w g ow w g (fun B' => if B' = B then none else ow B') := by
  have hne : ∀ B' r' q, ow B' = some ⟨r', q⟩ → r' ≠ .hobj r → B' ≠ B := by
    intro B' r' q h hr e
    subst e
    rw [hB] at h
    cases h
    exact hr rfl
  have hk : Keeps (fun r' => r' ≠ .hobj r) w g ow w g (fun B' => if B' = B then none else ow B') :=
    ⟨Gh.le.refl g, fun B' r' q hr h => ⟨by simp [hne B' r' q h hr, h], rfl, fun _ _ h => h⟩⟩
  refine ⟨⟨hF.sz, hF.gc, fun t => SR.keeps hk (by simp) (fun _ _ h => h) (hF.tm t), hF.lk, fun s cs h => (hF.lc s cs h).keeps hk (by simp) (by simp) (fun _ h => h), ⟨fun r' o h => ?_, fun r' h => hF.hr.nf r' (by simpa using h)⟩, DR.keeps hk (by simp) _ _ hF.df, fun B' h hB' => ?_, hF.gv⟩, ⟨Gh.le.refl g, Nat.le_refl _, fun B' p hB' => hk.ow B' .ctx p (by simp) hB', rfl, rfl, rfl⟩⟩
  · by_cases hr : r' = r
    · subst hr
      have : o = .dead := by
        rcases Nat.lt_or_ge r' st.heap.length with h' | h'
        · rw [List.getElem?_set_self h'] at h; cases h; rfl
        · rw [List.getElem?_eq_none (by simpa using h')] at h; cases h
      subst this
      trivial
    · rw [List.getElem?_set_ne (fun e => hr e.symm)] at h
      exact (hF.hr.ob r' o h).keeps hk (by simp [hr]) (by simp) (fun _ h => h) (fun _ _ h => h)
  · split at hB'
    · cases hB'
    · exact hF.bd B' h hB'

theorem op_freeze {x : Operand} (hF : FR n st a w g sv ow) (hd : ∀ t, o.dst = some t → t < n) {e : Eff} {A : Option Nat} (ho : o.op = .assign x)
    (he : evFreeze x (opd st x) (envOf A st) = .ok e) : OpOK P n o a w g ow (applyEff st o.dst e) := by
  unfold evFreeze at he
  split at he
  · rename_i r ver sz k hx
    have hrun : (execOp a.eval o).run P w = .ok (.value (a.eval x)) w := by simp [execOp, ho]
    simp only [envOf] at he
    split at he
    · rename_i ver' sz' l hr
      obtain ⟨hb, he2⟩ := guardR_ok he
      clear he
      simp only [Bool.and_eq_true] at hb
      obtain ⟨⟨b1, b2⟩, b3⟩ := hb
      have b1 := Nat.eq_of_beq_eq_true b1
      have b2 := Nat.eq_of_beq_eq_true b2
      have b3 := Nat.le_of_ble_eq_true b3
      subst b1
      subst b2
      cases he2
      obtain ⟨B, C, arr, h1, h2, ⟨elem, h3⟩, h4, h5, h6, h7, h8⟩ := hF.hr.ob r _ hr
      have hv := hF.opnd x
      rw [hx] at hv
      obtain ⟨B', C', c, v1, v2, v3, v4⟩ := hv
      rw [h1] at v1
      cases v1
      obtain ⟨k1, k2⟩ := hF.kill h2
      have hrow : RowR g sz (l.take k) arr := fun i y hy => h7 i y (by
        rw [List.getElem?_take] at hy
        split at hy
        · exact hy
        · cases hy)
      have hlen : (l.take k).length = k := by rw [List.length_take]; omega
      have hBlt : B < w.heap.size := hF.bd B _ h2
      obtain ⟨g', ow', q1, q2⟩ := k1.own_set hd (w' := w) (src := none) (cap := c) ⟨fun _ _ _ => rfl, Nat.le_refl _, hBlt, rfl, rfl, rfl⟩ h3 (fun o y h => absurd h (h4 o y)) (fun h hh => by simp at hh) (by simp) hrow
        (by have : c * sz ≤ C * sz := Nat.mul_le_mul_right _ (by omega); omega) (by rw [hlen]; exact v4)
      rw [hlen] at q1
      simp only [Nat.zero_mul] at v2
      refine ⟨_, _, w, g', sv, ow', hrun, .inl rfl, ?_, k2.trans q2⟩
      rw [v2]
      exact ⟨q1.sz, q1.gc, q1.tm, q1.lk, q1.lc, q1.hr, q1.df, q1.bd, q1.gv⟩
    · cases he
  · exact op_assign hF hd ho he

end
end Go.Sw
/-! All operations that make no call. -/
namespace Go.Sw
open Go

/-- an operation that calls nothing. -/
def isLocal (o : Oper) : Bool :=
  match o.op with
  | .panic _ => false
  | .call c => match c.callee with | .builtin _ => true | _ => false
  | _ => true

section
variable {n : Nat} {o : Oper} {st : St} {a : Act} {w : World} {g : Gh} {sv : Nat → Option Nat} {ow : Ow} {C : Cfg} {call : Call}

theorem op_builtin {c : Go.Call} {b : Builtin} {h : Hint} {A : Option Nat} (hF : FR n st a w g sv ow) (hZ : ZeroOk C.P) (hd : ∀ t, o.dst = some t → t < n) {e : Eff} (ho : o.op = .call c) (hc : c.callee = .builtin b)
    (he : evCall C call h o c (envOf A st) = .ok e) : OpOK C.P n o a w g ow (applyEff st o.dst e) := by
  unfold evCall at he
  rw [hc] at he
  cases b <;> first
    | (cases he; done)
    | exact op_appendAll hF hZ hd ho hc he
    | exact op_maxMin (mx := true) hF hd ho hc he
    | exact op_maxMin (mx := false) hF hd ho hc he
    | (simp only at he
       split at he
       · rename_i x t hx ht
         exact op_len hF hd ho hc hx ht he
       · cases he)

theorem core_local {h : Hint} {A : Option Nat} (hF : FR n st a w g sv ow) (hZ : ZeroOk C.P) (hd : ∀ t, o.dst = some t → t < n) (hl : isLocal o = true) {e : Eff}
    (he : evCore C call h o (envOf A st) = .ok e) : OpOK C.P n o a w g ow (applyEff st o.dst e) := by
  unfold evCore at he
  split at he
  case h_1 x ho => exact op_move hF hd ho he
  case h_2 x ho =>
    split at he
    · exact op_freeze hF hd ho he
    · exact op_assign hF hd ho he
  case h_3 c x y ho => exact op_pick hF hd ho he
  case h_4 t ho => exact op_alloc hF hd ho he
  case h_5 t x ho => exact op_box hF hd ho he
  case h_6 t x ho => exact op_load hF hd ho he
  case h_7 t x y ho => exact op_store hF hd ho he
  case h_8 x ho => exact op_nilCheck hF hd ho he
  case h_9 op t x y ty ho =>
    unfold evBinOp at he
    split at he
    · exact op_nilSl hF hd ho he
    · exact op_binOp hF hd ho he
  case h_10 op t x ho => exact op_unOp hF hd ho he
  case h_11 s d x ho => exact op_convert hF hd ho he
  case h_12 t x ho => exact op_makeInterface hF hd ho he
  case h_13 f first cap ho =>
    split at he
    · rename_i hfirst; exact op_makeFunc hF hd ho hfirst he
    · split at he
      · rename_i hcap; exact op_makeMeth hF hd ho hcap he
      · cases he
  case h_14 t x f ho => exact op_fieldAddr hF hd ho he
  case h_15 t x f ho => exact op_field hF hd ho he
  case h_16 t x i ho => exact op_indexAddr hF hd ho he
  case h_17 t x i ho => exact op_index hF hd ho he
  case h_18 t ps ho => exact op_build hF hd ho he
  case h_19 t k ps ho => exact op_buildSlice hF hd ho he
  case h_20 t x lo hi ho => exact op_slice hF hd ho he
  case h_21 t x hi m ho => exact op_slice0 hF hd ho he
  case h_22 x i ho => exact op_extract hF hd ho he
  case h_23 x xt t ok ho => exact op_typeAssert hF hd ho he
  case h_24 t ho => exact op_makeMap hF hd ho he
  case h_25 t m k ok ho => exact op_lookup hF hd ho he
  case h_26 t m k x ho => exact op_mapUpdate hF hd (.inr ho) he
  case h_27 t m k x ho => exact op_mapUpdate hF hd (.inl ho) he
  case h_28 x ho => simp [isLocal, ho] at hl
  case h_29 t x ho => exact op_range hF hd ho he
  case h_30 x ho => exact op_next hF hd ho he
  case h_31 t x y ho =>
    cases hb : onHeap h o.dst with
    | true => rw [hb] at he; exact op_makeSliceH hF hd ho he
    | false => rw [hb] at he; exact op_makeSlice hF hd ho he
  case h_32 c ho =>
    simp only [isLocal, ho] at hl
    split at hl
    · rename_i b hc; exact op_builtin hF hZ hd ho hc he
    · cases hl
  case h_33 => cases he

end
end Go.Sw
/-! Calls: what a callee sees, and what comes back. -/
namespace Go.Sw
open Go

def BD (w : World) (ow : Ow) : Prop := ∀ B h, ow B = some h → B < w.heap.size

def isHeap : Root → Bool
  | .hobj _ => true
  | .hcell _ _ => true
  | _ => false

/-- who holds what, for a callee: the heap's objects; all else is its caller's. -/
def owC (ow : Ow) : Ow := fun B =>
  match ow B with
  | some h => match isHeap h.root with | true => some h | false => some ⟨.ctx, []⟩
  | none => none

/-- who holds what behind a call. -/
def isDst (d : Option Nat) : Root → Bool
  | .tmp t => match d with | some t' => Nat.beq t t' | none => false
  | _ => false

def owB (d : Option Nat) (ow ow' : Ow) : Ow := fun B =>
  match ow B with
  | some h => match isHeap h.root with
    | false => match isDst d h.root with | true => none | false => some h
    | true => match ow' B with
      | some ⟨.ret, p⟩ => d.map fun t => ⟨.tmp t, p⟩
      | some h' => match isHeap h'.root with | true => some h' | false => none
      | none => none
  | none => match ow' B with
    | some ⟨.ret, p⟩ => d.map fun t => ⟨.tmp t, p⟩
    | some h' => match isHeap h'.root with | true => some h' | false => none
    | none => none


theorem isDst_iff {d : Option Nat} {r : Root} : isDst d r = true ↔ ∃ t, d = some t ∧ r = .tmp t := by
  cases r <;> cases d <;> simp [isDst]

section
variable {n : Nat} {st : St} {a : Act} {w : World} {g : Gh} {sv : Nat → Option Nat} {ow : Ow}

theorem owC_heap {B : Nat} {r : Root} {p : List Nat} (hr : isHeap r = true) : owC ow B = some ⟨r, p⟩ ↔ ow B = some ⟨r, p⟩ := by
  simp only [owC]
  cases h : ow B with
  | none => simp
  | some k =>
    obtain ⟨r', q⟩ := k
    cases hk : isHeap r' with
    | true => simp [hk]
    | false =>
      simp only [hk]
      constructor
      · intro e; cases e; cases hr
      · intro e; cases e; rw [hr] at hk; cases hk
theorem owC_mine {B : Nat} {h : Hold} (hh : ow B = some h) (hr : isHeap h.root = false) : owC ow B = some ⟨.ctx, []⟩ := by
  simp only [owC, hh, hr]

/-- what a callee finds. -/
theorem FR.out (hF : FR n st a w g sv ow) : HR w g (owC ow) st.heap ∧ GCons w g ∧ BD w (owC ow) := by
  refine ⟨⟨fun r o h => (hF.hr.ob r o h).keeps (p := fun r => isHeap r = true) ⟨Gh.le.refl g, fun B r' q hr hB => ⟨(owC_heap hr).mpr hB, rfl, fun _ _ h => h⟩⟩ rfl (fun _ => rfl) (fun _ h => h) (fun _ _ h => h), hF.hr.nf⟩, hF.gc, fun B h hB => ?_⟩
  simp only [owC] at hB
  cases hk : ow B with
  | none => rw [hk] at hB; cases hB
  | some k => exact hF.bd B k hk

theorem owB_mine {d : Option Nat} {ow' : Ow} {B : Nat} {h : Hold} (hh : ow B = some h) (hr : isHeap h.root = false) (hd : isDst d h.root = false) : owB d ow ow' B = some h := by
  simp only [owB, hh, hr, hd]
theorem owB_ret {t : Nat} {ow' : Ow} {B : Nat} {p : List Nat} (hh : ow' B = some ⟨.ret, p⟩) (hno : ∀ h, ow B = some h → isHeap h.root = true) : owB (some t) ow ow' B = some ⟨.tmp t, p⟩ := by
  simp only [owB]
  cases hk : ow B with
  | none => simp [hh]
  | some k => simp [hno k hk, hh]
theorem owB_heap {d : Option Nat} {ow' : Ow} {B : Nat} {r : Root} {p : List Nat} (hr : isHeap r = true) (hh : ow' B = some ⟨r, p⟩) (hno : ∀ h, ow B = some h → isHeap h.root = true) : owB d ow ow' B = some ⟨r, p⟩ := by
  simp only [owB]
  cases r <;> first
    | (cases hr; done)
    | (cases hk : ow B with
       | none => simp [hh, isHeap]
       | some k =>
         simp only [hno k hk, hh]
         rfl)

/-- behind a call. -/
theorem FR.back (hF : FR n st a w g sv ow) {d : Option Nat} (hd : ∀ t, d = some t → t < n) {w' : World} {g' : Gh} {ow' : Ow} {H' : Heap} {r : Slot} {v : Value}
    (hfut : Fut w g (owC ow) w' g' ow') (hhr : HR w' g' ow' H') (hgc : GCons w' g') (hbd : BD w' ow') (hr : SR w' g' (fun _ => none) ow' ⟨.ret, []⟩ r v) (hnl : noLoc r = true) :
    FR n (applyEff st d { dst := r, heap := some H' }) (a.put d v) w' g' sv (owB d ow ow') ∧ Fut w g ow w' g' (owB d ow ow') := by
  have mine : ∀ B h, ow B = some h → isHeap h.root = false → ow' B = some ⟨.ctx, []⟩ ∧ w'.heap[B]? = w.heap[B]? ∧ ∀ o y, g'.im B o y → g.im B o y := fun B h hB hh => hfut.cx B [] (owC_mine hB hh)
  have hk : Keeps (fun r => isHeap r = false ∧ isDst d r = false) w g ow w' g' (owB d ow ow') := ⟨hfut.le, fun B r q hp hB => ⟨owB_mine hB hp.1 hp.2, (mine B _ hB hp.1).2⟩⟩
  have hno : ∀ B k, ow' B = some k → k.root ≠ .ctx → ∀ h, ow B = some h → isHeap h.root = true := by
    intro B k hB hne h hh
    cases hr : isHeap h.root with
    | true => rfl
    | false =>
      have := (mine B h hh hr).1
      rw [hB] at this
      cases this
      exact absurd rfl hne
  have hkh : Keeps (fun r => isHeap r = true) w' g' ow' w' g' (owB d ow ow') := ⟨Gh.le.refl g', fun B r q hp hB => ⟨owB_heap hp hB (hno B _ hB (by intro e; simp only at e; rw [e] at hp; cases hp)), rfl, fun _ _ h => h⟩⟩
  refine ⟨hF.step hd hgc (fun t ht => ?_) (fun t s h => by cases h) (fun t h1 _ => hk.keep ⟨rfl, ?_⟩ (fun _ _ h => h)) (fun t _ => noLoc_lcTop hnl) (fun t s h => by cases h) (fun s h => h) (fun s cs h => ?_) ?_ ?_ ?_ hfut.le, ?_⟩
  · subst ht
    refine SR_sv (sv := fun _ => none) _ _ hnl (SR.keep (root := .ret) (root' := .tmp t) ⟨Gh.le.refl g', fun _ _ h => h, fun B p hB => ⟨owB_ret hB (hno B _ hB (by simp)), rfl, fun _ _ h => h⟩⟩ _ _ _ hr)
  · cases hdd : isDst d (.tmp t) with
    | false => rfl
    | true =>
      obtain ⟨t', e1, e2⟩ := isDst_iff.mp hdd
      cases e2
      exact absurd e1 h1
  · exact (hF.lc s cs h).keeps hk ⟨rfl, rfl⟩ (fun o => ⟨rfl, rfl⟩) (fun _ h => h)
  · exact ⟨fun r o h => (hhr.ob r o h).keeps hkh rfl (fun _ => rfl) (fun _ h => h) (fun _ _ h => h), hhr.nf⟩
  · exact DR.keeps hk ⟨rfl, rfl⟩ _ _ hF.df
  · intro B k hB
    cases hh : ow B with
    | some h => exact Nat.lt_of_lt_of_le (hF.bd B h hh) hfut.sz
    | none =>
      cases hh' : ow' B with
      | some h' => exact hbd B h' hh'
      | none => simp [owB, hh, hh'] at hB
  · exact ⟨hfut.le, hfut.sz, fun B p hB => hk.ow B .ctx p ⟨rfl, rfl⟩ hB, hfut.tp, hfut.os, hfut.ot⟩

end
end Go.Sw
/-! Calls with an empty heap. -/
namespace Go.Sw
open Go

theorem noRefs_mem : ∀ {l : List AV}, noRefs l = true → ∀ x ∈ l, noRef x = true
  | [], _, _, hx => by simp at hx
  | y :: l, h, x, hx => by
    simp only [noRefs] at h
    split at h
    · rename_i hy
      rcases List.mem_cons.mp hx with rfl | hx
      · exact hy
      · exact noRefs_mem h x hx
    · cases h
theorem noRefs_append : ∀ {l k : List AV}, noRefs (l ++ k) = true → noRefs l = true ∧ noRefs k = true
  | [], k, h => ⟨rfl, h⟩
  | x :: l, k, h => by
    simp only [List.cons_append, noRefs] at h ⊢
    split at h
    · exact noRefs_append h
    · cases h

theorem noRef_cells {x y : AV} (h : noRef x = true) (hy : y ∈ cellsOfAV x) : noRef y = true := by
  cases x <;> first
    | (simp only [cellsOfAV, List.mem_singleton] at hy; subst hy; exact h)
    | exact noRefs_mem h y hy

mutual
/-- a value that leads nowhere into the heap does not know of it. -/
theorem VR_noRef {g g2 : Gh} (him : ∀ B o y, noRef y = true → g.im B o y → g2.im B o y) : ∀ (x : AV) (v : Value), noRef x = true → VR g x v → VR g2 x v
  | .bool _, _, _, e => e
  | .int _ _, _, _, e => e
  | .str _, _, _, e => e
  | .list l, v, h, e => by
    obtain ⟨p, c, e1, e2, e3⟩ := e
    refine ⟨p, c, e1, e2, e3.imp id ?_⟩
    rintro ⟨B, off, sz, e4, e5⟩
    exact ⟨B, off, sz, e4, fun i x hx => ⟨(e5 i x hx).1, fun j y hy => him _ _ _ (noRef_cells (noRefs_mem h x (List.mem_of_getElem? hx)) (List.mem_of_getElem? hy)) ((e5 i x hx).2 j y hy)⟩⟩
  | .ref _ _, _, h, _ => by cases h
  | .nilp, _, _, e => e
  | .map _, _, h, _ => by cases h
  | .nilmap, _, _, e => e
  | .func _ cap, _, h, ⟨vs, a, b⟩ => ⟨vs, a, VRs_noRef him cap _ h b⟩
  | .meth _ fs, _, h, ⟨vs, a, b⟩ => ⟨vs, a, VRs_noRef him fs _ h b⟩
  | .yield _, _, h, _ => by cases h
  | .nilf, _, _, e => e
  | .iface _ x, _, h, ⟨y, a, b⟩ => ⟨y, a, VR_noRef him x _ h b⟩
  | .nili, _, _, e => e
  | .agg cs, _, h, ⟨vs, a, b⟩ => ⟨vs, a, VRs_noRef him cs _ h b⟩
  | .nils, _, _, e => e
  | .hsl _ _ _ _ _, _, h, _ => by cases h
theorem VRs_noRef {g g2 : Gh} (him : ∀ B o y, noRef y = true → g.im B o y → g2.im B o y) : ∀ (l : List AV) (vs : List Value), noRefs l = true → VRs g l vs → VRs g2 l vs
  | [], _, _, e => e
  | x :: l, _, h, ⟨v, vs', a, b, c⟩ => by
    simp only [noRefs] at h
    split at h
    · rename_i hx; exact ⟨v, vs', a, VR_noRef him x v hx b, VRs_noRef him l vs' h c⟩
    · cases h
end

mutual
theorem SR_noRef {w : World} {g g2 : Gh} {ow : Ow} {h : Hold} (him : ∀ B o y, noRef y = true → g.im B o y → g2.im B o y) (hown : ∀ B k, ow B = some k → k.root = h.root → ∀ o y, g2.im B o y → g.im B o y) :
    ∀ (s : Slot) (p : List Nat) (v : Value), noRefS s = true → SR w g (fun _ => none) ow ⟨h.root, p⟩ s v → SR w g2 (fun _ => none) ow ⟨h.root, p⟩ s v
  | .undef, _, _, h, _ => by cases h
  | .skip, _, _, h, _ => by cases h
  | .v x, _, v, hn, e => VR_noRef him x v hn e
  | .nil0, _, _, _, e => e
  | .own sz l, p, v, hn, e => by
    rcases e with e | ⟨B, cap, e1, e2, e3⟩
    · exact .inl e
    · obtain ⟨h1, h2, h3, h4⟩ := e3
      exact .inr ⟨B, cap, e1, e2, h1, h2, fun i x hx => ⟨(h3 i x hx).1, fun j y hy => him _ _ _ (noRef_cells (noRefs_mem hn x (List.mem_of_getElem? hx)) (List.mem_of_getElem? hy)) ((h3 i x hx).2 j y hy)⟩,
        fun o y ho hy => h4 o y ho (hown B _ e2 rfl o y hy)⟩
  | .loc _ _, _, _, h, _ => by cases h
  | .imm _, _, _, h, _ => by cases h
  | .er _ _ _ _, _, _, h, _ => by cases h
  | .it _ _, _, _, h, _ => by cases h
  | .agg cs, p, _, hn, ⟨vs, a, b⟩ => ⟨vs, a, SRs_noRef him hown cs 0 p _ hn b⟩
  | .tup cs, p, _, hn, ⟨vs, a, b⟩ => ⟨vs, a, SRs_noRef him hown cs 0 p _ hn b⟩
theorem SRs_noRef {w : World} {g g2 : Gh} {ow : Ow} {h : Hold} (him : ∀ B o y, noRef y = true → g.im B o y → g2.im B o y) (hown : ∀ B k, ow B = some k → k.root = h.root → ∀ o y, g2.im B o y → g.im B o y) :
    ∀ (l : List Slot) (i : Nat) (p : List Nat) (vs : List Value), noRefSs l = true → SRs w g (fun _ => none) ow ⟨h.root, p⟩ i l vs → SRs w g2 (fun _ => none) ow ⟨h.root, p⟩ i l vs
  | [], _, _, _, _, e => e
  | s :: l, i, p, _, hn, ⟨v, vs', a, b, c⟩ => by
    simp only [noRefSs] at hn
    split at hn
    · rename_i hs; exact ⟨v, vs', a, SR_noRef him hown s (i :: p) v hs b, SRs_noRef him hown l (i + 1) p vs' hn c⟩
    · cases hn
end

/-- the ghost that a callee with an empty heap starts from. -/
def Gh.pure (g : Gh) : Gh := { im := fun B o y => g.im B o y ∧ noRef y = true, rf := fun _ => none, rw := fun _ _ => none }
/-- who holds what then: all that there is is the caller's. -/
theorem globs_noRef (b : Nat) (cs : List AV) (h : globs b = some cs) : noRefs cs = true := by
  unfold globs at h
  split at h <;> cases h <;> kernel_rfl
theorem GV.pure {g : Gh} (h : GV g) : GV g.pure := fun b cs hb j y hy => ⟨h b cs hb j y hy, noRefs_mem (globs_noRef b cs hb) y (List.mem_of_getElem? hy)⟩

def owP (w : World) : Ow := fun B => if B < w.heap.size then some ⟨.ctx, []⟩ else none
/-- the ghost behind such a call. -/
def Gh.after (g : Gh) (m : Nat) (g' : Gh) : Gh := { im := fun B o y => g.im B o y ∨ (g'.im B o y ∧ noRef y = true ∧ m ≤ B), rf := g.rf, rw := g.rw }
def owA (w : World) (d : Option Nat) (ow ow' : Ow) : Ow := fun B =>
  if B < w.heap.size then (match ow B with | some h => (match isDst d h.root with | true => none | false => some h) | none => none)
  else match ow' B with
    | some ⟨.ret, p⟩ => d.map fun t => ⟨.tmp t, p⟩
    | _ => none

section
variable {n : Nat} {st : St} {a : Act} {w : World} {g : Gh} {sv : Nat → Option Nat} {ow : Ow}

theorem FR.outPure (hF : FR n st a w g sv ow) : HR w g.pure (owP w) [] ∧ GCons w g.pure ∧ BD w (owP w) := by
  refine ⟨⟨fun r o h => by simp at h, fun _ _ => ⟨rfl, fun _ => rfl⟩⟩, fun B o y h => ?_, fun B h hB => ?_⟩
  · obtain ⟨v, h1, h2, h3⟩ := hF.gc B o y h.1
    exact ⟨v, h1, VR_noRef (g2 := g.pure) (fun B o y hn h => ⟨h, hn⟩) y v h.2 h2, h3⟩
  · simp only [owP] at hB
    split at hB
    · assumption
    · cases hB

theorem VRs_pure {xs : List AV} {vs : List Value} (hn : noRefs xs = true) (h : VRs g xs vs) : VRs g.pure xs vs := VRs_noRef (g2 := g.pure) (fun _ _ _ hn h => ⟨h, hn⟩) xs vs hn h

theorem le_after (m : Nat) (g' : Gh) : g.le (g.after m g') := ⟨fun _ _ _ h => .inl h, fun _ _ h => h, fun _ _ _ h => h⟩

/-- behind a call with an empty heap. -/
theorem FR.backPure (hF : FR n st a w g sv ow) {d : Option Nat} (hd : ∀ t, d = some t → t < n) {w' : World} {g' : Gh} {ow' : Ow} {r : Slot} {v : Value}
    (hfut : Fut w g.pure (owP w) w' g' ow') (hgc : GCons w' g') (hbd : BD w' ow') (hr : SR w' g' (fun _ => none) ow' ⟨.ret, []⟩ r v) (hnl : noLoc r = true) (hnr : noRefS r = true) :
    FR n (applyEff st d { dst := r }) (a.put d v) w' (g.after w.heap.size g') sv (owA w d ow ow') ∧ Fut w g ow w' (g.after w.heap.size g') (owA w d ow ow') ∧
      ∀ y u, noRef y = true → VR g' y u → VR (g.after w.heap.size g') y u := by
  have old : ∀ B, B < w.heap.size → ow' B = some ⟨.ctx, []⟩ ∧ w'.heap[B]? = w.heap[B]? ∧ ∀ o y, g'.im B o y → g.pure.im B o y := fun B hB => hfut.cx B [] (by simp [owP, hB])
  have imOld : ∀ B o y, B < w.heap.size → (g.after w.heap.size g').im B o y → g.im B o y := fun B o y hB h => by
    rcases h with h | ⟨_, _, h⟩
    · exact h
    · omega
  have imNew : ∀ B o y, noRef y = true → g'.im B o y → (g.after w.heap.size g').im B o y := fun B o y hn h => by
    by_cases hB : B < w.heap.size
    · exact .inl ((old B hB).2.2 o y h).1
    · exact .inr ⟨h, hn, by omega⟩
  have hle := le_after (g := g) w.heap.size g'
  have hk : Keeps (fun r => isDst d r = false) w g ow w' (g.after w.heap.size g') (owA w d ow ow') := ⟨hle, fun B r q hp hB => by
    have hlt := hF.bd B _ hB
    exact ⟨by simp only [owA, if_pos hlt, hB, hp], (old B hlt).2.1, fun o y hy => imOld B o y hlt hy⟩⟩
  have hgc2 : GCons w' (g.after w.heap.size g') := by
    intro B o y h
    rcases h with h | ⟨h, hn, _⟩
    · obtain ⟨u, h1, h2, h3⟩ := hF.gc B o y h
      exact ⟨u, (cell_of_heap (old B (hF.gc.lt h)).2.1).trans h1, VR.mono hle _ _ h2, h3⟩
    · obtain ⟨u, h1, h2, h3⟩ := hgc B o y h
      exact ⟨u, h1, VR_noRef imNew y u hn h2, h3⟩
  refine ⟨hF.step hd hgc2 (fun t ht => ?_) (fun t s h => by cases h) (fun t h1 _ => hk.keep ?_ (fun _ _ h => h)) (fun t _ => noLoc_lcTop hnl) (fun t s h => by cases h) (fun s h => h) (fun s cs h => ?_) ?_ ?_ ?_, ?_⟩
  · subst ht
    have h1 : SR w' (g.after w.heap.size g') (fun _ => none) ow' ⟨.ret, []⟩ r v := SR_noRef (h := ⟨.ret, []⟩) imNew (fun B k hB hk' o y hy => by
      rcases hy with hy | ⟨hy, _, _⟩
      · have := (old B (hF.gc.lt hy)).1
        rw [hB] at this
        cases this
        cases hk'
      · exact hy) r [] v hnr hr
    refine SR_sv (sv := fun _ => none) _ _ hnl (SR.keep (root := .ret) (root' := .tmp t) ⟨Gh.le.refl _, fun _ _ h => h, fun B p hB => ⟨?_, rfl, fun _ _ h => h⟩⟩ _ _ _ h1)
    have : ¬ B < w.heap.size := fun hlt => by
      have := (old B hlt).1
      rw [hB] at this
      cases this
    simp [owA, this, hB]
  · cases hdd : isDst d (.tmp t) with
    | false => rfl
    | true =>
      obtain ⟨t', e1, e2⟩ := isDst_iff.mp hdd
      cases e2
      exact absurd e1 h1
  · exact (hF.lc s cs h).keeps hk rfl (fun o => rfl) (fun _ h => h)
  · exact ⟨fun r o h => (hF.hr.ob r o h).keeps hk rfl (fun _ => rfl) (fun _ h => h) (fun _ _ h => h), hF.hr.nf⟩
  · exact DR.keeps hk rfl _ _ hF.df
  · intro B k hB
    simp only [owA] at hB
    split at hB
    · rename_i hlt; exact Nat.lt_of_lt_of_le hlt hfut.sz
    · cases hh' : ow' B with
      | some h' => exact hbd B h' hh'
      | none => simp [hh'] at hB
  · exact ⟨⟨hle, hfut.sz, fun B p hB => hk.ow B .ctx p rfl hB, hfut.tp, hfut.os, hfut.ot⟩, fun y u hn h => VR_noRef imNew y u hn h⟩

end
end Go.Sw
/-! What a call is to show; operations that call. -/
namespace Go.Sw
open Go

def OkPost (w : World) (g : Gh) (ow : Ow) (r : Slot) (H' : Heap) : Ending → World → Prop
  | .returned v, w' => ∃ g' ow', SR w' g' (fun _ => none) ow' ⟨.ret, []⟩ r v ∧ noLoc r = true ∧ HR w' g' ow' H' ∧ GCons w' g' ∧ BD w' ow' ∧ Fut w g ow w' g' ow'
  | _, _ => False
def PanicPost (w : World) (g : Gh) (ow : Ow) (x : AV) (H' : Heap) : Ending → World → Prop
  | .panicked chain, w' => ∃ g' ow' u, chain = [{ v := u, recovered := false }] ∧ VR g' x u ∧ HR w' g' ow' H' ∧ GCons w' g' ∧ BD w' ow' ∧ Fut w g ow w' g' ow'
  | _, _ => False
def ResPost (w : World) (g : Gh) (ow : Ow) : Res (Slot × Heap) → Option (Ending → World → Prop)
  | .ok (r, H') => some (OkPost w g ow r H')
  | .panic x H' => some (PanicPost w g ow x H')
  | _ => none

/-- a call of the function enters it. -/
def Enters (P : Program) (f : Nat) : Prop := f < nFuncs ∧ ∃ fn, P.funcs[f]? = some fn ∧ fn.body.isNone = false ∧ (fn.name == "runtime.NumGoroutine") = false

theorem Enters.run {P : Program} {f : Nat} (h : Enters P f) (args : Array Value) (w : World) : (callFunc f args).run P w = .ok (.enter f args) w := by
  obtain ⟨_, fn, h1, h2, h3⟩ := h
  have h3' : ¬ fn.name = "runtime.NumGoroutine" := by simpa using h3
  have h2' : ¬ fn.body = none := by intro e; simp [e] at h2
  simp [callFunc, h1, h2', h3']

/-- the fence: functions that there are. -/
def fw : Fence := { fn := fun f => f < nFuncs, depth := none, alive := false }
theorem room_fw (n : Nat) : fw.room n := fun d hd => by cases hd

/-- what the evaluator's calls are to show. -/
def CallOK (P : Program) (call : Call) : Prop := ∀ xs H w g ow (args : Array Value), VRs g xs args.toList → HR w g ow H → GCons w g → BD w ow → GV g →
  (∀ f R, ResPost w g ow (call (.fn f) xs H) = some R → Enters P f ∧ CallsIn fw 0 P f args w R) ∧
  (∀ l B R, g.rf l = some B → ResPost w g ow (call (.yld l) xs H) = some R →
    ∃ f tmps as bd w1, (Instr.yield B args).run P w = .ok (.round B f tmps as bd) w1 ∧ RoundIn fw 0 P B f tmps as bd w1 R)

/-- a fence that lets everything in. -/
structure Wide (F : Fence) : Prop where
  fn : F.fn = fun f => f < nFuncs
  dp : F.depth = none
  al : F.alive = false

theorem Wide.calls {F : Fence} (h : Wide F) {n : Nat} {P : Program} {f : FuncId} {args : Array Value} {w : World} {R : Ending → World → Prop} (hc : CallsIn fw 0 P f args w R) : CallsIn F n P f args w R := by
  obtain ⟨fn, d, al, rd⟩ := F
  obtain ⟨rfl, rfl, rfl⟩ := h
  exact ⟨hc.1, fun cs _ => hc.2 cs (room_fw _)⟩
theorem Wide.round {F : Fence} (h : Wide F) {n : Nat} {P : Program} {l : Nat} {f : FuncId} {tmps : Array Value} {as bd : Code} {w : World} {R : Ending → World → Prop} (hc : RoundIn fw 0 P l f tmps as bd w R) :
    RoundIn F n P l f tmps as bd w R := by
  obtain ⟨fn, d, al, rd⟩ := F
  obtain ⟨rfl, rfl, rfl⟩ := h
  exact ⟨hc.1, fun c cs _ => hc.2 c cs (room_fw _)⟩

/-- what an operation comes to, in the calculus. -/
def OpWp (F : Fence) (P : Program) (n : Nat) (o : Oper) (st : St) (a : Act) (w : World) (g : Gh) (ow : Ow) : Res Eff → Prop
  | .ok e => ∀ (K : Act → World → Prop) (Q : Exit → Act → World → Prop), (∀ v' w' g' sv' ow', FR n (applyEff st o.dst e) (a.put o.dst v') w' g' sv' ow' → Fut w g ow w' g' ow' → K (a.put o.dst v') w') → o.wpIn F 0 P a w K Q
  | .panic x H' => ∀ (K : Act → World → Prop) (Q : Exit → Act → World → Prop), (∀ u w' g' sv' ow', VR g' x u → FR n { st with heap := H' } a w' g' sv' ow' → Fut w g ow w' g' ow' → Q (.panic [{ v := u, recovered := false }]) a w') → o.wpIn F 0 P a w K Q
  | _ => True

section
variable {F : Fence} {P : Program} {n : Nat} {o : Oper} {st : St} {a : Act} {w : World} {g : Gh} {sv : Nat → Option Nat} {ow : Ow}

theorem about_local {ρ : Operand → Value} (hl : isLocal o = true) : o.about P w ρ = none := by
  unfold isLocal at hl
  unfold Oper.about
  split
  · rename_i c ho
    rw [ho] at hl
    simp only at hl
    split at hl
    · rename_i b hc
      simp [resolve, hc, Target.leads]
    · cases hl
  · rfl
theorem about_none {ρ : Operand → Value} (h : o.about P w ρ = none) : ∀ f, o.about P w ρ = some f → F.fn f := fun f hf => by rw [h] at hf; cases hf

theorem OpOK.wp (hl : isLocal o = true) (hnd : ∀ c, o.op ≠ .defer c) {e : Eff} (h : OpOK P n o a w g ow (applyEff st o.dst e)) : OpWp F P n o st a w g ow (.ok e) := by
  intro K Q hK
  obtain ⟨r, v', w', g', sv', ow', h1, h2, h3, h4⟩ := h
  refine ⟨about_none (about_local hl), ?_⟩
  rw [Oper.semAt_eq _ _ _ hnd, h1]
  rcases h2 with rfl | ⟨rfl, rfl⟩
  · exact hK _ _ _ _ _ h3 h4
  · exact hK _ _ _ _ _ h3 h4

/-- a frame behind a panic of a callee. -/
theorem FR.backPanic (hF : FR n st a w g sv ow) {w' : World} {g' : Gh} {ow' : Ow} {H' : Heap} (hfut : Fut w g (owC ow) w' g' ow') (hhr : HR w' g' ow' H') (hgc : GCons w' g') (hbd : BD w' ow') :
    FR n { st with heap := H' } a w' g' sv (owB none ow ow') ∧ Fut w g ow w' g' (owB none ow ow') := by
  obtain ⟨h1, h2⟩ := hF.back (d := none) (by simp) (v := undef) (r := .undef) hfut hhr hgc hbd trivial rfl
  exact ⟨⟨h1.sz, h1.gc, h1.tm, h1.lk, h1.lc, h1.hr, h1.df, h1.bd, h1.gv⟩, h2⟩

theorem args_VRs (hF : FR n st a w g sv ow) {l : List Operand} {xs cap : List AV} {vs : List Value} (h : argsR (l.map (opd st)) = .ok xs) (hc : VRs g cap vs) : VRs g (xs ++ cap) (l.map a.eval ++ vs) := by
  have h1 := argsR_VRs hF l xs (by show Res.bind _ _ = _; rw [h]; rfl)
  have app : ∀ (l1 l2 : List AV) (v1 v2 : List Value), VRs g l1 v1 → VRs g l2 v2 → VRs g (l1 ++ l2) (v1 ++ v2) := by
    intro l1
    induction l1 with
    | nil => intro l2 v1 v2 h1 h2; cases h1; exact h2
    | cons x l1 ih =>
      intro l2 v1 v2 h1 h2
      obtain ⟨v, vs', rfl, h3, h4⟩ := h1
      exact ⟨v, vs' ++ v2, rfl, h3, ih l2 vs' v2 h4 h2⟩
  exact app _ _ _ _ h1 hc

/-- a call of a function that the operation is found to make. -/
theorem call_fn {C : Cfg} {call : Call} (hC : CallOK P call) (hW : Wide F) (hF : FR n st a w g sv ow) (hd : ∀ t, o.dst = some t → t < n) (hnd : ∀ c, o.op ≠ .defer c) {f : Nat} {args : List Slot} {cap : List AV} {xs : List AV} {vargs : Array Value}
    (hxs : argsR args = .ok xs) (hv : VRs g (xs ++ cap) vargs.toList) (hrun : Enters P f → (execOp a.eval o).run P w = .ok (.enter f vargs) w) (hab : Enters P f → ∀ f', o.about P w a.eval = some f' → f' = f) :
    OpWp F P n o st a w g ow (doCall C call (.fn f) args cap st.heap) := by
  have hdp : F.depth.isSome = true → 1 ≤ 0 := by rw [hW.dp]; intro h; cases h
  have open_ : OpWp F P n o st a w g ow (openCall call (.fn f) (xs ++ cap) st.heap) := by
    obtain ⟨o1, o2, o3⟩ := hF.out
    obtain ⟨hfn, _⟩ := hC (xs ++ cap) st.heap w g (owC ow) vargs hv o1 o2 o3 hF.gv
    unfold openCall
    cases hr : call (.fn f) (xs ++ cap) st.heap with
    | ok rH =>
      obtain ⟨r, H'⟩ := rH
      intro K Q hK
      obtain ⟨he, hc⟩ := hfn f _ (by rw [hr]; rfl)
      refine ⟨fun f' hf' => by rw [hW.fn, hab he f' hf']; exact he.1, ?_⟩
      rw [Oper.semAt_eq _ _ _ hnd, hrun he, Oper.uponIn_enter]
      refine ⟨hdp, hW.calls (CallsIn.mono hc fun e w' h => ?_)⟩
      cases e with
      | returned v =>
        obtain ⟨g', ow', h1, h2, h3, h4, h5, h6⟩ := h
        obtain ⟨q1, q2⟩ := hF.back hd (v := v) h6 h3 h4 h5 h1 h2
        exact hK v _ _ _ _ q1 q2
      | panicked c => exact h.elim
      | outgrown => exact h.elim
    | panic x H' =>
      intro K Q hQ
      obtain ⟨he, hc⟩ := hfn f _ (by rw [hr]; rfl)
      refine ⟨fun f' hf' => by rw [hW.fn, hab he f' hf']; exact he.1, ?_⟩
      rw [Oper.semAt_eq _ _ _ hnd, hrun he, Oper.uponIn_enter]
      refine ⟨hdp, hW.calls (CallsIn.mono hc fun e w' h => ?_)⟩
      cases e with
      | panicked c =>
        obtain ⟨g', ow', u, rfl, h2, h3, h4, h5, h6⟩ := h
        obtain ⟨q1, q2⟩ := hF.backPanic h6 h3 h4 h5
        exact hQ u _ _ _ _ h2 q1 q2
      | returned v => exact h.elim
      | outgrown => exact h.elim
    | bad _ => trivial
    | oof => trivial
  unfold doCall
  rw [hxs]
  simp only [Res.bind]
  split
  · rename_i hpure
    simp only [Bool.and_eq_true] at hpure
    obtain ⟨o1, o2, o3⟩ := hF.outPure
    obtain ⟨hfn, _⟩ := hC (xs ++ cap) [] w g.pure (owP w) vargs (VRs_pure hpure.2 hv) o1 o2 o3 hF.gv.pure
    unfold pureCall
    cases hr : call (.fn f) (xs ++ cap) [] with
    | ok rH =>
      obtain ⟨r, H'⟩ := rH
      simp only
      cases hnr : noRefS r with
      | false => trivial
      | true =>
        intro K Q hK
        obtain ⟨he, hc⟩ := hfn f _ (by rw [hr]; rfl)
        refine ⟨fun f' hf' => by rw [hW.fn, hab he f' hf']; exact he.1, ?_⟩
        rw [Oper.semAt_eq _ _ _ hnd, hrun he, Oper.uponIn_enter]
        refine ⟨hdp, hW.calls (CallsIn.mono hc fun e w' h => ?_)⟩
        cases e with
        | returned v =>
          obtain ⟨g', ow', h1, h2, h3, h4, h5, h6⟩ := h
          obtain ⟨q1, q2, _⟩ := hF.backPure hd (v := v) h6 h4 h5 h1 h2 hnr
          exact hK v _ _ _ _ q1 q2
        | panicked c => exact h.elim
        | outgrown => exact h.elim
    | panic x H' =>
      simp only
      cases hnr : noRef x with
      | false => trivial
      | true =>
        intro K Q hQ
        obtain ⟨he, hc⟩ := hfn f _ (by rw [hr]; rfl)
        refine ⟨fun f' hf' => by rw [hW.fn, hab he f' hf']; exact he.1, ?_⟩
        rw [Oper.semAt_eq _ _ _ hnd, hrun he, Oper.uponIn_enter]
        refine ⟨hdp, hW.calls (CallsIn.mono hc fun e w' h => ?_)⟩
        cases e with
        | panicked c =>
          obtain ⟨g', ow', u, rfl, h2, h3, h4, h5, h6⟩ := h
          obtain ⟨q1, q2, q3⟩ := hF.backPure (d := none) (by simp) (v := u) (r := .v x) h6 h4 h5 h2 rfl hnr
          exact hQ u _ _ _ _ (q3 x u hnr h2) ⟨q1.sz, q1.gc, q1.tm, q1.lk, q1.lc, q1.hr, q1.df, q1.bd, q1.gv⟩ q2
        | returned v => exact h.elim
        | outgrown => exact h.elim
    | bad _ => trivial
    | oof => trivial
  · split
    · -- a call that is found to leave the heap as it is
      unfold roCall
      unfold openCall at open_
      cases hr : call (.fn f) (xs ++ cap) st.heap with
      | ok rH =>
        obtain ⟨r, H'⟩ := rH
        rw [hr] at open_
        simp only at open_ ⊢
        cases heq : eqHs H' st.heap with
        | false => trivial
        | true =>
          have := eqHs_eq _ _ heq
          subst this
          intro K Q hK
          exact open_ K Q fun v' w' g' sv' ow' h1 h2 => hK v' w' g' sv' ow' ⟨h1.sz, h1.gc, h1.tm, h1.lk, h1.lc, h1.hr, h1.df, h1.bd, h1.gv⟩ h2
      | panic _ _ => trivial
      | bad _ => trivial
      | oof => trivial
    · exact open_

end
end Go.Sw

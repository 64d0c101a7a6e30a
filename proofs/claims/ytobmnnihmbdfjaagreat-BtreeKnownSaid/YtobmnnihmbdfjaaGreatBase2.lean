/- Maps keyed by ints: deletion, length, ranging. -/
import Derived.Test.YtobmnnihmbdfjaaGreatBase
import Derived.Maps.OwnSet
import Derived.Maps.RangeWalk
set_option linter.all false
namespace Go.Proofs.YtobmnnihmbdfjaaGreat
open Go.RowKit

theorem IsIMap.erase {q : IntKind} {es : Array MapEntry} {clock : Nat} {f : Int → Option Value} (h : IsIMap q es clock f) (n : Int) {i : Nat} {e0 : MapEntry} (hi : es[i]? = some e0) (h0 : e0.key = .int q n) :
    IsIMap q (es.eraseIdxIfInBounds i) clock (fun k => if k = n then none else f k) := by
  have hlt := (Array.getElem?_eq_some_iff.1 hi).1
  have hl : (es.eraseIdxIfInBounds i).toList = es.toList.eraseIdx i := by
    unfold Array.eraseIdxIfInBounds; rw [dif_pos hlt]; simp
  have hs : List.Sublist (es.toList.eraseIdx i) es.toList := List.eraseIdx_sublist _ _
  have h0' : es[i] = e0 := by simpa [Array.getElem?_eq_getElem hlt] using hi
  refine ⟨by rw [hl]; exact h.stamps.sublist hs, fun e he => h.old e (hs.subset (hl ▸ he)), fun e he => h.keys e (hs.subset (hl ▸ he)), by rw [hl]; exact h.nodup.sublist hs, ?_⟩
  intro k v
  rw [hl]
  by_cases hk : k = n
  · subst hk
    simp only [if_true]
    constructor
    · intro c; cases c
    · rintro ⟨e, he, h1, -⟩
      exfalso
      obtain ⟨j, hj, hji, rfl⟩ := List.mem_eraseIdx_iff_getElem.1 he
      have hj' : j < es.size := by simpa using hj
      have : i = j := h.same_key hi (Array.getElem?_eq_getElem hj') (h0.trans (by rw [← h1]; simp))
      exact hji this.symm
  · simp only [if_neg hk]
    rw [h.get k v]
    constructor
    · rintro ⟨e, he, h1, h2⟩
      refine ⟨e, ?_, h1, h2⟩
      obtain ⟨j, hj, rfl⟩ := List.mem_iff_getElem.1 he
      refine List.mem_eraseIdx_iff_getElem.2 ⟨j, hj, ?_, rfl⟩
      rintro rfl
      have : es.toList[j] = e0 := by rw [← h0']; simp
      rw [this, h0] at h1; simp at h1; exact hk h1.symm
    · rintro ⟨e, he, h1, h2⟩
      exact ⟨e, hs.subset he, h1, h2⟩

theorem chg_setObj {w : World} {m : Nat} (o : Obj) : Chg [m] w { w with heap := w.heap.setIfInBounds m o } := ⟨rfl, rfl, rfl, by simp, fun k hk hn => by
    simp only [List.mem_singleton] at hn
    simp [Ne.symm hn]⟩
theorem get_setObj {w : World} {m : Nat} (h : m < w.heap.size) (o : Obj) : ({ w with heap := w.heap.setIfInBounds m o } : World).heap[m]? = some o := by simp [h]

theorem if_none {f : Int → Option Value} {n : Int} (h : f n = none) : (fun k => if k = n then none else f k) = f := by
  funext k; split
  · rename_i e; rw [e, h]
  · rfl

/-- A map that is ranged over: left are those keys that are still to come; cur the one that came last. -/
structure Ranging (q : IntKind) (w : World) (r m : Nat) (f : Int → Option Value) (left : Int → Prop) (cur : Option Int) : Prop where
  ex : ∃ es clock seen, w.heap[m]? = some (.map es clock) ∧ IsIMap q es clock f ∧ w.heap[r]? = some (.mapIter (some m) clock seen clock) ∧
    (∀ n, left n ↔ ∃ e ∈ es.toList, e.key = .int q n ∧ e.born ∉ seen) ∧ (∀ n, cur = some n → ∃ e ∈ es.toList, e.key = .int q n ∧ seen.back? = some e.born)

/-- How many are still to come. -/
def toCome (w : World) (m r : Nat) : Nat :=
  match w.heap[m]?, w.heap[r]? with
  | some (.map es _), some (.mapIter _ _ seen _) => (es.toList.filter fun e => !seen.contains e.born).length
  | _, _ => 0

theorem Ranging.kept {q : IntKind} {w w' : World} {r m : Nat} {f : Int → Option Value} {left : Int → Prop} {cur : Option Int} (h : Ranging q w r m f left cur) (hm : w'.heap[m]? = w.heap[m]?) (hr : w'.heap[r]? = w.heap[r]?) : Ranging q w' r m f left cur := by
  obtain ⟨es, clock, seen, h1, h2, h3, h4⟩ := h.ex
  exact ⟨es, clock, seen, hm.trans h1, h2, hr.trans h3, h4⟩
theorem Ranging.map {q : IntKind} {w : World} {r m : Nat} {f : Int → Option Value} {left : Int → Prop} {cur : Option Int} (h : Ranging q w r m f left cur) : IMapAt q w m f := by
  obtain ⟨es, clock, seen, h1, h2, h3, h4⟩ := h.ex
  exact ⟨es, clock, h1, h2⟩

theorem toCome_kept {w w' : World} {m r : Nat} (hm : w'.heap[m]? = w.heap[m]?) (hr : w'.heap[r]? = w.heap[r]?) : toCome w' m r = toCome w m r := by
  unfold toCome; rw [hm, hr]

theorem wpList_range_imap {P : Program} (w : World) {ops : Array Oper} {rest : List Oper} {o : Oper} {a : Act} {Q : Exit → Act → World → Prop}
    (hg : o.guard = none) (m : Operand) (t : TypeId) (hop : o.op = Op.range t m) (kt et : TypeId) (q : IntKind) (ht : P.underlying t = some (.map kt et)) (b : Nat) (f : Int → Option Value)
    (hm : a.eval m = .map (some b)) (hown : IMapAt q w b f)
    (hK : ∀ w', Ranging q w' w.heap.size b f (fun n => f n ≠ none) none → Chg [] w w' → w'.heap.size = w.heap.size + 1 → wpList P ops Q rest (a.put o.dst (.pointer (some ⟨w.heap.size, 0, none⟩))) w') :
    wpList P ops Q (o :: rest) a w := by
  refine wpList_plain hg fun K' hK' => ?_
  obtain ⟨es, clock, hb, hm'⟩ := hown
  have hrun := run_range_map (P := P) w t kt et b es clock ht hb
  have hk := hK (w.alloc (.mapIter (some b) clock #[] clock)) ⟨es, clock, #[], ?_, hm', heap_alloc_new w _, ?_, ?_⟩ ((Chg.refl _ _).alloc _) (by simp)
  · unfold Oper.wp
    simp only [execOp, hop, hm, Sem.run_bind, hrun, Result.andThen, Sem.run_pure]
    exact hK' _ _ hk
  · rw [Below.heap_alloc _ _ _ (lt_of_block hb)]; exact hb
  · intro n
    constructor
    · intro hn
      cases hv : f n with
      | none => exact absurd hv hn
      | some v => obtain ⟨e, he, h1, -⟩ := (hm'.get n v).1 hv; exact ⟨e, he, h1, by simp⟩
    · rintro ⟨e, he, h1, -⟩
      rw [(hm'.get n e.val).2 ⟨e, he, h1, rfl⟩]; simp
  · intro n c; cases c

/-- The step of a range over a map. -/
theorem wpList_next_imap {P : Program} (w : World) {ops : Array Oper} {rest : List Oper} {o : Oper} {a : Act} {Q : Exit → Act → World → Prop}
    (hg : o.guard = none) (it : Operand) (hop : o.op = Op.next it false) (q : IntKind) (b r : Nat) (f : Int → Option Value) (left : Int → Prop) (cur : Option Int)
    (hit : a.eval it = .pointer (some ⟨r, 0, none⟩)) (h : Ranging q w r b f left cur)
    (hDone : Hid (∀ n, ¬ left n) → wpList P ops Q rest (a.put o.dst (.tuple #[.bool false])) w)
    (hMore : ∀ (n : Int) (v : Value) (w' : World), Hid (left n) → Hid (f n = some v) → Hid (Ranging q w' r b f (fun k => left k ∧ k ≠ n) (some n)) → Hid (w'.rangeLeft b r < w.rangeLeft b r) → Hid (Chg [r] w w') → Hid (w'.heap.size = w.heap.size) → (∀ b' i, b' ≠ r → w'.cell? ⟨b', i, none⟩ = w.cell? ⟨b', i, none⟩) → (∀ b' i, b' ≠ r → w'.frozen? ⟨b', i, none⟩ = w.frozen? ⟨b', i, none⟩) →
      (Instr.entry (.pointer (some ⟨r, 0, none⟩))).run P w' = .ok (.tuple #[.int q n, v]) w' → wpList P ops Q rest (a.put o.dst (.tuple #[.bool true, .int q n, v])) w') :
    wpList P ops Q (o :: rest) a w := by
  refine wpList_plain hg fun K' hK' => ?_
  obtain ⟨es, clock, seen, hb, hm, hr, hl, hc⟩ := h.ex
  have hrlt := lt_of_block hr
  have hne : b ≠ r := by rintro rfl; rw [hb] at hr; cases hr
  unfold Oper.wp
  rcases run_next_at (P := P) w o.type r b clock clock seen es clock hr hb hm.old (Nat.le_refl _) with ⟨h0, hrun⟩ | ⟨e, he, w1, hal, hrun⟩
  · simp only [execOp, hop, hit, Sem.run_bind, hrun, Result.andThen, Sem.run_pure]
    refine hK' _ _ (hDone fun n hn => ?_)
    obtain ⟨e, he, -, h2⟩ := (hl n).1 hn
    have : e ∈ (leftOf es seen).toList := by unfold leftOf; simp; exact ⟨by simpa using he, h2⟩
    have h3 : (leftOf es seen).toList.length = 0 := by simpa using h0
    rw [List.length_eq_zero_iff] at h3
    rw [h3] at this; cases this
  · simp only [execOp, hop, hit, Sem.run_bind, hrun, Result.andThen, Sem.run_pure]
    obtain ⟨hem, hes⟩ : e ∈ es.toList ∧ e.born ∉ seen := by unfold leftOf at he; simp at he; exact ⟨by simpa using he.1, he.2⟩
    obtain ⟨n, hkey⟩ := hm.keys e hem
    have hheap : w1.heap = w.heap := by rcases hal with rfl | rfl <;> rfl
    have hb1 : (ChangeMaps.setBlock w1 r (.mapIter (some b) clock (seen.push e.born) clock)).heap[b]? = some (.map es clock) := by
      show (w1.heap.setIfInBounds r _)[b]? = _
      rw [hheap, Array.getElem?_setIfInBounds, if_neg hne.symm]; exact hb
    have hr1 : (ChangeMaps.setBlock w1 r (.mapIter (some b) clock (seen.push e.born) clock)).heap[r]? = some (.mapIter (some b) clock (seen.push e.born) clock) := by
      show (w1.heap.setIfInBounds r _)[r]? = _
      rw [hheap]; simp [hrlt]
    have hstamp : ∀ x ∈ es.toList, x.born = e.born → x = e := by
      intro x hx hxe
      obtain ⟨i, hi, rfl⟩ := List.mem_iff_getElem.1 hx
      obtain ⟨j, hj, rfl⟩ := List.mem_iff_getElem.1 hem
      have hp := List.pairwise_iff_getElem.1 hm.stamps
      rcases Nat.lt_trichotomy i j with c | c | c
      · exact absurd hxe (hp i j hi hj c)
      · subst c; rfl
      · exact absurd hxe.symm (hp j i hj hi c)
    have hkeys : ∀ x ∈ es.toList, x.key = e.key → x = e := by
      intro x hx hxe
      obtain ⟨i, hi, rfl⟩ := List.mem_iff_getElem.1 hx
      obtain ⟨j, hj, rfl⟩ := List.mem_iff_getElem.1 hem
      have hp := List.pairwise_iff_getElem.1 hm.nodup
      rcases Nat.lt_trichotomy i j with c | c | c
      · exact absurd hxe (hp i j hi hj c)
      · subst c; rfl
      · exact absurd hxe.symm (hp j i hj hi c)
    have hchg : Chg [r] w (ChangeMaps.setBlock w1 r (.mapIter (some b) clock (seen.push e.born) clock)) := by
      refine ⟨?_, ?_, ?_, ?_, ?_⟩
      · rcases hal with rfl | rfl <;> rfl
      · rcases hal with rfl | rfl <;> rfl
      · rcases hal with rfl | rfl <;> rfl
      · show w.heap.size ≤ (w1.heap.setIfInBounds r _).size
        rw [hheap]; simp
      · intro k hk hn
        show (w1.heap.setIfInBounds r _)[k]? = _
        rw [hheap, Array.getElem?_setIfInBounds, if_neg (by simp at hn; exact fun c => hn c.symm)]
    have hsz : (ChangeMaps.setBlock w1 r (.mapIter (some b) clock (seen.push e.born) clock)).heap.size = w.heap.size := by
      show (w1.heap.setIfInBounds r _).size = _
      rw [hheap]; simp
    have hen := run_entry_at (P := P) _ r b clock seen es clock e hr1 hb1 hem (by rw [List.Nodup, List.pairwise_map]; exact hm.stamps)
    rw [hkey] at hen ⊢
    refine hK' _ _ (hMore n e.val _ ((hl n).2 ⟨e, hem, hkey, hes⟩) ((hm.get n e.val).2 ⟨e, hem, hkey, rfl⟩) ⟨es, clock, seen.push e.born, hb1, hm, hr1, ?_, ?_⟩ ?_ hchg hsz (hchg.cells hsz).1 (hchg.cells hsz).2 hen)
    · intro k
      simp only [hl k, Array.mem_push, not_or]
      constructor
      · rintro ⟨⟨x, hx, h1, h2⟩, hkn⟩
        refine ⟨x, hx, h1, h2, fun hxe => hkn ?_⟩
        have := hstamp x hx hxe
        subst this
        rw [hkey] at h1
        simpa using h1.symm
      · rintro ⟨x, hx, h1, h2, h3⟩
        refine ⟨⟨x, hx, h1, h2⟩, ?_⟩
        rintro rfl
        exact h3 (by rw [hkeys x hx (h1.trans hkey.symm)])
    · intro k hk
      simp only [Option.some.injEq] at hk
      subst hk
      exact ⟨e, hem, hkey, by simp⟩
    · show World.rangeLeft _ b r < World.rangeLeft _ b r
      simp only [World.rangeLeft, hb1, hr1, hb, hr]
      exact left_shrinks es seen e he

/-- The run of delete(m, n), whoever ranges over the map. -/
theorem run_delete_int {P : Program} {t kt et : TypeId} {q : IntKind} (ht : P.underlying t = some (.map kt et)) (hk : P.underlying kt = some (.int q)) {w : World} {m : Nat} {f : Int → Option Value} (h : IMapAt q w m f) (n : Int) (k' ty : TypeId) :
    ∃ w', (Builtin.delete_ #[t, k'] ty #[.map (some m), .int q n]).run P w = .ok (.tuple #[]) w' ∧ Chg [m] w w' ∧ w'.heap.size = w.heap.size ∧ IMapAt q w' m (fun k => if k = n then none else f k) ∧
      (∀ r left, Ranging q w r m f left (some n) → ¬ left n → Ranging q w' r m (fun k => if k = n then none else f k) left none ∧ w'.rangeLeft m r ≤ w.rangeLeft m r) := by
  obtain ⟨es, clock, hb, hm⟩ := h
  obtain ⟨r, hr, hf, hi⟩ := findKey_int hk hm n w
  have hlt := lt_of_block hb
  have hg := run_getObj_map (P := P) hb
  have hc := fun b => checkKey_int hk b n w
  have off : ∀ (o : Obj) (r : Nat), r ≠ m → ({ w with heap := w.heap.setIfInBounds m o } : World).heap[r]? = w.heap[r]? := fun o r hne => by
    simp [Array.getElem?_setIfInBounds, Ne.symm hne]
  have ne : ∀ r left cur, Ranging q w r m f left cur → r ≠ m := fun r left cur hR => by
    obtain ⟨_, _, _, h1, _, h2, _⟩ := hR.ex
    rintro rfl
    rw [h1] at h2; cases h2
  cases r with
  | none =>
    refine ⟨{ w with heap := w.heap.setIfInBounds m (.map es clock) }, ?_, chg_setObj _, by simp, ⟨es, clock, get_setObj hlt _, ?_⟩, ?_⟩
    · simp [Builtin.delete_, Sem.run_bind, run_underlying ht, Result.andThen, hg, Sem.run_pure, hc, hr, setObj, Sem.run, hb]
    · rw [if_none hf.symm]; exact hm
    · intro r left hR hl
      have hne := ne _ _ _ hR
      have hbm : ({ w with heap := w.heap.setIfInBounds m (.map es clock) } : World).heap[m]? = w.heap[m]? := by rw [get_setObj hlt, hb]
      rw [if_none hf.symm]
      constructor
      · have := hR.kept hbm (off _ _ hne)
        exact ⟨by obtain ⟨a1, a2, a3, a4, a5, a6, a7, -⟩ := this.ex; exact ⟨a1, a2, a3, a4, a5, a6, a7, fun n c => by cases c⟩⟩
      · unfold World.rangeLeft; rw [hbm, off _ _ hne]; exact Nat.le_refl _
  | some p =>
    obtain ⟨i, u⟩ := p
    obtain ⟨e0, he0, h0, -⟩ := hi i u rfl
    have hlti := (Array.getElem?_eq_some_iff.1 he0).1
    have htl : (es.eraseIdxIfInBounds i).toList = es.toList.eraseIdx i := by
      unfold Array.eraseIdxIfInBounds; rw [dif_pos hlti]; simp
    have he0' : es[i] = e0 := by simpa [Array.getElem?_eq_getElem hlti] using he0
    refine ⟨{ w with heap := w.heap.setIfInBounds m (.map (es.eraseIdxIfInBounds i) clock) }, ?_, chg_setObj _, by simp, ⟨_, clock, get_setObj hlt _, hm.erase n he0 h0⟩, ?_⟩
    · simp [Builtin.delete_, Sem.run_bind, run_underlying ht, Result.andThen, hg, Sem.run_pure, hc, hr, setObj, Sem.run, hb]
    · intro r left hR hl
      have hne := ne _ _ _ hR
      obtain ⟨es1, c1, seen, a1, a2, a3, a4, a5⟩ := hR.ex
      rw [hb] at a1
      simp only [Option.some.injEq, Obj.map.injEq] at a1
      obtain ⟨rfl, rfl⟩ := a1
      constructor
      · refine ⟨_, clock, seen, get_setObj hlt _, hm.erase n he0 h0, (off _ _ hne).trans a3, fun k => ?_, fun k c => by cases c⟩
        rw [htl, a4 k]
        constructor
        · rintro ⟨e, he, h1, h2⟩
          refine ⟨e, ?_, h1, h2⟩
          obtain ⟨j, hj, rfl⟩ := List.mem_iff_getElem.1 he
          refine List.mem_eraseIdx_iff_getElem.2 ⟨j, hj, ?_, rfl⟩
          rintro rfl
          have : es.toList[j] = e0 := by rw [← he0']; simp
          rw [this] at h1 h2
          have hkn : k = n := by rw [h0] at h1; simpa using h1.symm
          subst hkn
          exact hl ((a4 k).2 ⟨e0, by rw [← this]; exact List.getElem_mem _, h0, h2⟩)
        · rintro ⟨e, he, h1, h2⟩
          exact ⟨e, (List.eraseIdx_sublist _ _).subset he, h1, h2⟩
      · unfold World.rangeLeft
        rw [get_setObj hlt, off _ _ hne, hb, a3]
        simp only [leftOf]
        have h1 := ((List.eraseIdx_sublist es.toList i).filter (fun e => !seen.contains e.born)).length_le
        rw [← htl] at h1
        have h2 : ∀ xs : Array MapEntry, (xs.filter (fun e => !seen.contains e.born)).size = (xs.toList.filter (fun e => !seen.contains e.born)).length := fun xs => by rw [← Array.toList_filter]; rfl
        rw [h2, h2]; exact h1

/-- delete(m, n) at the operation, while the map is ranged over or not. -/
theorem wpList_delete_imap {P : Program} (w : World) {ops : Array Oper} {rest : List Oper} {o : Oper} {a : Act} {Q : Exit → Act → World → Prop}
    (hg : o.guard = none) (m x : Operand) (t k : TypeId) (hop : o.op = Op.call { callee := Callee.builtin Builtin.delete, args := #[m, x], argTypes := #[t, k] })
    (kt et : TypeId) (q : IntKind) (ht : P.underlying t = some (.map kt et)) (hk : P.underlying kt = some (.int q)) (b : Nat) (f : Int → Option Value)
    (hm : a.eval m = .map (some b)) (hown : IMapAt q w b f) (n : Int) (hx : a.eval x = .int q n)
    (hK : ∀ w', Hid (Chg [b] w w') → Hid (w'.heap.size = w.heap.size) → (∀ b' i, b' ≠ b → w'.cell? ⟨b', i, none⟩ = w.cell? ⟨b', i, none⟩) → (∀ b' i, b' ≠ b → w'.frozen? ⟨b', i, none⟩ = w.frozen? ⟨b', i, none⟩) → Hid (IMapAt q w' b (fun k => if k = n then none else f k)) → Hid (∀ r left, Ranging q w r b f left (some n) → ¬ left n → Ranging q w' r b (fun k => if k = n then none else f k) left none ∧ w'.rangeLeft b r ≤ w.rangeLeft b r) → wpList P ops Q rest (a.put o.dst (.tuple #[])) w') :
    wpList P ops Q (o :: rest) a w := by
  refine wpList_plain hg fun K' hK' => ?_
  obtain ⟨w', hrun, r1, r2, r3, r4⟩ := run_delete_int (P := P) ht hk hown n k o.type
  unfold Oper.wp
  simp [execOp, hop, resolve, invoke, builtin, hm, hx, Sem.run_bind, hrun, Result.andThen, Sem.run_pure, List.map_toArray]
  exact hK' _ _ (hK w' r1 r2 (r1.cells r2).1 (r1.cells r2).2 r3 r4)

end Go.Proofs.YtobmnnihmbdfjaaGreat

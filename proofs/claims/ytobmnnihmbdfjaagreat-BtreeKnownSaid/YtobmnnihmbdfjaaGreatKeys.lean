/- Keys in order: where a key stands among cells; btree.at and btree.to. -/
import Derived.Test.YtobmnnihmbdfjaaGreatNode3
import Derived.Test.YtobmnnihmbdfjaaGreatSearch
import Derived.Sort.Walk0
set_option linter.all false
namespace Go.Proofs.YtobmnnihmbdfjaaGreat
open Go.RowKit

abbrev ltB (a b : List UInt8) : Bool := Op.bytesLess a b
theorem ltB_eq (a b : List UInt8) : ltB a b = decide (a < b) := bytesLess_eq a b
theorem ltB_irr (a : List UInt8) : ltB a a = false := by rw [ltB_eq]; simp
theorem ltB_trans {a b c : List UInt8} (h : ltB a b = true) (k : ltB b c = true) : ltB a c = true := by
  rw [ltB_eq] at *; simp only [decide_eq_true_eq] at *; exact List.lt_trans h k
theorem ltB_asymm {a b : List UInt8} (h : ltB a b = true) : ltB b a = false := by
  cases k : ltB b a with
  | false => rfl
  | true => have := ltB_trans h k; rw [ltB_irr] at this; cases this
theorem ltB_total {a b : List UInt8} (h : ltB a b = false) (k : ltB b a = false) : a = b := by
  rw [ltB_eq] at *
  simp only [decide_eq_false_iff_not, List.not_lt] at *
  exact List.le_antisymm k h
/-- a ≤ b < c. -/
theorem ltB_le_lt {a b c : List UInt8} (h : ltB b a = false) (k : ltB b c = true) : ltB a c = true := by
  cases k2 : ltB a b with
  | true => exact ltB_trans k2 k
  | false => rw [ltB_total k2 h]; exact k
theorem ltB_lt_le {a b c : List UInt8} (h : ltB a b = true) (k : ltB c b = false) : ltB a c = true := by
  cases k2 : ltB b c with
  | true => exact ltB_trans h k2
  | false => rw [← ltB_total k2 k]; exact h

/-- Cells whose keys rise. -/
def SortedC (l : List CellM) : Prop := l.Pairwise fun a b => ltB a.key b.key = true

def keyAt (l : List CellM) (i : Nat) : List UInt8 := ((l[i]?).map CellM.key).getD []
def atN (l : List CellM) (key : List UInt8) : Nat := (l.takeWhile fun c => ltB c.key key).length
def toN (l : List CellM) (key : List UInt8) : Nat := (l.takeWhile fun c => !ltB key c.key).length
def isN (l : List CellM) (key : List UInt8) : Bool := decide (atN l key < l.length) && keyAt l (atN l key) == key

theorem keyAt_some {l : List CellM} {i : Nat} {c : CellM} (h : l[i]? = some c) : keyAt l i = c.key := by simp [keyAt, h]

theorem takeWhile_at {f : CellM → Bool} : ∀ (l : List CellM) (k : Nat), k ≤ l.length → (∀ t c, t < k → l[t]? = some c → f c = true) → (∀ c, l[k]? = some c → f c = false) → (l.takeWhile f).length = k
  | [], k, hk, _, _ => by simp at hk; simp [hk]
  | c :: l, 0, _, _, h2 => by
    have := h2 c rfl
    simp [this]
  | c :: l, k + 1, hk, h1, h2 => by
    have h0 := h1 0 c (by omega) rfl
    simp only [List.takeWhile_cons, h0, if_true, List.length_cons]
    rw [takeWhile_at l k (by simpa using hk) (fun t d ht hd => h1 (t + 1) d (by omega) hd) (fun d hd => h2 d hd)]

theorem sorted_lt {l : List CellM} (h : SortedC l) {i j : Nat} {a b : CellM} (hij : i < j) (ha : l[i]? = some a) (hb : l[j]? = some b) : ltB a.key b.key = true := by
  obtain ⟨hi, rfl⟩ := List.getElem?_eq_some_iff.1 ha
  obtain ⟨hj, rfl⟩ := List.getElem?_eq_some_iff.1 hb
  exact List.pairwise_iff_getElem.1 h i j hi hj hij

theorem atN_le (l : List CellM) (key : List UInt8) : atN l key ≤ l.length := (List.takeWhile_sublist _).length_le
theorem toN_le (l : List CellM) (key : List UInt8) : toN l key ≤ l.length := (List.takeWhile_sublist _).length_le

/-- The box of a node. -/
abbrev nodeO (x : NodeM) (v : Value) : Obj := .cells #[.int .u8 x.kind, .int .i64 x.first, v, vs x.data] 150

theorem belowDrewN (w : World) (n : Nat) : Below w.heap.size w (w.drewN n) := ⟨rfl, rfl, rfl, Nat.le_refl _, fun _ _ => rfl⟩
theorem belowDrew (w : World) : Below w.heap.size w w.drew := ⟨rfl, rfl, rfl, Nat.le_refl _, fun _ _ => rfl⟩

set_option maxRecDepth 100000 in
set_option maxHeartbeats 1000000 in
theorem at1 (x : NodeM) (v : Value) (key : List UInt8) (bx bk : Nat) (W : World) (hx : W.heap[bx]? = some (nodeO x v)) (hk : W.heap[bk]? = some (.cells #[vs key] 9)) (hs : CellsAt W v x.cells) (hn : x.cells.length ≤ 100000) (i : Nat) (hi : i < x.cells.length) :
    Calls Tryz.prog 142 #[.int .i64 i, ptr bx, ptr bk] W fun e W' => e = .returned (.bool (!ltB (keyAt x.cells i) key)) ∧ Below W.heap.size W W' := by
  rcases hs with ⟨-, h0⟩ | ⟨b, off, cap, rfl, hlt, hc⟩
  · rw [h0] at hi; simp at hi
  obtain ⟨c, hci⟩ : ∃ c, x.cells[i]? = some c := ⟨_, List.getElem?_eq_getElem hi⟩
  have c2 := cellAt hx 2
  have ck := cellAt hk 0
  obtain ⟨k0, -, -, -⟩ := hc i c hci
  rw [keyAt_some hci]
  clear hc hci hx hk
  have i0 : (0 : Int) ≤ (i : Int) := by omega
  have i1 : (i : Int) < (x.cells.length : Int) := by omega
  go_enter Tryz.func142, Tryz.ntmps142
  go_wp2_with fail
  go_quiet (fail)
  go_wp2
  go_ret
  exact ⟨rfl, belowDrewN _ _⟩

set_option maxRecDepth 100000 in
set_option maxHeartbeats 1000000 in
theorem to1 (x : NodeM) (v : Value) (key : List UInt8) (bx bk : Nat) (W : World) (hx : W.heap[bx]? = some (nodeO x v)) (hk : W.heap[bk]? = some (.cells #[vs key] 9)) (hs : CellsAt W v x.cells) (hn : x.cells.length ≤ 100000) (i : Nat) (hi : i < x.cells.length) :
    Calls Tryz.prog 191 #[.int .i64 i, ptr bx, ptr bk] W fun e W' => e = .returned (.bool (!ltB (keyAt x.cells i) key && !(keyAt x.cells i == key))) ∧ Below W.heap.size W W' := by
  rcases hs with ⟨-, h0⟩ | ⟨b, off, cap, rfl, hlt, hc⟩
  · rw [h0] at hi; simp at hi
  obtain ⟨c, hci⟩ : ∃ c, x.cells[i]? = some c := ⟨_, List.getElem?_eq_getElem hi⟩
  have c2 := cellAt hx 2
  have ck := cellAt hk 0
  obtain ⟨k0, -, -, -⟩ := hc i c hci
  rw [keyAt_some hci]
  clear hc hci hx hk
  have i0 : (0 : Int) ≤ (i : Int) := by omega
  have i1 : (i : Int) < (x.cells.length : Int) := by omega
  go_enter Tryz.func191, Tryz.ntmps191
  go_wp2_with fail
  go_quiet (fail)
  go_wp2
  go_ret
  exact ⟨rfl, belowDrewN _ _⟩

/-- Keys that lie so far on are not below. -/
theorem at_mono {l : List CellM} (h : SortedC l) (key : List UInt8) : ∀ a b, a ≤ b → b < l.length → (!ltB (keyAt l a) key) = true → (!ltB (keyAt l b) key) = true := by
  intro a b hab hb ha
  obtain ⟨cb, hcb⟩ : ∃ c, l[b]? = some c := ⟨_, List.getElem?_eq_getElem hb⟩
  obtain ⟨ca, hca⟩ : ∃ c, l[a]? = some c := ⟨_, List.getElem?_eq_getElem (by omega)⟩
  rw [keyAt_some hca] at ha
  rw [keyAt_some hcb]
  rcases Nat.lt_or_ge a b with c | c
  · have h1 := sorted_lt h c hca hcb
    cases h2 : ltB cb.key key with
    | false => rfl
    | true => rw [ltB_trans h1 h2] at ha; exact ha
  · obtain rfl : a = b := by omega
    rw [hca] at hcb; cases hcb; exact ha
theorem to_mono {l : List CellM} (h : SortedC l) (key : List UInt8) : ∀ a b, a ≤ b → b < l.length → (!ltB (keyAt l a) key && !(keyAt l a == key)) = true → (!ltB (keyAt l b) key && !(keyAt l b == key)) = true := by
  intro a b hab hb ha
  obtain ⟨cb, hcb⟩ : ∃ c, l[b]? = some c := ⟨_, List.getElem?_eq_getElem hb⟩
  obtain ⟨ca, hca⟩ : ∃ c, l[a]? = some c := ⟨_, List.getElem?_eq_getElem (by omega)⟩
  rw [keyAt_some hca] at ha
  rw [keyAt_some hcb]
  rcases Nat.lt_or_ge a b with c | c
  · have h1 := sorted_lt h c hca hcb
    simp only [Bool.and_eq_true, Bool.not_eq_true', beq_eq_false_iff_ne] at ha ⊢
    refine ⟨?_, fun e => ?_⟩
    · cases h2 : ltB cb.key key with
      | false => rfl
      | true => rw [ltB_trans h1 h2] at ha; exact absurd ha.1 (by simp)
    · rw [e] at h1; rw [h1] at ha; exact absurd ha.1 (by simp)
  · obtain rfl : a = b := by omega
    rw [hca] at hcb; cases hcb; exact ha
theorem atN_of {l : List CellM} {key : List UInt8} {k : Nat} (h : k ≤ l.length ∧ (∀ t, t < k → (!ltB (keyAt l t) key) = false) ∧ (∀ t, k ≤ t → t < l.length → (!ltB (keyAt l t) key) = true)) : k = atN l key := by
  refine (takeWhile_at l k h.1 (fun t c ht hc => ?_) (fun c hc => ?_)).symm
  · have := h.2.1 t ht; rw [keyAt_some hc] at this; simpa using this
  · have := h.2.2 k (Nat.le_refl _) (List.getElem?_eq_some_iff.1 hc).1; rw [keyAt_some hc] at this; simpa using this
theorem toN_of {l : List CellM} {key : List UInt8} {k : Nat} (h : k ≤ l.length ∧ (∀ t, t < k → (!ltB (keyAt l t) key && !(keyAt l t == key)) = false) ∧ (∀ t, k ≤ t → t < l.length → (!ltB (keyAt l t) key && !(keyAt l t == key)) = true)) : k = toN l key := by
  refine (takeWhile_at l k h.1 (fun t c ht hc => ?_) (fun c hc => ?_)).symm
  · have := h.2.1 t ht
    rw [keyAt_some hc] at this
    simp only [Bool.and_eq_false_iff, Bool.not_eq_false', beq_iff_eq] at this
    rcases this with h1 | h1
    · simp [ltB_asymm h1]
    · simp [h1, ltB_irr]
  · have := h.2.2 k (Nat.le_refl _) (List.getElem?_eq_some_iff.1 hc).1
    rw [keyAt_some hc] at this
    simp only [Bool.and_eq_true, Bool.not_eq_true', beq_eq_false_iff_ne] at this
    cases h1 : ltB key c.key with
    | true => rfl
    | false => exact absurd (ltB_total this.1 h1) this.2

set_option maxRecDepth 100000 in
set_option maxHeartbeats 2000000 in
theorem to_any (x : NodeM) (v : Value) (key : List UInt8) (w : World) (hs : CellsAt w v x.cells) (hn : x.cells.length ≤ 100000) (hso : SortedC x.cells) :
    Calls Tryz.prog 147 #[nodeV x v, vs key] w fun e w' => e = .returned (.int .i64 (toN x.cells key)) ∧ Below w.heap.size w w' := by
  obtain ⟨a, cap, rfl⟩ := hs.slice
  have HS := Lib.hid hs
  have HN := Lib.hid hn
  have HO := Lib.hid hso
  clear hs hso
  go_enter Tryz.func147, Tryz.ntmps147
  go_wp2_with fail
  have HX : Hid (((w.alloc (nodeO x (.slice a x.cells.length cap))).alloc (.cells #[vs key] 9)).heap[w.heap.size]? = some (nodeO x (.slice a x.cells.length cap))) := Lib.hid (heapOld (heap_alloc_new w _) _)
  have HK : Hid (((w.alloc (nodeO x (.slice a x.cells.length cap))).alloc (.cells #[vs key] 9)).heap[w.heap.size + 1]? = some (.cells #[vs key] 9)) := Lib.hid (heapNew (by simp) _)
  have HB : Hid (Below w.heap.size w ((w.alloc (nodeO x (.slice a x.cells.length cap))).alloc (.cells #[vs key] 9))) := Lib.hid (((Below.refl _ _).alloc (Nat.le_refl _) _).alloc (by simp) _)
  generalize ((w.alloc (nodeO x (.slice a x.cells.length cap))).alloc (.cells #[vs key] 9)) = w0 at *
  go_at_call 141; refine (search_any 191 #[ptr w.heap.size, ptr (w.heap.size + 1)] x.cells.length (fun i => !ltB (keyAt x.cells i) key && !(keyAt x.cells i == key)) w0 (enters_of Tryz.func191 (by kernel_rfl) rfl) (by omega) (fun W i hb hi => to1 x _ key _ _ W (Below.get hb HX.out) (Below.get hb HK.out) ((HS.out.below HB.out).below hb) HN.out i hi) (to_mono HO.out key)).mono ?_; rintro e w1 ⟨k, hk, rfl, hb⟩
  obtain rfl := toN_of hk
  have HB1 := Lib.hid (belowThen HB.out hb)
  clear hk hb
  go_wp2
  go_ret
  exact ⟨rfl, HB1.out⟩

set_option maxRecDepth 100000 in
set_option maxHeartbeats 2000000 in
theorem at_any (x : NodeM) (v : Value) (key : List UInt8) (w : World) (hs : CellsAt w v x.cells) (hn : x.cells.length ≤ 100000) (hso : SortedC x.cells) :
    Calls Tryz.prog 71 #[nodeV x v, vs key] w fun e w' => e = .returned (.tuple #[.int .i64 (atN x.cells key), .bool (isN x.cells key)]) ∧ Below w.heap.size w w' := by
  obtain ⟨a, cap, rfl⟩ := hs.slice
  have HS := Lib.hid hs
  have HN := Lib.hid hn
  have HO := Lib.hid hso
  clear hs hso
  go_enter Tryz.func71, Tryz.ntmps71
  go_wp2_with fail
  have HX : Hid (((w.alloc (nodeO x (.slice a x.cells.length cap))).alloc (.cells #[vs key] 9)).heap[w.heap.size]? = some (nodeO x (.slice a x.cells.length cap))) := Lib.hid (heapOld (heap_alloc_new w _) _)
  have HK : Hid (((w.alloc (nodeO x (.slice a x.cells.length cap))).alloc (.cells #[vs key] 9)).heap[w.heap.size + 1]? = some (.cells #[vs key] 9)) := Lib.hid (heapNew (by simp) _)
  have HB : Hid (Below w.heap.size w ((w.alloc (nodeO x (.slice a x.cells.length cap))).alloc (.cells #[vs key] 9))) := Lib.hid (((Below.refl _ _).alloc (Nat.le_refl _) _).alloc (by simp) _)
  generalize ((w.alloc (nodeO x (.slice a x.cells.length cap))).alloc (.cells #[vs key] 9)) = w0 at *
  go_at_call 141; refine (search_any 142 #[ptr w.heap.size, ptr (w.heap.size + 1)] x.cells.length (fun i => !ltB (keyAt x.cells i) key) w0 (enters_of Tryz.func142 (by kernel_rfl) rfl) (by omega) (fun W i hb hi => at1 x _ key _ _ W (Below.get hb HX.out) (Below.get hb HK.out) ((HS.out.below HB.out).below hb) HN.out i hi) (at_mono HO.out key)).mono ?_; rintro e w1 ⟨k, hk, rfl, hb⟩
  have HKE := Lib.hid (atN_of hk)
  have HB1 := Lib.hid (belowThen HB.out hb)
  have HX1 := Below.get hb HX.out
  have HK1 := Below.get hb HK.out
  have hs1 := (HS.out.below HB.out).below hb
  have c2 := cellAt HX1 2
  have ck := cellAt HK1 0
  clear hk hb HX1 HK1
  have hle : k ≤ x.cells.length := by rw [HKE.out]; exact atN_le x.cells key
  have HI : Hid (isN x.cells key = (decide (k < x.cells.length) && keyAt x.cells k == key)) := Lib.hid (by rw [HKE.out]; rfl)
  by_cases hlt : k < x.cells.length
  · rcases hs1 with ⟨-, h0⟩ | ⟨b, off, cap', hv, hbl, hc⟩
    · rw [h0] at hlt; simp at hlt
    cases hv
    obtain ⟨c, hci⟩ : ∃ c, x.cells[k]? = some c := ⟨_, List.getElem?_eq_getElem hlt⟩
    obtain ⟨k0, -, -, -⟩ := hc k c hci
    have HI2 : Hid (isN x.cells key = (c.key == key)) := Lib.hid (by rw [HI.out, keyAt_some hci]; simp [hlt])
    clear hc hci
    have i0 : (0 : Int) ≤ (k : Int) := by omega
    have i1 : (k : Int) < (x.cells.length : Int) := by omega
    have i2 : decide (k < x.cells.length) = true := by simpa using hlt
    go_wp2_with fail
    go_quiet (fail)
    go_wp2
    go_ret2
    exact ⟨by rw [HI2.out, ← HKE.out]; rfl, belowThen HB1.out (belowDrewN _ _)⟩
  · have i2 : decide (k < x.cells.length) = false := by simpa using hlt
    have HI2 : Hid (isN x.cells key = false) := Lib.hid (by rw [HI.out, i2]; rfl)
    have i1 : decide ((k : Int) < (x.cells.length : Int)) = false := by simp; omega
    clear hs1
    go_wp2_with fail
    go_quiet (fail)
    go_wp2
    go_ret2
    exact ⟨by rw [HI2.out, ← HKE.out]; rfl, belowThen HB1.out (belowDrewN _ _)⟩

end Go.Proofs.YtobmnnihmbdfjaaGreat

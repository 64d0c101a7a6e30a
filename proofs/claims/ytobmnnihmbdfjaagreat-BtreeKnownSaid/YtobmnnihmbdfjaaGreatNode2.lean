/- Pages of trees: node.may. -/
import Derived.Test.YtobmnnihmbdfjaaGreatNode1
set_option linter.all false
namespace Go.Proofs.YtobmnnihmbdfjaaGreat
open Go.RowKit

def leB (a b : List UInt8) : Bool := Op.bytesLess a b || a == b
/-- What is asked of the cell at a place. -/
def okAt (kind : Int) (l : List CellM) (i : Nat) : Bool :=
  match l[i]? with
  | none => true
  | some c => cellB kind c && (match i with | 0 => true | j + 1 => match l[j]? with | none => true | some p => !leB c.key p.key)
def cellsB (kind : Int) (l : List CellM) : Bool := (List.range l.length).all (okAt kind l)
def mayN (x : NodeM) : Bool :=
  if x.kind = 1 then (x.first == 0) && (x.data == []) && cellsB 1 x.cells
  else if x.kind = 2 then pageN x.first 1 && (x.data == []) && !(x.cells == []) && cellsB 2 x.cells
  else if x.kind = 3 then pageN x.first 0 && decide (1 ≤ x.data.length) && decide (x.data.length ≤ 505) && (x.cells == [])
  else if x.kind = 4 then pageN x.first 0 && (x.data == []) && (x.cells == [])
  else false

/-- A slice of cells in memory. -/
def CellsAt (w : World) (v : Value) (l : List CellM) : Prop :=
  (v = .slice none 0 0 ∧ l = []) ∨ ∃ b off cap, v = .slice (some ⟨b, off, none⟩) l.length cap ∧ b < w.heap.size ∧ ∀ i c, l[i]? = some c →
    w.cell? ⟨b, off + i * 4, none⟩ = some (vs c.key) ∧ w.cell? ⟨b, off + i * 4 + 1, none⟩ = some (.int .i64 c.size) ∧ w.cell? ⟨b, off + i * 4 + 2, none⟩ = some (vs c.loc) ∧ w.cell? ⟨b, off + i * 4 + 3, none⟩ = some (.int .i64 c.page)

theorem CellsAt.below {w w' : World} {v : Value} {l : List CellM} (h : CellsAt w v l) (hb : Below w.heap.size w w') : CellsAt w' v l := by
  rcases h with h | ⟨b, off, cap, hv, hlt, hc⟩
  · exact .inl h
  · exact .inr ⟨b, off, cap, hv, Nat.lt_of_lt_of_le hlt hb.size, fun i c hi => by
      obtain ⟨a1, a2, a3, a4⟩ := hc i c hi
      exact ⟨cell_later hb a1, cell_later hb a2, cell_later hb a3, cell_later hb a4⟩⟩

abbrev nodeV (x : NodeM) (sl : Value) : Value := .agg #[.int .u8 x.kind, .int .i64 x.first, sl, vs x.data]

theorem cellsB_bad {k : Int} {l : List CellM} {i : Nat} {c : CellM} (hc : l[i]? = some c) (h : cellB k c = false ∨ ∃ j p, i = j + 1 ∧ l[j]? = some p ∧ leB c.key p.key = true) : cellsB k l = false := by
  have hlt : i < l.length := (List.getElem?_eq_some_iff.1 hc).1
  have hok : okAt k l i = false := by
    rcases h with h | ⟨j, p, rfl, hp, hle⟩
    · simp [okAt, hc, h]
    · simp [okAt, hc, hp, hle]
  rw [cellsB, List.all_eq_false]
  exact ⟨i, by simpa using hlt, by simp [hok]⟩

set_option maxRecDepth 100000 in
set_option maxHeartbeats 4000000 in
theorem may_leaf_some (l : List CellM) (b off cap : Nat) (w : World) (hs : CellsAt w (.slice (some ⟨b, off, none⟩) l.length cap) l) (hn : l.length ≤ 100000) (hz : ∀ c ∈ l, c.key.length ≤ 1000000 ∧ c.loc.length ≤ 1000000) :
    Calls Tryz.prog 183 #[nodeV ⟨1, 0, l, []⟩ (.slice (some ⟨b, off, none⟩) l.length cap)] w fun e w' => e = .returned (.bool (cellsB 1 l)) ∧ Below w.heap.size w w' := by
  have HS := Lib.hid hs
  have HZ := Lib.hid hz
  clear hs hz
  go_enter Tryz.func183, Tryz.ntmps183
  go_wp2_with fail
  go_loopw [76] (fun i wr => ∃ j : Nat, i = .int .i64 j ∧ j ≤ l.length ∧ Below w.heap.size w wr ∧ wr.heap[w.heap.size]? = some (.cells #[.int .u8 1, .int .i64 0, .slice (some ⟨b, off, none⟩) l.length cap, vs []] 150) ∧ ∀ m, m < j → okAt 1 l m = true)
    (fun i _ => l.length - (intOf i).toNat)
  case atStart => exact ⟨0, rfl, Nat.zero_le _, (Below.refl _ _).alloc (Nat.le_refl _) _, heap_alloc_new w _, fun m hm => by omega⟩
  case round =>
    obtain ⟨j, rfl, hj, hb, hbox, hok⟩ := hrel
    have c0 : wr.cell? ⟨w.heap.size, 0, none⟩ = some (.int .u8 1) := cellAt hbox 0
    have c2 : wr.cell? ⟨w.heap.size, 2, none⟩ = some (.slice (some ⟨b, off, none⟩) l.length cap) := cellAt hbox 2
    have HB := Lib.hid hb
    have HX := Lib.hid hbox
    have HO := Lib.hid hok
    clear hb hbox hok
    by_cases hlt : j < l.length
    · have HLT := Lib.hid hlt
      obtain ⟨c, hc⟩ : ∃ c, l[j]? = some c := ⟨_, List.getElem?_eq_getElem hlt⟩
      rcases (HS.out.below HB.out) with ⟨hv, -⟩ | ⟨b', off', cap', hv, hlb, hcs⟩
      · simp at hv
      simp only [Value.slice.injEq, Option.some.injEq, Addr.mk.injEq, and_true] at hv
      obtain ⟨⟨rfl, rfl⟩, -, rfl⟩ := hv
      obtain ⟨e0, e1, e2, e3⟩ := hcs j c hc
      have HCJ := Lib.hid hc
      have HCS := Lib.hid hcs
      clear hc hcs
      go_wp2_with fail
      have z0 : (wr.alloc (.cells #[vs c.key, .int .i64 c.size, vs c.loc, .int .i64 c.page] 144)).cell? ⟨wr.heap.size, 0, none⟩ = some (vs c.key) := cellAt (heap_alloc_new wr _) 0
      have z1 : (wr.alloc (.cells #[vs c.key, .int .i64 c.size, vs c.loc, .int .i64 c.page] 144)).cell? ⟨wr.heap.size, 1, none⟩ = some (.int .i64 c.size) := cellAt (heap_alloc_new wr _) 1
      have z2 : (wr.alloc (.cells #[vs c.key, .int .i64 c.size, vs c.loc, .int .i64 c.page] 144)).cell? ⟨wr.heap.size, 2, none⟩ = some (vs c.loc) := cellAt (heap_alloc_new wr _) 2
      have z3 : (wr.alloc (.cells #[vs c.key, .int .i64 c.size, vs c.loc, .int .i64 c.page] 144)).cell? ⟨wr.heap.size, 3, none⟩ = some (.int .i64 c.page) := cellAt (heap_alloc_new wr _) 3
      have hA := (Below.refl wr.heap.size wr).alloc (Nat.le_refl _) (.cells #[vs c.key, .int .i64 c.size, vs c.loc, .int .i64 c.page] 144)
      have z4 := cell_later hA c0
      have z5 := cell_later hA c2
      have HA := Lib.hid hA
      clear hA
      have hzc := HZ.out c (List.mem_of_getElem? HCJ.out)
      have CB := cell_any 1 c hzc.1 hzc.2
      have CSA : Hid (∀ i p, l[i]? = some p → (wr.alloc (.cells #[vs c.key, .int .i64 c.size, vs c.loc, .int .i64 c.page] 144)).cell? ⟨b, off + i * 4, none⟩ = some (vs p.key)) := fun i p hp => cell_later HA.out (HCS.out i p hp).1
      have HXA : Hid ((wr.alloc (.cells #[vs c.key, .int .i64 c.size, vs c.loc, .int .i64 c.page] 144)).heap[w.heap.size]? = some (.cells #[.int .u8 1, .int .i64 0, .slice (some ⟨b, off, none⟩) l.length cap, vs []] 150)) := heapOld HX.out _
      generalize (wr.alloc (.cells #[vs c.key, .int .i64 c.size, vs c.loc, .int .i64 c.page] 144)) = wa at *
      clear e0 e1 e2 e3 c0 c2 hzc
      cases hcb : cellB 1 c with
      | false =>
        have CB := Lib.hid (hcb ▸ CB)
        have HCB := Lib.hid hcb
        clear hcb
        refine wp_region_class (fun w' => Below wa.heap.size wa w' ∧ w'.cell? ⟨w.heap.size, 0, none⟩ = some (.int .u8 1) ∧ w'.cell? ⟨w.heap.size, 2, none⟩ = some (.slice (some ⟨b, off, none⟩) l.length cap) ∧ w'.cell? ⟨wr.heap.size, 0, none⟩ = some (vs c.key) ∧ w'.cell? ⟨wr.heap.size, 1, none⟩ = some (.int .i64 c.size) ∧ w'.cell? ⟨wr.heap.size, 2, none⟩ = some (vs c.loc) ∧ w'.cell? ⟨wr.heap.size, 3, none⟩ = some (.int .i64 c.page)) ⟨(Below.refl _ _).drew, z4, z5, z0, z1, z2, z3⟩ (by kernel_rfl) (by kernel_rfl) ?_
        repeat (first | go_big_quiet_skip | (go_big_quiet_want; go_big_quiet_op; first | go_big_quiet_on | (apply Exists.intro; refine ⟨?_, ?_⟩; (first | (intros; with_reducible rfl) | (intro W q0 q1 q2 q3 q4 q5 q6; go_at_call 239; refine (CB.out _).mono ?_; rintro e w2 ⟨rfl, hb2⟩; exact ⟨rfl, kp6 ⟨q0, q1, q2, q3, q4, q5, q6⟩ hb2⟩) | (intros; go_simp; first | done | with_reducible rfl)); go_big_quiet_on)))
        refine wpQuiet_nil ?_
        intro w3 hw3
        have HB3 := Lib.hid hw3.1
        clear hw3
        go_wp2
        go_ret
        refine ⟨?_, belowThen HB.out (belowThen HA.out HB3.out)⟩
        rw [cellsB_bad (i := j) (l := l) HCJ.out (.inl HCB.out)]; rfl
      | true =>
        have CB := Lib.hid (hcb ▸ CB)
        have HCB := Lib.hid hcb
        clear hcb
        rcases Nat.eq_zero_or_pos j with hj0 | hj0
        · subst hj0
          refine wp_region_class (fun w' => Below wa.heap.size wa w' ∧ w'.cell? ⟨w.heap.size, 0, none⟩ = some (.int .u8 1) ∧ w'.cell? ⟨w.heap.size, 2, none⟩ = some (.slice (some ⟨b, off, none⟩) l.length cap) ∧ w'.cell? ⟨wr.heap.size, 0, none⟩ = some (vs c.key) ∧ w'.cell? ⟨wr.heap.size, 1, none⟩ = some (.int .i64 c.size) ∧ w'.cell? ⟨wr.heap.size, 2, none⟩ = some (vs c.loc) ∧ w'.cell? ⟨wr.heap.size, 3, none⟩ = some (.int .i64 c.page)) ⟨(Below.refl _ _).drew, z4, z5, z0, z1, z2, z3⟩ (by kernel_rfl) (by kernel_rfl) ?_
          repeat (first | go_big_quiet_skip | (go_big_quiet_want; go_big_quiet_op; first | go_big_quiet_on | (apply Exists.intro; refine ⟨?_, ?_⟩; (first | (intros; with_reducible rfl) | (intro W q0 q1 q2 q3 q4 q5 q6; go_at_call 239; refine (CB.out _).mono ?_; rintro e w2 ⟨rfl, hb2⟩; exact ⟨rfl, kp6 ⟨q0, q1, q2, q3, q4, q5, q6⟩ hb2⟩) | (intros; go_simp; first | done | with_reducible rfl)); go_big_quiet_on)))
          refine wpQuiet_nil ?_
          intro w3 hw3
          have HB3 := Lib.hid hw3.1
          clear hw3
          go_wp2
          go_roundw
          case rel => exact ⟨1, rfl, by omega, belowThen HB.out (belowThen HA.out HB3.out), Below.get HB3.out HXA.out, fun m hm => by
            obtain rfl : m = 0 := by omega
            simp [okAt, HCJ.out, HCB.out]⟩
          case measure => have h9 := HLT.out; simp only [intOf]; omega
        · obtain ⟨i, rfl⟩ : ∃ i, j = i + 1 := ⟨j - 1, by omega⟩
          obtain ⟨p, hp⟩ : ∃ p, l[i]? = some p := ⟨_, List.getElem?_eq_getElem (by omega)⟩
          have z6 := CSA.out i p hp
          have HP := Lib.hid hp
          clear hp
          by_cases hle : leB c.key p.key = true
          · have hle' : (Op.bytesLess c.key p.key || c.key == p.key) = true := hle
            have HLE := Lib.hid hle
            clear hle
            refine wp_region_class (fun w' => Below wa.heap.size wa w' ∧ w'.cell? ⟨w.heap.size, 0, none⟩ = some (.int .u8 1) ∧ w'.cell? ⟨w.heap.size, 2, none⟩ = some (.slice (some ⟨b, off, none⟩) l.length cap) ∧ w'.cell? ⟨wr.heap.size, 0, none⟩ = some (vs c.key) ∧ w'.cell? ⟨wr.heap.size, 1, none⟩ = some (.int .i64 c.size) ∧ w'.cell? ⟨wr.heap.size, 2, none⟩ = some (vs c.loc) ∧ w'.cell? ⟨wr.heap.size, 3, none⟩ = some (.int .i64 c.page) ∧ w'.cell? ⟨b, off + i * 4, none⟩ = some (vs p.key)) ⟨(Below.refl _ _).drew, z4, z5, z0, z1, z2, z3, z6⟩ (by kernel_rfl) (by kernel_rfl) ?_
            repeat (first | go_big_quiet_skip | (go_big_quiet_want; go_big_quiet_op; first | go_big_quiet_on | (apply Exists.intro; refine ⟨?_, ?_⟩; (first | (intros; with_reducible rfl) | (intro W q0 q1 q2 q3 q4 q5 q6 q7; go_at_call 239; refine (CB.out _).mono ?_; rintro e w2 ⟨rfl, hb2⟩; exact ⟨rfl, kp7 ⟨q0, q1, q2, q3, q4, q5, q6, q7⟩ hb2⟩) | (intros; go_simp; first | done | with_reducible rfl)); go_big_quiet_on)))
            refine wpQuiet_nil ?_
            intro w3 hw3
            have HB3 := Lib.hid hw3.1
            clear hw3
            go_wp2
            go_ret
            refine ⟨?_, belowThen HB.out (belowThen HA.out HB3.out)⟩
            rw [cellsB_bad (i := i + 1) (l := l) HCJ.out (.inr ⟨i, p, rfl, HP.out, HLE.out⟩)]; rfl
          · have hle' : (Op.bytesLess c.key p.key || c.key == p.key) = false := by simpa [leB] using hle
            have HLE := Lib.hid (show leB c.key p.key = false by simpa using hle)
            clear hle
            refine wp_region_class (fun w' => Below wa.heap.size wa w' ∧ w'.cell? ⟨w.heap.size, 0, none⟩ = some (.int .u8 1) ∧ w'.cell? ⟨w.heap.size, 2, none⟩ = some (.slice (some ⟨b, off, none⟩) l.length cap) ∧ w'.cell? ⟨wr.heap.size, 0, none⟩ = some (vs c.key) ∧ w'.cell? ⟨wr.heap.size, 1, none⟩ = some (.int .i64 c.size) ∧ w'.cell? ⟨wr.heap.size, 2, none⟩ = some (vs c.loc) ∧ w'.cell? ⟨wr.heap.size, 3, none⟩ = some (.int .i64 c.page) ∧ w'.cell? ⟨b, off + i * 4, none⟩ = some (vs p.key)) ⟨(Below.refl _ _).drew, z4, z5, z0, z1, z2, z3, z6⟩ (by kernel_rfl) (by kernel_rfl) ?_
            repeat (first | go_big_quiet_skip | (go_big_quiet_want; go_big_quiet_op; first | go_big_quiet_on | (apply Exists.intro; refine ⟨?_, ?_⟩; (first | (intros; with_reducible rfl) | (intro W q0 q1 q2 q3 q4 q5 q6 q7; go_at_call 239; refine (CB.out _).mono ?_; rintro e w2 ⟨rfl, hb2⟩; exact ⟨rfl, kp7 ⟨q0, q1, q2, q3, q4, q5, q6, q7⟩ hb2⟩) | (intros; go_simp; first | done | with_reducible rfl)); go_big_quiet_on)))
            refine wpQuiet_nil ?_
            intro w3 hw3
            have HB3 := Lib.hid hw3.1
            clear hw3
            go_wp2
            go_roundw
            case rel => exact ⟨i + 2, by go_num, by have := HLT.out; omega, belowThen HB.out (belowThen HA.out HB3.out), Below.get HB3.out HXA.out, fun m hm => by
              rcases Nat.lt_or_ge m (i + 1) with hmi | hmi
              · exact HO.out m hmi
              · obtain rfl : m = i + 1 := by omega
                simp [okAt, HCJ.out, HCB.out, HP.out, HLE.out]⟩
            case measure => have h9 := HLT.out; simp only [intOf]; omega
    · have hjl : j = l.length := by omega
      subst hjl
      have hall : cellsB 1 l = true := by
        simp only [cellsB, List.all_eq_true, List.mem_range]; exact HO.out
      have HALL := Lib.hid hall
      clear hall
      go_wp2
      go_ret
      exact ⟨by rw [HALL.out]; rfl, HB.out⟩

set_option maxRecDepth 100000 in
set_option maxHeartbeats 4000000 in
theorem may_inner_some (first : Int) (hp : pageN first 1 = true) (l : List CellM) (b off cap : Nat) (hl0 : 0 < l.length) (w : World) (hs : CellsAt w (.slice (some ⟨b, off, none⟩) l.length cap) l) (hn : l.length ≤ 100000) (hz : ∀ c ∈ l, c.key.length ≤ 1000000 ∧ c.loc.length ≤ 1000000) :
    Calls Tryz.prog 183 #[nodeV ⟨2, first, l, []⟩ (.slice (some ⟨b, off, none⟩) l.length cap)] w fun e w' => e = .returned (.bool (cellsB 2 l)) ∧ Below w.heap.size w w' := by
  have HS := Lib.hid hs
  have HZ := Lib.hid hz
  have hl1 : ((l.length : Int) == 0) = false := by simp; intro h; simp [h] at hl0
  have PG : Hid (∀ W : World, Calls Tryz.prog 238 #[.int .i64 first, .int .i64 1] W fun e w' => e = .returned (.bool true) ∧ W = w') := fun W => hp ▸ npage_any first 1 W
  clear hs hz hp
  go_enter Tryz.func183, Tryz.ntmps183
  go_wp2_with (go_at_call 238; refine (PG.out _).mono ?_; rintro e w1 ⟨rfl, rfl⟩)
  go_loopw [76] (fun i wr => ∃ j : Nat, i = .int .i64 j ∧ j ≤ l.length ∧ Below w.heap.size w wr ∧ wr.heap[w.heap.size]? = some (.cells #[.int .u8 2, .int .i64 first, .slice (some ⟨b, off, none⟩) l.length cap, vs []] 150) ∧ ∀ m, m < j → okAt 2 l m = true)
    (fun i _ => l.length - (intOf i).toNat)
  case atStart => exact ⟨0, rfl, Nat.zero_le _, (Below.refl _ _).alloc (Nat.le_refl _) _, heap_alloc_new w _, fun m hm => by omega⟩
  case round =>
    obtain ⟨j, rfl, hj, hb, hbox, hok⟩ := hrel
    have c0 : wr.cell? ⟨w.heap.size, 0, none⟩ = some (.int .u8 2) := cellAt hbox 0
    have c2 : wr.cell? ⟨w.heap.size, 2, none⟩ = some (.slice (some ⟨b, off, none⟩) l.length cap) := cellAt hbox 2
    have HB := Lib.hid hb
    have HX := Lib.hid hbox
    have HO := Lib.hid hok
    clear hb hbox hok
    by_cases hlt : j < l.length
    · have HLT := Lib.hid hlt
      obtain ⟨c, hc⟩ : ∃ c, l[j]? = some c := ⟨_, List.getElem?_eq_getElem hlt⟩
      rcases (HS.out.below HB.out) with ⟨hv, -⟩ | ⟨b', off', cap', hv, hlb, hcs⟩
      · simp at hv
      simp only [Value.slice.injEq, Option.some.injEq, Addr.mk.injEq, and_true] at hv
      obtain ⟨⟨rfl, rfl⟩, -, rfl⟩ := hv
      obtain ⟨e0, e1, e2, e3⟩ := hcs j c hc
      have HCJ := Lib.hid hc
      have HCS := Lib.hid hcs
      clear hc hcs
      go_wp2_with fail
      have z0 : (wr.alloc (.cells #[vs c.key, .int .i64 c.size, vs c.loc, .int .i64 c.page] 144)).cell? ⟨wr.heap.size, 0, none⟩ = some (vs c.key) := cellAt (heap_alloc_new wr _) 0
      have z1 : (wr.alloc (.cells #[vs c.key, .int .i64 c.size, vs c.loc, .int .i64 c.page] 144)).cell? ⟨wr.heap.size, 1, none⟩ = some (.int .i64 c.size) := cellAt (heap_alloc_new wr _) 1
      have z2 : (wr.alloc (.cells #[vs c.key, .int .i64 c.size, vs c.loc, .int .i64 c.page] 144)).cell? ⟨wr.heap.size, 2, none⟩ = some (vs c.loc) := cellAt (heap_alloc_new wr _) 2
      have z3 : (wr.alloc (.cells #[vs c.key, .int .i64 c.size, vs c.loc, .int .i64 c.page] 144)).cell? ⟨wr.heap.size, 3, none⟩ = some (.int .i64 c.page) := cellAt (heap_alloc_new wr _) 3
      have hA := (Below.refl wr.heap.size wr).alloc (Nat.le_refl _) (.cells #[vs c.key, .int .i64 c.size, vs c.loc, .int .i64 c.page] 144)
      have z4 := cell_later hA c0
      have z5 := cell_later hA c2
      have HA := Lib.hid hA
      clear hA
      have hzc := HZ.out c (List.mem_of_getElem? HCJ.out)
      have CB := cell_any 2 c hzc.1 hzc.2
      have CSA : Hid (∀ i p, l[i]? = some p → (wr.alloc (.cells #[vs c.key, .int .i64 c.size, vs c.loc, .int .i64 c.page] 144)).cell? ⟨b, off + i * 4, none⟩ = some (vs p.key)) := fun i p hp => cell_later HA.out (HCS.out i p hp).1
      have HXA : Hid ((wr.alloc (.cells #[vs c.key, .int .i64 c.size, vs c.loc, .int .i64 c.page] 144)).heap[w.heap.size]? = some (.cells #[.int .u8 2, .int .i64 first, .slice (some ⟨b, off, none⟩) l.length cap, vs []] 150)) := heapOld HX.out _
      generalize (wr.alloc (.cells #[vs c.key, .int .i64 c.size, vs c.loc, .int .i64 c.page] 144)) = wa at *
      clear e0 e1 e2 e3 c0 c2 hzc
      cases hcb : cellB 2 c with
      | false =>
        have CB := Lib.hid (hcb ▸ CB)
        have HCB := Lib.hid hcb
        clear hcb
        refine wp_region_class (fun w' => Below wa.heap.size wa w' ∧ w'.cell? ⟨w.heap.size, 0, none⟩ = some (.int .u8 2) ∧ w'.cell? ⟨w.heap.size, 2, none⟩ = some (.slice (some ⟨b, off, none⟩) l.length cap) ∧ w'.cell? ⟨wr.heap.size, 0, none⟩ = some (vs c.key) ∧ w'.cell? ⟨wr.heap.size, 1, none⟩ = some (.int .i64 c.size) ∧ w'.cell? ⟨wr.heap.size, 2, none⟩ = some (vs c.loc) ∧ w'.cell? ⟨wr.heap.size, 3, none⟩ = some (.int .i64 c.page)) ⟨(Below.refl _ _).drew, z4, z5, z0, z1, z2, z3⟩ (by kernel_rfl) (by kernel_rfl) ?_
        repeat (first | go_big_quiet_skip | (go_big_quiet_want; go_big_quiet_op; first | go_big_quiet_on | (apply Exists.intro; refine ⟨?_, ?_⟩; (first | (intros; with_reducible rfl) | (intro W q0 q1 q2 q3 q4 q5 q6; go_at_call 239; refine (CB.out _).mono ?_; rintro e w2 ⟨rfl, hb2⟩; exact ⟨rfl, kp6 ⟨q0, q1, q2, q3, q4, q5, q6⟩ hb2⟩) | (intros; go_simp; first | done | with_reducible rfl)); go_big_quiet_on)))
        refine wpQuiet_nil ?_
        intro w3 hw3
        have HB3 := Lib.hid hw3.1
        clear hw3
        go_wp2
        go_ret
        refine ⟨?_, belowThen HB.out (belowThen HA.out HB3.out)⟩
        rw [cellsB_bad (i := j) (l := l) HCJ.out (.inl HCB.out)]; rfl
      | true =>
        have CB := Lib.hid (hcb ▸ CB)
        have HCB := Lib.hid hcb
        clear hcb
        rcases Nat.eq_zero_or_pos j with hj0 | hj0
        · subst hj0
          refine wp_region_class (fun w' => Below wa.heap.size wa w' ∧ w'.cell? ⟨w.heap.size, 0, none⟩ = some (.int .u8 2) ∧ w'.cell? ⟨w.heap.size, 2, none⟩ = some (.slice (some ⟨b, off, none⟩) l.length cap) ∧ w'.cell? ⟨wr.heap.size, 0, none⟩ = some (vs c.key) ∧ w'.cell? ⟨wr.heap.size, 1, none⟩ = some (.int .i64 c.size) ∧ w'.cell? ⟨wr.heap.size, 2, none⟩ = some (vs c.loc) ∧ w'.cell? ⟨wr.heap.size, 3, none⟩ = some (.int .i64 c.page)) ⟨(Below.refl _ _).drew, z4, z5, z0, z1, z2, z3⟩ (by kernel_rfl) (by kernel_rfl) ?_
          repeat (first | go_big_quiet_skip | (go_big_quiet_want; go_big_quiet_op; first | go_big_quiet_on | (apply Exists.intro; refine ⟨?_, ?_⟩; (first | (intros; with_reducible rfl) | (intro W q0 q1 q2 q3 q4 q5 q6; go_at_call 239; refine (CB.out _).mono ?_; rintro e w2 ⟨rfl, hb2⟩; exact ⟨rfl, kp6 ⟨q0, q1, q2, q3, q4, q5, q6⟩ hb2⟩) | (intros; go_simp; first | done | with_reducible rfl)); go_big_quiet_on)))
          refine wpQuiet_nil ?_
          intro w3 hw3
          have HB3 := Lib.hid hw3.1
          clear hw3
          go_wp2
          go_roundw
          case rel => exact ⟨1, rfl, by omega, belowThen HB.out (belowThen HA.out HB3.out), Below.get HB3.out HXA.out, fun m hm => by
            obtain rfl : m = 0 := by omega
            simp [okAt, HCJ.out, HCB.out]⟩
          case measure => have h9 := HLT.out; simp only [intOf]; omega
        · obtain ⟨i, rfl⟩ : ∃ i, j = i + 1 := ⟨j - 1, by omega⟩
          obtain ⟨p, hp⟩ : ∃ p, l[i]? = some p := ⟨_, List.getElem?_eq_getElem (by omega)⟩
          have z6 := CSA.out i p hp
          have HP := Lib.hid hp
          clear hp
          by_cases hle : leB c.key p.key = true
          · have hle' : (Op.bytesLess c.key p.key || c.key == p.key) = true := hle
            have HLE := Lib.hid hle
            clear hle
            refine wp_region_class (fun w' => Below wa.heap.size wa w' ∧ w'.cell? ⟨w.heap.size, 0, none⟩ = some (.int .u8 2) ∧ w'.cell? ⟨w.heap.size, 2, none⟩ = some (.slice (some ⟨b, off, none⟩) l.length cap) ∧ w'.cell? ⟨wr.heap.size, 0, none⟩ = some (vs c.key) ∧ w'.cell? ⟨wr.heap.size, 1, none⟩ = some (.int .i64 c.size) ∧ w'.cell? ⟨wr.heap.size, 2, none⟩ = some (vs c.loc) ∧ w'.cell? ⟨wr.heap.size, 3, none⟩ = some (.int .i64 c.page) ∧ w'.cell? ⟨b, off + i * 4, none⟩ = some (vs p.key)) ⟨(Below.refl _ _).drew, z4, z5, z0, z1, z2, z3, z6⟩ (by kernel_rfl) (by kernel_rfl) ?_
            repeat (first | go_big_quiet_skip | (go_big_quiet_want; go_big_quiet_op; first | go_big_quiet_on | (apply Exists.intro; refine ⟨?_, ?_⟩; (first | (intros; with_reducible rfl) | (intro W q0 q1 q2 q3 q4 q5 q6 q7; go_at_call 239; refine (CB.out _).mono ?_; rintro e w2 ⟨rfl, hb2⟩; exact ⟨rfl, kp7 ⟨q0, q1, q2, q3, q4, q5, q6, q7⟩ hb2⟩) | (intros; go_simp; first | done | with_reducible rfl)); go_big_quiet_on)))
            refine wpQuiet_nil ?_
            intro w3 hw3
            have HB3 := Lib.hid hw3.1
            clear hw3
            go_wp2
            go_ret
            refine ⟨?_, belowThen HB.out (belowThen HA.out HB3.out)⟩
            rw [cellsB_bad (i := i + 1) (l := l) HCJ.out (.inr ⟨i, p, rfl, HP.out, HLE.out⟩)]; rfl
          · have hle' : (Op.bytesLess c.key p.key || c.key == p.key) = false := by simpa [leB] using hle
            have HLE := Lib.hid (show leB c.key p.key = false by simpa using hle)
            clear hle
            refine wp_region_class (fun w' => Below wa.heap.size wa w' ∧ w'.cell? ⟨w.heap.size, 0, none⟩ = some (.int .u8 2) ∧ w'.cell? ⟨w.heap.size, 2, none⟩ = some (.slice (some ⟨b, off, none⟩) l.length cap) ∧ w'.cell? ⟨wr.heap.size, 0, none⟩ = some (vs c.key) ∧ w'.cell? ⟨wr.heap.size, 1, none⟩ = some (.int .i64 c.size) ∧ w'.cell? ⟨wr.heap.size, 2, none⟩ = some (vs c.loc) ∧ w'.cell? ⟨wr.heap.size, 3, none⟩ = some (.int .i64 c.page) ∧ w'.cell? ⟨b, off + i * 4, none⟩ = some (vs p.key)) ⟨(Below.refl _ _).drew, z4, z5, z0, z1, z2, z3, z6⟩ (by kernel_rfl) (by kernel_rfl) ?_
            repeat (first | go_big_quiet_skip | (go_big_quiet_want; go_big_quiet_op; first | go_big_quiet_on | (apply Exists.intro; refine ⟨?_, ?_⟩; (first | (intros; with_reducible rfl) | (intro W q0 q1 q2 q3 q4 q5 q6 q7; go_at_call 239; refine (CB.out _).mono ?_; rintro e w2 ⟨rfl, hb2⟩; exact ⟨rfl, kp7 ⟨q0, q1, q2, q3, q4, q5, q6, q7⟩ hb2⟩) | (intros; go_simp; first | done | with_reducible rfl)); go_big_quiet_on)))
            refine wpQuiet_nil ?_
            intro w3 hw3
            have HB3 := Lib.hid hw3.1
            clear hw3
            go_wp2
            go_roundw
            case rel => exact ⟨i + 2, by go_num, by have := HLT.out; omega, belowThen HB.out (belowThen HA.out HB3.out), Below.get HB3.out HXA.out, fun m hm => by
              rcases Nat.lt_or_ge m (i + 1) with hmi | hmi
              · exact HO.out m hmi
              · obtain rfl : m = i + 1 := by omega
                simp [okAt, HCJ.out, HCB.out, HP.out, HLE.out]⟩
            case measure => have h9 := HLT.out; simp only [intOf]; omega
    · have hjl : j = l.length := by omega
      subst hjl
      have hall : cellsB 2 l = true := by
        simp only [cellsB, List.all_eq_true, List.mem_range]; exact HO.out
      have HALL := Lib.hid hall
      clear hall
      go_wp2
      go_ret
      exact ⟨by rw [HALL.out]; rfl, HB.out⟩

set_option maxRecDepth 100000 in
set_option maxHeartbeats 4000000 in
theorem may_leaf_nil (w : World) :
    Calls Tryz.prog 183 #[nodeV ⟨1, 0, [], []⟩ (.slice none 0 0)] w fun e w' => e = .returned (.bool true) ∧ Below w.heap.size w w' := by
  go_enter Tryz.func183, Tryz.ntmps183
  go_wp2_with fail
  refine wp_loop_rounds 1 ?_
  rw [rounds_succ]
  go_wp2
  go_ret
  exact ⟨rfl, (Below.refl _ _).alloc (Nat.le_refl _) _⟩

set_option maxRecDepth 100000 in
set_option maxHeartbeats 4000000 in
theorem may_leaf_first (first : Int) (hf : (first == 0) = false) (hf2 : (first != 0) = true) (data : List UInt8) (a : Option Addr) (n cap : Nat) (w : World) :
    Calls Tryz.prog 183 #[.agg #[.int .u8 1, .int .i64 first, .slice a n cap, vs data]] w fun e w' => e = .returned (.bool false) ∧ Below w.heap.size w w' := by
  have PG : Hid (∀ W : World, Calls Tryz.prog 238 #[.int .i64 first, .int .i64 1] W fun e w' => e = .returned (.bool (pageN first 1)) ∧ W = w') := fun W =>  npage_any first 1 W
  go_enter Tryz.func183, Tryz.ntmps183
  go_wp2_with (go_at_call 238; refine (PG.out _).mono ?_; rintro e w1 ⟨rfl, rfl⟩)
  all_goals (go_ret; refine ⟨?_, (Below.refl _ _).alloc (Nat.le_refl _) _⟩; first | rfl | simp_all)

set_option maxRecDepth 100000 in
set_option maxHeartbeats 4000000 in
theorem may_leaf_data (data : List UInt8) (hd : data.isEmpty = false) (hd2 : (data == []) = false) (a : Option Addr) (n cap : Nat) (w : World) :
    Calls Tryz.prog 183 #[.agg #[.int .u8 1, .int .i64 0, .slice a n cap, vs data]] w fun e w' => e = .returned (.bool false) ∧ Below w.heap.size w w' := by
  have PG : Hid (∀ W : World, Calls Tryz.prog 238 #[.int .i64 0, .int .i64 1] W fun e w' => e = .returned (.bool (pageN 0 1)) ∧ W = w') := fun W => npage_any 0 1 W
  go_enter Tryz.func183, Tryz.ntmps183
  go_wp2_with (go_at_call 238; refine (PG.out _).mono ?_; rintro e w1 ⟨rfl, rfl⟩)
  all_goals (go_ret; refine ⟨?_, (Below.refl _ _).alloc (Nat.le_refl _) _⟩; first | rfl | simp_all)

set_option maxRecDepth 100000 in
set_option maxHeartbeats 4000000 in
theorem may_inner_first (first : Int) (hf : pageN first 1 = false) (data : List UInt8) (a : Option Addr) (n cap : Nat) (w : World) :
    Calls Tryz.prog 183 #[.agg #[.int .u8 2, .int .i64 first, .slice a n cap, vs data]] w fun e w' => e = .returned (.bool false) ∧ Below w.heap.size w w' := by
  have PG : Hid (∀ W : World, Calls Tryz.prog 238 #[.int .i64 first, .int .i64 1] W fun e w' => e = .returned (.bool false) ∧ W = w') := fun W => hf ▸ npage_any first 1 W
  go_enter Tryz.func183, Tryz.ntmps183
  go_wp2_with (go_at_call 238; refine (PG.out _).mono ?_; rintro e w1 ⟨rfl, rfl⟩)
  all_goals (go_ret; refine ⟨?_, (Below.refl _ _).alloc (Nat.le_refl _) _⟩; first | rfl | simp_all)

set_option maxRecDepth 100000 in
set_option maxHeartbeats 4000000 in
theorem may_inner_data (first : Int) (hf : pageN first 1 = true) (data : List UInt8) (hd : data.isEmpty = false) (hd2 : (data == []) = false) (a : Option Addr) (n cap : Nat) (w : World) :
    Calls Tryz.prog 183 #[.agg #[.int .u8 2, .int .i64 first, .slice a n cap, vs data]] w fun e w' => e = .returned (.bool false) ∧ Below w.heap.size w w' := by
  have PG : Hid (∀ W : World, Calls Tryz.prog 238 #[.int .i64 first, .int .i64 1] W fun e w' => e = .returned (.bool true) ∧ W = w') := fun W => hf ▸ npage_any first 1 W
  go_enter Tryz.func183, Tryz.ntmps183
  go_wp2_with (go_at_call 238; refine (PG.out _).mono ?_; rintro e w1 ⟨rfl, rfl⟩)
  all_goals (go_ret; refine ⟨?_, (Below.refl _ _).alloc (Nat.le_refl _) _⟩; first | rfl | simp_all)

set_option maxRecDepth 100000 in
set_option maxHeartbeats 4000000 in
theorem may_inner_none (first : Int) (hf : pageN first 1 = true) (a : Option Addr) (cap : Nat) (w : World) :
    Calls Tryz.prog 183 #[.agg #[.int .u8 2, .int .i64 first, .slice a 0 cap, vs []]] w fun e w' => e = .returned (.bool false) ∧ Below w.heap.size w w' := by
  have PG : Hid (∀ W : World, Calls Tryz.prog 238 #[.int .i64 first, .int .i64 1] W fun e w' => e = .returned (.bool true) ∧ W = w') := fun W => hf ▸ npage_any first 1 W
  go_enter Tryz.func183, Tryz.ntmps183
  go_wp2_with (go_at_call 238; refine (PG.out _).mono ?_; rintro e w1 ⟨rfl, rfl⟩)
  all_goals (go_ret; refine ⟨?_, (Below.refl _ _).alloc (Nat.le_refl _) _⟩; first | rfl | simp_all)

set_option maxRecDepth 100000 in
set_option maxHeartbeats 4000000 in
theorem may_more (first : Int) (data : List UInt8) (hdl : data.length ≤ 1000000) (a : Option Addr) (n cap : Nat) (w : World) :
    Calls Tryz.prog 183 #[.agg #[.int .u8 3, .int .i64 first, .slice a n cap, vs data]] w fun e w' => e = .returned (.bool (pageN first 0 && decide ((1 : Int) ≤ data.length) && decide ((data.length : Int) ≤ 505) && ((n : Int) == 0))) ∧ Below w.heap.size w w' := by
  have PG : Hid (∀ W : World, Calls Tryz.prog 238 #[.int .i64 first, .int .i64 0] W fun e w' => e = .returned (.bool (pageN first 0)) ∧ W = w') := fun W => npage_any first 0 W
  generalize pageN first 0 = pg at *
  rcases data with _ | ⟨x, t⟩ <;> (try by_cases q2 : ((t.length : Int) + 1) ≤ 505) <;> cases q3 : ((n : Int) == 0) <;> cases pg
  all_goals
    go_enter Tryz.func183, Tryz.ntmps183
    go_wp2_with (go_at_call 238; refine (PG.out _).mono ?_; rintro e w1 ⟨rfl, rfl⟩)
    go_ret
    refine ⟨?_, (Below.refl _ _).alloc (Nat.le_refl _) _⟩
    first | (simp [*]; done) | (simp [*]; omega)

set_option maxRecDepth 100000 in
set_option maxHeartbeats 4000000 in
theorem may_free (first : Int) (data : List UInt8) (a : Option Addr) (n cap : Nat) (w : World) :
    Calls Tryz.prog 183 #[.agg #[.int .u8 4, .int .i64 first, .slice a n cap, vs data]] w fun e w' => e = .returned (.bool (pageN first 0 && (data == []) && ((n : Int) == 0))) ∧ Below w.heap.size w w' := by
  have PG : Hid (∀ W : World, Calls Tryz.prog 238 #[.int .i64 first, .int .i64 0] W fun e w' => e = .returned (.bool (pageN first 0)) ∧ W = w') := fun W => npage_any first 0 W
  generalize pageN first 0 = pg at *
  have q4 : (data == []) = data.isEmpty := by cases data <;> rfl
  cases q2 : data.isEmpty <;> cases q3 : ((n : Int) == 0) <;> cases pg
  all_goals
    go_enter Tryz.func183, Tryz.ntmps183
    go_wp2_with (go_at_call 238; refine (PG.out _).mono ?_; rintro e w1 ⟨rfl, rfl⟩)
    go_ret
    refine ⟨?_, (Below.refl _ _).alloc (Nat.le_refl _) _⟩
    first | (simp [*]; done) | (simp [*]; omega)

set_option maxRecDepth 100000 in
set_option maxHeartbeats 4000000 in
theorem may_other (kind first : Int) (k1 : (kind == 1) = false) (k2 : (kind == 2) = false) (k3 : (kind == 3) = false) (k4 : (kind == 4) = false) (data : List UInt8) (a : Option Addr) (n cap : Nat) (w : World) :
    Calls Tryz.prog 183 #[.agg #[.int .u8 kind, .int .i64 first, .slice a n cap, vs data]] w fun e w' => e = .returned (.bool false) ∧ Below w.heap.size w w' := by
  have PG : Hid (∀ W : World, Calls Tryz.prog 238 #[.int .i64 first, .int .i64 0] W fun e w' => e = .returned (.bool (pageN first 0)) ∧ W = w') := fun W =>  npage_any first 0 W
  go_enter Tryz.func183, Tryz.ntmps183
  go_wp2_with (go_at_call 238; refine (PG.out _).mono ?_; rintro e w1 ⟨rfl, rfl⟩)
  all_goals (go_ret; refine ⟨?_, (Below.refl _ _).alloc (Nat.le_refl _) _⟩; first | rfl | simp_all)


end Go.Proofs.YtobmnnihmbdfjaaGreat

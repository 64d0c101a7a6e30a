/- The pager in a transaction: what Pages, Read, Write, Resize do, whatever the log below tells. -/
import Derived.Test.YtobmnnihmbdfjaaGreatLib
import Derived.Test.YtobmnnihmbdfjaaGreatBase2
import Derived.Deep.RegionHeld3
import Derived.StillTailTactics
import Derived.Deep.RegionWith
set_option linter.all false
namespace Go.Proofs.YtobmnnihmbdfjaaGreat
open Go.RowKit

/-- A transaction: how many pages, which were written. -/
structure Tx where
  pages : Int
  written : Int → Option (List UInt8)

abbrev ptr (b : Nat) : Value := .pointer (some ⟨b, 0, none⟩)

/-- A log: whatever happens outside its blocks L, it tells n pages, its mark, and the pages. -/
structure LogIs (w : World) (lb : Nat) (L : List Nat) (n mk : Int) (base : Int → List UInt8) : Prop where
  own : ∀ k ∈ L, k < w.heap.size
  pages : ∀ w', (∀ k ∈ L, w'.heap[k]? = w.heap[k]?) → Calls Tryz.prog 84 #[ptr lb] w' fun e w'' => e = .returned (.int .i64 n) ∧ w' = w''
  mark : ∀ w', (∀ k ∈ L, w'.heap[k]? = w.heap[k]?) → Calls Tryz.prog 85 #[ptr lb] w' fun e w'' => e = .returned (.int .i64 mk) ∧ w' = w''
  page : ∀ w', (∀ k ∈ L, w'.heap[k]? = w.heap[k]?) → ∀ k : Int, 1 ≤ k → k ≤ 256 → Calls Tryz.prog 86 #[ptr lb, .int .i64 k, .int .i64 mk] w' fun e w'' => e = .returned (.tuple #[vs (base k), .int .i64 0]) ∧ Below w'.heap.size w' w''

theorem LogIs.kept {w w' : World} {lb : Nat} {L : List Nat} {n mk : Int} {base : Int → List UInt8} (h : LogIs w lb L n mk base) (hk : ∀ k ∈ L, w'.heap[k]? = w.heap[k]?) : LogIs w' lb L n mk base :=
  ⟨fun k hl => by
    have := h.own k hl
    exact lt_of_block ((hk k hl).trans (Array.getElem?_eq_getElem this)), fun v hv => h.pages v (fun k hl => (hv k hl).trans (hk k hl)), fun v hv => h.mark v (fun k hl => (hv k hl).trans (hk k hl)), fun v hv => h.page v (fun k hl => (hv k hl).trans (hk k hl))⟩

theorem flipW {P : Program} {f : FuncId} {args : Array Value} {w : World} {E : Ending} (h : Calls P f args w fun e w' => e = E ∧ w = w') : Calls P f args w fun e w' => e = E ∧ w' = w := h.mono fun _ _ ⟨a, b⟩ => ⟨a, b.symm⟩

/-- A pager in a transaction. -/
structure PgIn (w : World) (pb tb mb lb : Nat) (L : List Nat) (sv : Value) (op : Int) (base : Int → List UInt8) (tx : Tx) : Prop where
  pager : w.heap[pb]? = some (.cells #[ptr lb, ptr tb, sv, .int .i64 op] 175)
  trans : w.heap[tb]? = some (.cells #[.int .i64 tx.pages, .map (some mb)] 205)
  map : IMapAt .i64 w mb (fun n => (tx.written n).map vs)
  lo : 0 ≤ tx.pages
  hi : tx.pages ≤ 256
  log : ∃ n mk, LogIs w lb L n mk base
  offp : pb ∉ L
  offt : tb ∉ L
  offm : mb ∉ L

/-- What is read. -/
def Tx.view (base : Int → List UInt8) (tx : Tx) (n : Int) : List UInt8 := (tx.written n).getD (base n)

theorem PgIn.mb_lt {w pb tb mb lb L sv op base tx} (h : PgIn w pb tb mb lb L sv op base tx) : mb < w.heap.size := by
  obtain ⟨es, c, hb, -⟩ := h.map; exact lt_of_block hb
theorem PgIn.ne1 {w pb tb mb lb L sv op base tx} (h : PgIn w pb tb mb lb L sv op base tx) : pb ≠ tb := by
  intro e; have := h.pager; rw [e, h.trans] at this; simp at this
theorem PgIn.ne2 {w pb tb mb lb L sv op base tx} (h : PgIn w pb tb mb lb L sv op base tx) : pb ≠ mb := by
  intro e; obtain ⟨es, c, hb, -⟩ := h.map; have := h.pager; rw [e, hb] at this; simp at this
theorem PgIn.ne3 {w pb tb mb lb L sv op base tx} (h : PgIn w pb tb mb lb L sv op base tx) : tb ≠ mb := by
  intro e; obtain ⟨es, c, hb, -⟩ := h.map; have := h.trans; rw [e, hb] at this; simp at this

/-- Nothing of it has changed. -/
theorem PgIn.kept {w w' pb tb mb lb L sv op base tx} (h : PgIn w pb tb mb lb L sv op base tx) {S : List Nat} (hc : Chg S w w') (h1 : pb ∉ S) (h2 : tb ∉ S) (h3 : mb ∉ S) (h4 : ∀ k ∈ L, k ∉ S) : PgIn w' pb tb mb lb L sv op base tx := by
  obtain ⟨n, mk, hl⟩ := h.log
  exact ⟨hc.get h.pager h1, hc.get h.trans h2, h.map.kept (hc.block _ h.mb_lt h3), h.lo, h.hi, ⟨n, mk, hl.kept fun k hk => hc.block k (hl.own k hk) (h4 k hk)⟩, h.offp, h.offt, h.offm⟩
theorem PgIn.below {w w' pb tb mb lb L sv op base tx} (h : PgIn w pb tb mb lb L sv op base tx) (hc : Below w.heap.size w w') : PgIn w' pb tb mb lb L sv op base tx :=
  h.kept (Chg.of_below hc []) (by simp) (by simp) (by simp) (by simp)

set_option maxHeartbeats 400000 in
theorem ready_in {w pb tb mb lb L sv op base tx} (h : PgIn w pb tb mb lb L sv op base tx) :
    Calls Tryz.prog 125 #[ptr pb] w fun e w' => e = .returned (.int .i64 0) ∧ w = w' := by
  have c1 : w.cell? ⟨pb, 1, none⟩ = some (ptr tb) := cellAt h.pager 1
  clear h
  go_enter Tryz.func125, Tryz.ntmps125
  go_wp2
  go_ret
  exact ⟨rfl, rfl⟩

set_option maxHeartbeats 400000 in
theorem pages_in {w pb tb mb lb L sv op base tx} (h : PgIn w pb tb mb lb L sv op base tx) :
    Calls Tryz.prog 38 #[ptr pb] w fun e w' => e = .returned (.int .i64 tx.pages) ∧ w = w' := by
  have c1 : w.cell? ⟨pb, 1, none⟩ = some (ptr tb) := cellAt h.pager 1
  have c2 : w.cell? ⟨tb, 0, none⟩ = some (.int .i64 tx.pages) := cellAt h.trans 0
  clear h
  go_enter Tryz.func38, Tryz.ntmps38
  go_wp2
  go_ret
  exact ⟨rfl, rfl⟩

theorem zero9 (w : World) : (zeroValue 9).run Tryz.prog w = .ok (vs []) w := by kernel_rfl

set_option maxHeartbeats 400000 in
theorem read_in_range {w pb tb mb lb L sv op base tx} (h : PgIn w pb tb mb lb L sv op base tx) (n : Int) (hn : n < 1 ∨ tx.pages < n) :
    Calls Tryz.prog 42 #[ptr pb, .int .i64 n] w fun e w' => e = .returned (.tuple #[vs [], .int .i64 5]) ∧ w = w' := by
  have H := Lib.hid h
  clear h
  by_cases h1 : n < 1
  · go_enter Tryz.func42, Tryz.ntmps42
    go_wp2_with (go_at_call 38; refine (pages_in H.out).mono ?_; rintro e w' ⟨rfl, rfl⟩)
    go_ret2
    exact ⟨rfl, rfl⟩
  · have h2 : tx.pages < n := by omega
    go_enter Tryz.func42, Tryz.ntmps42
    go_wp2_with (go_at_call 38; refine (pages_in H.out).mono ?_; rintro e w' ⟨rfl, rfl⟩)
    go_ret2
    exact ⟨rfl, rfl⟩

set_option maxHeartbeats 400000 in
theorem read_in_written {w pb tb mb lb L sv op base tx} (h : PgIn w pb tb mb lb L sv op base tx) (n : Int) (h1 : 1 ≤ n) (h2 : n ≤ tx.pages) (s : List UInt8) (hs : tx.written n = some s) :
    Calls Tryz.prog 42 #[ptr pb, .int .i64 n] w fun e w' => e = .returned (.tuple #[vs s, .int .i64 0]) ∧ w = w' := by
  have c1 : w.cell? ⟨pb, 1, none⟩ = some (ptr tb) := cellAt h.pager 1
  have c3 : w.cell? ⟨tb, 1, none⟩ = some (.map (some mb)) := cellAt h.trans 1
  have g1 : ¬ n < 1 := by omega
  have g2 : ¬ tx.pages < n := by omega
  have hf : (tx.written n).map vs = some (vs s) := by rw [hs]; rfl
  have H := Lib.hid h
  clear h hs
  go_enter Tryz.func42, Tryz.ntmps42
  go_wp2_with (first | (go_at_call 38; refine (pages_in H.out).mono ?_; rintro e w' ⟨rfl, rfl⟩) | (at_lookup; refine wpList_lookup_imap _ rfl _ _ 203 true rfl 3 9 .i64 Tryz.underlying203 Tryz.underlying3 _ (zero9 _) mb _ rfl H.out.map n rfl ?_))
  go_ret2
  exact ⟨rfl, rfl⟩

set_option maxRecDepth 100000 in
set_option maxHeartbeats 400000 in
theorem read_in_base {w pb tb mb lb L sv op base tx} (h : PgIn w pb tb mb lb L sv op base tx) (n : Int) (h1 : 1 ≤ n) (h2 : n ≤ tx.pages) (hs : tx.written n = none) :
    Calls Tryz.prog 42 #[ptr pb, .int .i64 n] w fun e w' => e = .returned (.tuple #[vs (base n), .int .i64 0]) ∧ Below w.heap.size w w' := by
  have c0 : w.cell? ⟨pb, 0, none⟩ = some (ptr lb) := cellAt h.pager 0
  have c1 : w.cell? ⟨pb, 1, none⟩ = some (ptr tb) := cellAt h.pager 1
  have c3 : w.cell? ⟨tb, 1, none⟩ = some (.map (some mb)) := cellAt h.trans 1
  have g1 : ¬ n < 1 := by omega
  have g2 : ¬ tx.pages < n := by omega
  have hf : (tx.written n).map vs = none := by rw [hs]; rfl
  have h3 : n ≤ 256 := Int.le_trans h2 h.hi
  obtain ⟨ln, lm, hl⟩ := h.log
  have H := Lib.hid h
  have HL := Lib.hid hl
  clear h hs hl
  go_enter Tryz.func42, Tryz.ntmps42
  go_wp2_with (first | (go_at_call 38; refine (pages_in H.out).mono ?_; rintro e w' ⟨rfl, rfl⟩) | (at_lookup; refine wpList_lookup_imap _ rfl _ _ 203 true rfl 3 9 .i64 Tryz.underlying203 Tryz.underlying3 _ (zero9 _) mb _ rfl H.out.map n rfl ?_))
  have lp : pb < w.heap.size := lt_of_block H.out.pager
  go_region_held3 (fun w' => w'.cell? ⟨pb, 0, none⟩ = some (ptr lb) ∧ Below w.heap.size w w')
    (first | exact ⟨c0, (Below.refl _ _).drew⟩ | exact ⟨(hb.cell (p := ⟨pb, 0, none⟩) lp).trans c0, ((Below.refl _ _).drew).trans hb⟩)
    (first | (go_at_call 85; refine (HL.out.mark _ (by intro k _; rfl)).mono ?_; rintro e w' ⟨rfl, rfl⟩) | (go_at_call 86; refine (HL.out.page _ (by intro k _; rfl) _ h1 h3).mono ?_; rintro e w' ⟨rfl, hb⟩))
  all_goals (go_wp2; go_ret2; exact ⟨rfl, ((Below.refl _ _).drew).trans hb⟩)


theorem PgIn.wrote {w w' pb tb mb lb L sv op base tx} (h : PgIn w pb tb mb lb L sv op base tx) (hc : Chg [mb] w w') (n : Int) (s : List UInt8) (hm : IMapAt .i64 w' mb (fun k => if k = n then some (vs s) else (tx.written k).map vs)) :
    PgIn w' pb tb mb lb L sv op base { tx with written := fun k => if k = n then some s else tx.written k } := by
  obtain ⟨ln, lm, hl⟩ := h.log
  refine ⟨hc.get h.pager (by simpa using h.ne2), hc.get h.trans (by simpa using h.ne3), ?_, h.lo, h.hi, ⟨ln, lm, hl.kept fun k hk => hc.block k (hl.own k hk) ?_⟩, h.offp, h.offt, h.offm⟩
  · have e : (fun k => Option.map vs (if k = n then some s else tx.written k)) = fun k => if k = n then some (vs s) else (tx.written k).map vs := by
      funext k; split <;> rfl
    show IMapAt .i64 w' mb (fun k => Option.map vs (if k = n then some s else tx.written k))
    rw [e]; exact hm
  · simp only [List.mem_singleton]; rintro rfl; exact h.offm hk

/-- A page is written. -/
def Tx.put (tx : Tx) (n : Int) (s : List UInt8) : Tx := { tx with written := fun k => if k = n then some s else tx.written k }

set_option maxHeartbeats 400000 in
theorem write_in {w pb tb mb lb L sv op base tx} (h : PgIn w pb tb mb lb L sv op base tx) (n : Int) (h1 : 1 ≤ n) (h2 : n ≤ tx.pages) (s : ByteArray) (hs : s.size = 512) :
    Calls Tryz.prog 76 #[ptr pb, .int .i64 n, .string s] w fun e w' => e = .returned (.int .i64 0) ∧ PgIn w' pb tb mb lb L sv op base (tx.put n s.data.toList) ∧ Chg [mb] w w' := by
  have c1 : w.cell? ⟨pb, 1, none⟩ = some (ptr tb) := cellAt h.pager 1
  have c2 : w.cell? ⟨tb, 0, none⟩ = some (.int .i64 tx.pages) := cellAt h.trans 0
  have c3 : w.cell? ⟨tb, 1, none⟩ = some (.map (some mb)) := cellAt h.trans 1
  have g1 : ¬ n < 1 := by omega
  have g2 : ¬ tx.pages < n := by omega
  have H := Lib.hid h
  clear h
  go_enter Tryz.func76, Tryz.ntmps76
  go_wp2_with (first | (go_at_call 125; refine (ready_in H.out).mono ?_; rintro e w' ⟨rfl, rfl⟩) | (at_mapUpdate; refine wpList_update_imap _ rfl _ _ _ 203 rfl 3 9 .i64 Tryz.underlying203 Tryz.underlying3 mb _ rfl H.out.map n rfl _ rfl ?_; intro w1 hc1 hs1 hd1 he1 hm1))
  go_ret
  exact ⟨rfl, H.out.wrote hc1.out n s.data.toList hm1.out, hc1.out⟩

set_option maxHeartbeats 400000 in
theorem write_in_range {w pb tb mb lb L sv op base tx} (h : PgIn w pb tb mb lb L sv op base tx) (n : Int) (hn : n < 1 ∨ tx.pages < n) (s : ByteArray) :
    Calls Tryz.prog 76 #[ptr pb, .int .i64 n, .string s] w fun e w' => e = .returned (.int .i64 5) ∧ w = w' := by
  have c1 : w.cell? ⟨pb, 1, none⟩ = some (ptr tb) := cellAt h.pager 1
  have c2 : w.cell? ⟨tb, 0, none⟩ = some (.int .i64 tx.pages) := cellAt h.trans 0
  have H := Lib.hid h
  clear h
  by_cases h1 : n < 1
  · go_enter Tryz.func76, Tryz.ntmps76
    go_wp2_with (go_at_call 125; refine (ready_in H.out).mono ?_; rintro e w' ⟨rfl, rfl⟩)
    go_ret
    exact ⟨rfl, rfl⟩
  · have h2 : tx.pages < n := by omega
    go_enter Tryz.func76, Tryz.ntmps76
    go_wp2_with (go_at_call 125; refine (ready_in H.out).mono ?_; rintro e w' ⟨rfl, rfl⟩)
    go_ret
    exact ⟨rfl, rfl⟩

theorem PgIn.struck {w w' pb tb mb lb L sv op base tx} (h : PgIn w pb tb mb lb L sv op base tx) (hc : Chg [mb] w w') (n : Int) (hm : IMapAt .i64 w' mb (fun k => if k = n then none else (tx.written k).map vs)) :
    PgIn w' pb tb mb lb L sv op base { tx with written := fun k => if k = n then none else tx.written k } := by
  obtain ⟨ln, lm, hl⟩ := h.log
  refine ⟨hc.get h.pager (by simpa using h.ne2), hc.get h.trans (by simpa using h.ne3), ?_, h.lo, h.hi, ⟨ln, lm, hl.kept fun k hk => hc.block k (hl.own k hk) ?_⟩, h.offp, h.offt, h.offm⟩
  · have e : (fun k => Option.map vs (if k = n then none else tx.written k)) = fun k => if k = n then none else (tx.written k).map vs := by
      funext k; split <;> rfl
    show IMapAt .i64 w' mb (fun k => Option.map vs (if k = n then none else tx.written k))
    rw [e]; exact hm
  · simp only [List.mem_singleton]; rintro rfl; exact h.offm hk

theorem struck_fun (g : Int → Option (List UInt8)) (n : Int) : (fun k => Option.map vs (if k = n then none else g k)) = fun k => if k = n then none else (g k).map vs := by
  funext k; split <;> rfl

/-! ### Resize -/
/-- So many pages: those beyond are struck, the new ones are noughts. -/
def Tx.resize (tx : Tx) (n : Int) : Tx :=
  { pages := n, written := fun k => if tx.pages < k ∧ k ≤ n then some (zeros 512) else if n < k then none else tx.written k }

set_option maxRecDepth 100000 in
set_option maxHeartbeats 400000 in
theorem resize_in {w pb tb mb lb L sv op base tx} (h : PgIn w pb tb mb lb L sv op base tx) (n : Int) (h1 : 1 ≤ n) (h2 : n ≤ 256) :
    Calls Tryz.prog 79 #[ptr pb, .int .i64 n] w fun e w' => e = .returned (.int .i64 0) ∧ PgIn w' pb tb mb lb L sv op base (tx.resize n) ∧ Chg [tb, mb] w w' := by
  have c1 : w.cell? ⟨pb, 1, none⟩ = some (ptr tb) := cellAt h.pager 1
  have c2 : w.cell? ⟨tb, 0, none⟩ = some (.int .i64 tx.pages) := cellAt h.trans 0
  have c3 : w.cell? ⟨tb, 1, none⟩ = some (.map (some mb)) := cellAt h.trans 1
  have g1 : ¬ n < 1 := by omega
  have g2 : ¬ 256 < n := by omega
  have l0 := h.lo
  have l1 := h.hi
  have H := Lib.hid h
  clear h
  go_enter Tryz.func79, Tryz.ntmps79
  go_wp2_with (first | (go_at_call 125; refine (ready_in H.out).mono ?_; rintro e w' ⟨rfl, rfl⟩) | (at_range; refine wpList_range_imap _ rfl _ 203 rfl 3 9 .i64 Tryz.underlying203 mb _ rfl H.out.map ?_; intro w0 hR0 hc0 hs0))
  have HR0 := Lib.hid hR0
  have HC0 := Lib.hid hc0
  clear hR0 hc0 hs0
  go_frame
  go_loopw [6] (fun _ wr => ∃ g left cur, PgIn wr pb tb mb lb L sv op base ⟨tx.pages, g⟩ ∧ Ranging .i64 wr w.heap.size mb (fun k => (g k).map vs) left cur ∧ Chg [mb] w wr ∧ (∀ k, g k = tx.written k ∨ (n < k ∧ g k = none)) ∧ (∀ k, n < k → left k ∨ g k = none))
    (fun _ wr => wr.rangeLeft mb w.heap.size)
  case atStart =>
    refine ⟨tx.written, _, _, H.out.kept HC0.out (by simp) (by simp) (by simp) (by simp), HR0.out, HC0.out.mono (by simp), fun k => .inl rfl, fun k _ => ?_⟩
    cases hk : tx.written k with
    | none => exact .inr rfl
    | some s => left; simp [hk]
  case round =>
    obtain ⟨g, left, cur, hP, hR, hC, hg1, hg2⟩ := hrel
    have c1 : wr.cell? ⟨pb, 1, none⟩ = some (ptr tb) := cellAt hP.pager 1
    have c2 : wr.cell? ⟨tb, 0, none⟩ = some (.int .i64 tx.pages) := cellAt hP.trans 0
    have c3 : wr.cell? ⟨tb, 1, none⟩ = some (.map (some mb)) := cellAt hP.trans 1
    have HH := H.out
    have n1 : pb ≠ w.heap.size := Nat.ne_of_lt (lt_of_block H.out.pager)
    have n2 : tb ≠ w.heap.size := Nat.ne_of_lt (lt_of_block H.out.trans)
    have n3 := HH.ne2
    have n4 := HH.ne3
    have HP := Lib.hid hP
    have HR := Lib.hid hR
    have HC := Lib.hid hC
    have HG := Lib.hid hg1
    have HG2 := Lib.hid hg2
    clear hP hR hC hg1 hg2 HH
    go_wp2_with (first | (at_next; refine wpList_next_imap _ rfl _ rfl .i64 mb w.heap.size _ _ _ rfl HR.out (fun hdone => ?_) (fun k v w1 hlk hfk hR1 hlt1 hc1 hs1 hd1 he1 hen1 => ?_)) | (at_delete; refine wpList_delete_imap _ rfl _ _ 203 3 rfl 3 9 .i64 Tryz.underlying203 Tryz.underlying3 mb _ rfl hR1.out.map _ rfl ?_; intro w2 hc2 hs2 hd2 he2 hm2 hr2))
    · obtain ⟨wo, rfl⟩ : ∃ wo : World, wo = wr := ⟨_, rfl⟩
      go_loopw [7] (fun x wr => ∃ j : Int, x = .int .i64 j ∧ tx.pages + 1 ≤ j ∧ (j ≤ n + 1 ∨ j = tx.pages + 1) ∧ ∃ g', PgIn wr pb tb mb lb L sv op base ⟨tx.pages, g'⟩ ∧ Chg [mb] w wr ∧ ∀ i, g' i = if tx.pages < i ∧ i < j then some (zeros 512) else if n < i then none else tx.written i)
        (fun x _ => (n + 1 - intOf x).toNat)
      case atStart =>
        refine ⟨_, rfl, Int.le_refl _, .inr rfl, g, HP.out, HC.out, fun i => ?_⟩
        rw [if_neg (by omega)]
        by_cases hi : n < i
        · rw [if_pos hi]
          rcases HG2.out i hi with h | h
          · exact absurd h (hdone.out i)
          · exact h
        · rw [if_neg hi]
          rcases HG.out i with h | h
          · exact h
          · exact absurd h.1 hi
      case round =>
        obtain ⟨j, rfl, hj1, hj2, g', hP', hC', hg'⟩ := hrel
        have d1 : wr.cell? ⟨pb, 1, none⟩ = some (ptr tb) := cellAt hP'.pager 1
        have d2 : wr.cell? ⟨tb, 0, none⟩ = some (.int .i64 tx.pages) := cellAt hP'.trans 0
        have d3 : wr.cell? ⟨tb, 1, none⟩ = some (.map (some mb)) := cellAt hP'.trans 1
        have f2 : wr.frozen? ⟨tb, 0, none⟩ = false := freeAt hP'.trans 0
        have HP' := Lib.hid hP'
        have HC' := Lib.hid hC'
        have HG' := Lib.hid hg'
        clear hP' hC' hg' c1 c2 c3
        by_cases hlt : j ≤ n
        · go_wp2_with fail
          have hm0 := HP'.out.map
          have hupd := updMap_eq (P := Tryz.prog) (t := 203) Tryz.underlying203 Tryz.underlying3 mb
          have lp := lt_of_block HP'.out.pager
          have lt := lt_of_block HP'.out.trans
          have lm := HP'.out.mb_lt
          have HM0 := Lib.hid hm0
          clear hm0
          go_region_held3 (fun w' => w'.cell? ⟨pb, 1, none⟩ = some (ptr tb) ∧ w'.cell? ⟨tb, 1, none⟩ = some (.map (some mb)) ∧ HasMap .i64 w' mb)
            (first | exact ⟨d1, d3, ⟨_, HM0.out⟩⟩ | exact ⟨(hb1.cell (p := ⟨pb, 1, none⟩) lp).trans d1, (hb1.cell (p := ⟨tb, 1, none⟩) lt).trans d3, ⟨_, HM0.out.kept (hb1.block mb lm)⟩⟩ | (have hU := updMap_run (P := Tryz.prog) (t := 203) Tryz.underlying203 Tryz.underlying3 (HM0.out.kept (hb1.block mb lm)) j (vs (zeros 512)); exact ⟨((hU.2.1.cells hU.2.2.1).1 pb 1 n3).trans ((hb1.cell (p := ⟨pb, 1, none⟩) lp).trans d1), ((hU.2.1.cells hU.2.2.1).1 tb 1 n4).trans ((hb1.cell (p := ⟨tb, 1, none⟩) lt).trans d3), ⟨_, hU.2.2.2⟩⟩))
            (first | (go_at_call 47; refine (repeat_zero 512 (by omega) (by omega) _).mono ?_; rintro e w1 ⟨rfl, hb1⟩))
          all_goals go_wp2
          have hU := updMap_run (P := Tryz.prog) (t := 203) Tryz.underlying203 Tryz.underlying3 (HM0.out.kept (hb1.block mb lm)) j (vs (zeros 512))
          have hP1 := HP'.out.below (((Below.refl _ _).drew).trans hb1)
          go_roundw
          case rel =>
            refine ⟨j + 1, rfl, by omega, by omega, _, hP1.wrote hU.2.1 j (zeros 512) hU.2.2.2, (HC'.out.after (Chg.of_below (((Below.refl _ _).drew).trans hb1) []) (by simp)).after hU.2.1 (by simp), fun i => ?_⟩
            by_cases e : i = j
            · rw [e]; show (if j = j then some (zeros 512) else g' j) = _
              have e3 : tx.pages < j ∧ j < j + 1 := by omega
              rw [if_pos rfl, if_pos e3]
            · show (if i = j then some (zeros 512) else g' i) = _
              rw [if_neg e, HG'.out i]
              by_cases e2 : tx.pages < i ∧ i < j
              · rw [if_pos e2, if_pos (by omega)]
              · have e3 : ¬ (tx.pages < i ∧ i < j + 1) := by omega
                rw [if_neg e2, if_neg e3]
          case measure => simp [intOf]; omega
        · go_wp2
          go_ret
          have ht := setAt HP'.out.trans 0 (.int .i64 n)
          refine ⟨rfl, ⟨(setOff 0 _ H.out.ne1).trans HP'.out.pager, ht, ?_, by show 0 ≤ n; omega, h2, ?_, H.out.offp, H.out.offt, H.out.offm⟩, (HC'.out.mono (fun k _ h => by simp at h; simp [h])).setCell (by simp) _⟩
          · have e : (fun k => ((tx.resize n).written k).map vs) = fun k => (g' k).map vs := by
              funext i; rw [HG'.out i]
              have ej : j = n + 1 ∨ (j = tx.pages + 1 ∧ n < j) := by omega
              unfold Tx.resize
              rcases ej with rfl | ⟨rfl, e2⟩
              · simp only [show (i < n + 1) = (i ≤ n) from by simp [Int.lt_add_one_iff]]
              · simp only [show ¬ (tx.pages < i ∧ i ≤ n) from by omega, show ¬ (tx.pages < i ∧ i < tx.pages + 1) from by omega, if_false]
            rw [e]
            exact HP'.out.map.kept (setOff 0 _ H.out.ne3.symm)
          · obtain ⟨ln, lm, hl⟩ := HP'.out.log
            exact ⟨ln, lm, hl.kept fun k hk => setOff 0 _ (by rintro rfl; exact H.out.offt hk)⟩
    · have hnk : n < k := by assumption
      have hP1 : PgIn w1 pb tb mb lb L sv op base ⟨tx.pages, g⟩ := HP.out.kept hc1.out (by simpa using n1) (by simpa using n2) (by simpa using Nat.ne_of_lt H.out.mb_lt) (fun k hk => by
        obtain ⟨_, _, hl⟩ := H.out.log
        have := hl.own k hk
        simp only [List.mem_singleton]; omega)
      have hr := hr2.out _ _ hR1.out (fun c => c.2 rfl)
      go_frame
      go_roundw
      case rel =>
        refine ⟨fun j => if j = k then none else g j, _, _, hP1.struck hc2.out k (by have := hm2.out; exact this), by rw [struck_fun]; exact hr.1, (HC.out.after hc1.out (by simp)).after hc2.out (by simp), fun j => ?_, fun j hj => ?_⟩
        · by_cases e : j = k
          · subst e; exact .inr ⟨hnk, by simp⟩
          · simp only [if_neg e]; exact HG.out j
        · by_cases e : j = k
          · right; simp [e]
          · simp only [if_neg e]
            exact (HG2.out j hj).imp (fun c => ⟨c, e⟩) id
      case measure => exact Nat.lt_of_le_of_lt hr.2 hlt1.out
    · have hnk0 : k ≤ n := by assumption
      have hnk : ¬ n < k := by omega
      have hP1 : PgIn w1 pb tb mb lb L sv op base ⟨tx.pages, g⟩ := HP.out.kept hc1.out (by simpa using n1) (by simpa using n2) (by simpa using Nat.ne_of_lt H.out.mb_lt) (fun k hk => by
        obtain ⟨_, _, hl⟩ := H.out.log
        have := hl.own k hk
        simp only [List.mem_singleton]; omega)
      go_roundw
      case rel => exact ⟨g, _, _, hP1, hR1.out, HC.out.after hc1.out (by simp), HG.out, fun j hj => (HG2.out j hj).imp (fun c => ⟨c, by rintro rfl; exact hnk hj⟩) id⟩
      case measure => exact hlt1.out

end Go.Proofs.YtobmnnihmbdfjaaGreat

/- A new database in a transaction; Check and Drop of nothing; what is read of a page. -/
import Derived.Test.YtobmnnihmbdfjaaGreatFresh
set_option linter.all false
namespace Go.Proofs.YtobmnnihmbdfjaaGreat
open Go.RowKit

theorem hdr0_may : mayB hdr0 = true := by decide
theorem hdr0_u : U64 hdr0.commits := ⟨by decide, by decide⟩
/-- A new database's transaction. -/
def txN : Tx := ((tx0 0).resize 1).put 1 (putH hdr0)
def SBeginPost (pb lb : Nat) (L : List Nat) (base : Int → List UInt8) (w : World) (e : Ending) (w' : World) : Prop :=
  ∃ tb mb, e = .returned (.int .i64 0) ∧ PgIn w' pb tb mb lb L (.slice none 0 0) 0 base txN ∧ Chg [pb] w w' ∧ w.heap.size ≤ tb ∧ w.heap.size ≤ mb

set_option maxRecDepth 100000 in
set_option maxHeartbeats 4000000 in
theorem sbegin_new {w : World} {pb lb : Nat} {L : List Nat} {mk : Int} {base : Int → List UInt8} (hp : w.heap[pb]? = some (pagerO lb)) (hl : LogIs w lb L 0 mk base) (hoff : pb ∉ L) : Calls Tryz.prog 52 #[ptr pb] w (SBeginPost pb lb L base w) := by
  have HP := Lib.hid hp
  have HLG := Lib.hid hl
  have HOFF := Lib.hid hoff
  clear hp hl hoff
  go_enter Tryz.func52, Tryz.ntmps52
  go_wp2_with fail
  go_at_call 78; refine (begin_any HP.out HLG.out HOFF.out (by decide) (by decide)).mono ?_; rintro e w1 ⟨tb, mb, rfl, h1, c1, htb, hmb⟩
  have H1 := Lib.hid h1
  have C1 := Lib.hid c1
  have HTB := Lib.hid htb
  have HMB := Lib.hid hmb
  clear h1 c1 htb hmb
  go_wp2_with fail
  go_at_call 38; refine (pages_in H1.out).mono ?_; rintro e w' ⟨rfl, rfl⟩
  rw [show (tx0 0).pages = 0 from rfl]
  go_wp2_with fail
  go_at_call 79; refine (resize_in H1.out 1 (by decide) (by decide)).mono ?_; rintro e w2 ⟨rfl, h2, c2⟩
  have H2 := Lib.hid h2
  have C2 := Lib.hid c2
  clear h2 c2
  go_wp2_with fail
  go_at_call 121; refine (swrite_ok H2.out (by decide) hdr0 hdr0_may hdr0_u).mono ?_; rintro e w3 ⟨rfl, h3, c3⟩
  have H3 := Lib.hid h3
  have C3 := Lib.hid c3
  clear h3 c3
  go_wp2_with fail
  go_ret
  exact ⟨tb, mb, rfl, H3.out, (C1.out.after C2.out (by intro k hk; simp only [List.mem_cons, List.not_mem_nil, or_false] at hk; rcases hk with rfl | rfl; exact .inr HTB.out; exact .inr HMB.out)).after C3.out (by intro k hk; simp only [List.mem_cons, List.not_mem_nil, or_false] at hk; subst hk; exact .inr HMB.out), HTB.out, HMB.out⟩

theorem pager_off {w : World} {pb lb lb' db m : Nat} {p : Int × Int} (hp : w.heap[pb]? = some (pagerO lb')) (hl : w.heap[lb]? = some (logO db p)) (hd : w.heap[db]? = some (diskO m)) : pb ∉ [lb, db] := by
  intro hm
  simp only [List.mem_cons, List.not_mem_nil, or_false] at hm
  rcases hm with e | e
  · rw [e, hl] at hp; simp at hp
  · rw [e, hd] at hp; simp at hp
def FreshPost (w : World) (e : Ending) (w' : World) : Prop :=
  ∃ db pb tb mb lb L, e = .returned (.tuple #[ptr db, ptr pb, .bool true]) ∧ PgIn w' pb tb mb lb L (.slice none 0 0) 0 base0 txN ∧ Below w.heap.size w w' ∧ w.heap.size ≤ tb ∧ w.heap.size ≤ mb

set_option maxRecDepth 100000 in
set_option maxHeartbeats 4000000 in
theorem fresh_any (w : World) : Calls Tryz.prog 13 #[] w (FreshPost w) := by
  have HE1 := Lib.hid (Chg.refl [] w)
  go_enter Tryz.func13, Tryz.ntmps13
  go_wp2_with fail
  go_at_call 20; refine (new_any _).mono ?_; rintro e w' ⟨rfl, rfl⟩
  go_wp2_with fail
  have hC2 : Hid (Chg [] w ((w.alloc (.map #[] 0)).alloc (diskO w.heap.size))) := Lib.hid (((Chg.refl [] w).alloc (.map #[] 0)).alloc (diskO w.heap.size))
  have HZ3 := Lib.hid hC2.out.size
  have H_m_4 : Hid (((w.alloc (.map #[] 0)).alloc (diskO w.heap.size)).heap[w.heap.size]? = some (.map #[] 0)) := Lib.hid (heapOld (heapNew (by simp [World.setCell]) (.map #[] 0)) (diskO w.heap.size))
  have H_d_5 : Hid (((w.alloc (.map #[] 0)).alloc (diskO w.heap.size)).heap[w.heap.size + 1]? = some (diskO w.heap.size)) := Lib.hid (heapNew (by simp [World.setCell]) (diskO w.heap.size))
  have HE6 := Lib.hid (HE1.out.after hC2.out (by simp))
  generalize ((w.alloc (.map #[] 0)).alloc (diskO w.heap.size)) = W7 at *
  go_at_call 22; refine (popen_new _ _ _ H_d_5.out).mono ?_; rintro e W8 ⟨pb, lb, p, rfl, hl, hp, hsz, hb⟩
  have HL := Lib.hid hl
  have HP := Lib.hid hp
  have HSZ := Lib.hid hsz
  clear hl hp hsz
  have hC9 := Lib.hid (Chg.of_below hb [])
  have HZ10 := Lib.hid hC9.out.size
  have H_m_11 := Lib.hid (hC9.out.get H_m_4.out (by simp))
  have H_d_12 := Lib.hid (hC9.out.get H_d_5.out (by simp))
  have HE13 := Lib.hid (HE6.out.after hC9.out (by simp))
  clear hb
  go_wp2_with fail
  have HLG : Hid (LogIs W8 lb [lb, w.heap.size + 1] 0 0 base0) := Lib.hid (logIs_new HL.out H_d_12.out)
  have HOFF := Lib.hid (pager_off HP.out HL.out H_d_12.out)
  go_at_call 52; refine (sbegin_new HP.out HLG.out HOFF.out).mono ?_; rintro e W14 ⟨tb, mb, rfl, hpg, hc, ht1, ht2⟩
  have HPG := Lib.hid hpg
  have HC := Lib.hid hc
  have HT1 := Lib.hid ht1
  have HT2 := Lib.hid ht2
  clear hpg hc ht1 ht2
  go_wp2_with fail
  go_ret3
  exact ⟨_, pb, tb, mb, lb, _, rfl, HPG.out, (HE13.out.after HC.out (by intro k hk; simp only [List.mem_singleton] at hk; subst hk; exact .inr (by have := HSZ.out; have := HZ3.out; have := HZ10.out; omega))).to_below (Nat.le_refl _) (by simp), by have := HT1.out; have := HZ3.out; have := HZ10.out; omega, by have := HT2.out; have := HZ3.out; have := HZ10.out; omega⟩

theorem Check_zero (pb : Nat) (w : World) : Calls Tryz.prog 46 #[ptr pb, .int .i64 0] w fun e w' => e = .returned (.tuple #[.int .i64 0, .int .i64 0, .int .i64 0]) ∧ Below w.heap.size w w' := by
  go_enter Tryz.func46, Tryz.ntmps46
  go_wp2
  go_ret3
  exact ⟨rfl, Below.refl _ _⟩
theorem Check_nil (root : Int) (w : World) : Calls Tryz.prog 46 #[.pointer none, .int .i64 root] w fun e w' => e = .returned (.tuple #[.int .i64 0, .int .i64 0, .int .i64 1]) ∧ Below w.heap.size w w' := by
  go_enter Tryz.func46, Tryz.ntmps46
  go_wp2
  go_ret3
  exact ⟨rfl, Below.refl _ _⟩
theorem Drop_nil (root : Int) (w : World) : Calls Tryz.prog 48 #[.pointer none, .int .i64 root] w fun e w' => e = .returned (.int .i64 1) ∧ Below w.heap.size w w' := by
  go_enter Tryz.func48, Tryz.ntmps48
  go_wp2
  go_ret
  exact ⟨rfl, (Below.refl _ _).alloc (Nat.le_refl _) _⟩
theorem Drop_zero {w pb tb mb lb L sv op base tx} (h : PgIn w pb tb mb lb L sv op base tx) : Calls Tryz.prog 48 #[ptr pb, .int .i64 0] w fun e w' => e = .returned (.int .i64 0) ∧ Below w.heap.size w w' := by
  have H := Lib.hid (h.below ((Below.refl _ _).alloc (Nat.le_refl _) (.cells #[ptr pb] 26)))
  clear h
  go_enter Tryz.func48, Tryz.ntmps48
  go_wp2_with (go_at_call 76; refine (write_in_range H.out 0 (.inl (by decide)) _).mono ?_; rintro e w' ⟨rfl, rfl⟩)
  go_ret
  exact ⟨rfl, (Below.refl _ _).alloc (Nat.le_refl _) _⟩

theorem readN_of {base : Int → List UInt8} {tx : Tx} {left n : Int} {kinds : List Int} {x : NodeM} (h1 : 2 ≤ n) (h2 : n ≤ tx.pages) (h3 : 1 ≤ left) (hv : tx.view base n = padN (bytesN x)) (hm : mayN x = true) (hl : (bytesN x).length ≤ 512) (hk : kinds.contains x.kind = true) : readN base tx left n kinds = some x := by
  unfold readN
  rw [if_neg (by omega), hv, takeN_put x hm hl, Option.bind_some, hk]; rfl
theorem view_put {base : Int → List UInt8} {tx : Tx} {n : Int} {s : List UInt8} : (tx.put n s).view base n = s := by simp [Tx.view, Tx.put]
theorem view_put_ne {base : Int → List UInt8} {tx : Tx} {n k : Int} {s : List UInt8} (h : k ≠ n) : (tx.put n s).view base k = tx.view base k := by simp [Tx.view, Tx.put, h]
theorem view_resize {base : Int → List UInt8} {tx : Tx} {n k : Int} (h : k ≤ tx.pages) (hn : k ≤ n) : (tx.resize n).view base k = tx.view base k := by
  simp only [Tx.view, Tx.resize]
  rw [if_neg (by omega), if_neg (by omega)]

end Go.Proofs.YtobmnnihmbdfjaaGreat

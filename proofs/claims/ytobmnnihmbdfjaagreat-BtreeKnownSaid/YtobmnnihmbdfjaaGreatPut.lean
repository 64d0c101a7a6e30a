/- btree.Put and btree.Delete of a tree of one leaf. -/
import Derived.Test.YtobmnnihmbdfjaaGreatNext
set_option linter.all false
namespace Go.Proofs.YtobmnnihmbdfjaaGreat
open Go.RowKit

abbrev leafN (l : List CellM) : NodeM := ⟨1, 0, l, []⟩
def RootPost (r z : Int) (w : World) (e : Ending) (w' : World) : Prop := e = .returned (.tuple #[.int .i64 r, .int .i64 z]) ∧ Below w.heap.size w w'
theorem putC (C : Nat) (x : NodeM) (v : Value) (key text : List UInt8) (kb xb tb : Nat) (w : World) (hr : CRow w C v x.cells) (hCw : C ≤ w.heap.size) (hkb : w.heap[kb]? = some (.cells #[vs key] 9)) (hkC : kb < C) (htb : w.heap[xb]? = some (.cells #[vs text] 9)) (htC : xb < C) (htl : text.length ≤ 100) (hso : SortedC x.cells) (hsm : Small x) (hsh : ∀ c ∈ x.cells, Short c) :
    Calls Tryz.prog 70 #[ptr tb, nodeV x v, ptr kb, ptr xb] w (NodePost C v ⟨x.kind, x.first, putL x.cells key text, x.data⟩ 0 w) := by
  cases h : isN x.cells key with
  | true => exact putC_yes C x v key text kb xb tb w hr hCw hkb hkC htb htC htl hso hsm hsh h
  | false => exact putC_no C x v key text kb xb tb w hr hCw hkb hkC htb htC htl hso hsm hsh h
theorem delC (C : Nat) (x : NodeM) (v : Value) (key : List UInt8) (kb tb : Nat) (w : World) (hr : CRow w C v x.cells) (hCw : C ≤ w.heap.size) (hkb : w.heap[kb]? = some (.cells #[vs key] 9)) (hkC : kb < C) (hso : SortedC x.cells) (hsm : Small x) (hsh : ∀ c ∈ x.cells, Short c) :
    Calls Tryz.prog 77 #[ptr tb, nodeV x v, ptr kb] w (NodePost C v ⟨x.kind, x.first, delL x.cells key, x.data⟩ (if isN x.cells key = true then 0 else 4) w) := by
  cases h : isN x.cells key with
  | true => exact delC_yes C x v key kb tb w hr hCw hkb hkC hso hsm hsh h
  | false =>
    have e : (⟨x.kind, x.first, delL x.cells key, x.data⟩ : NodeM) = x := by simp [delL, h]
    rw [e]; exact delC_no C x v key kb tb w hr hCw hkb hkC hso hsm hsh h

theorem Put_nil (root : Int) (key text : List UInt8) (w : World) : Calls Tryz.prog 14 #[.pointer none, .int .i64 root, vs key, vs text] w (RootPost 0 1 w) := by
  go_enter Tryz.func14, Tryz.ntmps14
  go_wp2
  go_ret2
  exact ⟨rfl, ((Below.refl _ _).alloc (Nat.le_refl _) _).alloc (by simp) _⟩
theorem Put_long (pb : Nat) (root : Int) (key text : List UInt8) (w : World) (hk : key.length ≤ 100000) (ht : text.length ≤ 100000) (h : 100 < key.length ∨ 4000 < text.length) : Calls Tryz.prog 14 #[ptr pb, .int .i64 root, vs key, vs text] w (RootPost 0 3 w) := by
  by_cases h1 : 100 < key.length
  · have e1 : (100 : Int) < (key.length : Int) := by omega
    clear h
    go_enter Tryz.func14, Tryz.ntmps14
    go_wp2
    go_ret2
    exact ⟨rfl, ((Below.refl _ _).alloc (Nat.le_refl _) _).alloc (by simp) _⟩
  · have e1 : ¬ (100 : Int) < (key.length : Int) := by omega
    have e2 : (4000 : Int) < (text.length : Int) := by omega
    clear h
    go_enter Tryz.func14, Tryz.ntmps14
    go_wp2
    go_ret2
    exact ⟨rfl, ((Below.refl _ _).alloc (Nat.le_refl _) _).alloc (by simp) _⟩
theorem Delete_nil (root : Int) (key : List UInt8) (w : World) : Calls Tryz.prog 17 #[.pointer none, .int .i64 root, vs key] w (RootPost 0 1 w) := by
  go_enter Tryz.func17, Tryz.ntmps17
  go_wp2
  go_ret2
  exact ⟨rfl, (Below.refl _ _).alloc (Nat.le_refl _) _⟩

set_option maxRecDepth 100000 in
set_option maxHeartbeats 8000000 in
theorem Put_leaf {w pb tt mb lb L sv op base tx} (h : PgIn w pb tt mb lb L sv op base tx) (root : Int) (hr1 : 2 ≤ root) (hr2 : root ≤ tx.pages) (key text : List UInt8) (hkl : key.length ≤ 100) (htl : text.length ≤ 100) (x : NodeM)
    (hlen : (tx.view base root).length ≤ 100000) (hrd : readN base tx 64 root [1, 2] = some x) (hk : x.kind = 1) (hso : SortedC x.cells) (hsm : Small x) (hsh : ∀ c ∈ x.cells, Short c) (hym : mayN ⟨x.kind, x.first, putL x.cells key text, x.data⟩ = true) (hyl : (bytesN ⟨x.kind, x.first, putL x.cells key text, x.data⟩).length ≤ 512) (hys : Small ⟨x.kind, x.first, putL x.cells key text, x.data⟩) :
    Calls Tryz.prog 14 #[ptr pb, .int .i64 root, vs key, vs text] w fun e w' => e = .returned (.tuple #[.int .i64 root, .int .i64 0]) ∧ PgIn w' pb tt mb lb L sv op base (tx.put root (padN (bytesN ⟨x.kind, x.first, putL x.cells key text, x.data⟩))) ∧ Chg [tt, mb] w w' := by
  have HPG := Lib.hid h.inB
  have HRD := Lib.hid hrd
  have HVL := Lib.hid hlen
  have HSO := Lib.hid hso
  have HSM := Lib.hid hsm
  have HSH := Lib.hid hsh
  have hr0 : (root == 0) = false := by rw [beq_eq_false_iff_ne]; omega
  have hkl1 : ¬ (100 : Int) < (key.length : Int) := by omega
  clear h hrd hlen hso hsm hsh
  have htl1 : ¬ (4000 : Int) < (text.length : Int) := by omega
  have HE1 := Lib.hid (Chg.refl [tt, mb] w)
  go_enter Tryz.func14, Tryz.ntmps14
  go_wp2_with fail
  have hC2 : Hid (Chg [] w ((w.alloc (.cells #[vs key] 9)).alloc (.cells #[vs text] 9))) := Lib.hid (((Chg.refl [] w).alloc (.cells #[vs key] 9)).alloc (.cells #[vs text] 9))
  have HZ3 := Lib.hid hC2.out.size
  have H_kb_4 : Hid (((w.alloc (.cells #[vs key] 9)).alloc (.cells #[vs text] 9)).heap[w.heap.size]? = some (.cells #[vs key] 9)) := Lib.hid (heapOld (heapNew (by simp [World.setCell]) (.cells #[vs key] 9)) (.cells #[vs text] 9))
  have H_xb_5 : Hid (((w.alloc (.cells #[vs key] 9)).alloc (.cells #[vs text] 9)).heap[w.heap.size + 1]? = some (.cells #[vs text] 9)) := Lib.hid (heapNew (by simp [World.setCell]) (.cells #[vs text] 9))
  have H_pg_6 := Lib.hid (PgB.kept HPG.out hC2.out (by simp))
  have HE7 := Lib.hid (HE1.out.after hC2.out (by simp))
  generalize ((w.alloc (.cells #[vs key] 9)).alloc (.cells #[vs text] 9)) = W8 at *
  have HL9 := Lib.hid (lt_of_block H_kb_4.out)
  have HL10 := Lib.hid (lt_of_block H_xb_5.out)
  have HYM := Lib.hid hym
  have HYL := Lib.hid hyl
  clear hym hyl
  have hne : 0 < (putL x.cells key text).length := by unfold putL insC; rw [List.length_append, List.length_cons]; omega
  go_at_call 69; refine (changed_ok H_pg_6.out.pg root key x ⟨x.kind, x.first, putL x.cells key text, x.data⟩ 0 70 #[ptr (w.heap.size), ptr (w.heap.size + 1)] HVL.out HRD.out hk (enters_of Tryz.func70 (by kernel_rfl) rfl) (fun W v C tb hb hC1 hC2 hr => putC C x v key text (w.heap.size) (w.heap.size + 1) tb W hr hC2 (Below.get hb H_kb_4.out) (by have := HZ3.out; have := HL9.out; have := HL10.out; omega) (Below.get hb H_xb_5.out) (by have := HZ3.out; have := HL9.out; have := HL10.out; omega) htl HSO.out HSM.out HSH.out) rfl HYM.out (.inl hk) HYL.out hys hne hr1 hr2).mono ?_; rintro e W11 ⟨rfl, hP, hC⟩
  have HP := Lib.hid hP
  have HC := Lib.hid hC
  clear hP hC
  go_wp2_with fail
  go_ret2
  exact ⟨rfl, HP.out, HE7.out.trans HC.out⟩

set_option maxRecDepth 100000 in
set_option maxHeartbeats 8000000 in
theorem Delete_no {w pb tt mb lb L sv op base tx} (h : PgIn w pb tt mb lb L sv op base tx) (root : Int) (hr1 : 2 ≤ root) (hr2 : root ≤ tx.pages) (key : List UInt8) (hkl : key.length ≤ 100) (x : NodeM)
    (hlen : (tx.view base root).length ≤ 100000) (hrd : readN base tx 64 root [1, 2] = some x) (hk : x.kind = 1) (hso : SortedC x.cells) (hsm : Small x) (hsh : ∀ c ∈ x.cells, Short c) (his : isN x.cells key = false) :
    Calls Tryz.prog 17 #[ptr pb, .int .i64 root, vs key] w (RootPost 0 4 w) := by
  have HPG := Lib.hid h.inB
  have HRD := Lib.hid hrd
  have HVL := Lib.hid hlen
  have HSO := Lib.hid hso
  have HSM := Lib.hid hsm
  have HSH := Lib.hid hsh
  have hr0 : (root == 0) = false := by rw [beq_eq_false_iff_ne]; omega
  have hkl1 : ¬ (100 : Int) < (key.length : Int) := by omega
  clear h hrd hlen hso hsm hsh
  have HE1 := Lib.hid (Chg.refl [tt, mb] w)
  go_enter Tryz.func17, Tryz.ntmps17
  go_wp2_with fail
  have hC2 : Hid (Chg [] w (w.alloc (.cells #[vs key] 9))) := Lib.hid ((Chg.refl [] w).alloc (.cells #[vs key] 9))
  have HZ3 := Lib.hid hC2.out.size
  have H_kb_4 : Hid ((w.alloc (.cells #[vs key] 9)).heap[w.heap.size]? = some (.cells #[vs key] 9)) := Lib.hid (heapNew (by simp [World.setCell]) (.cells #[vs key] 9))
  have H_pg_5 := Lib.hid (PgB.kept HPG.out hC2.out (by simp))
  have HE6 := Lib.hid (HE1.out.after hC2.out (by simp))
  generalize (w.alloc (.cells #[vs key] 9)) = W7 at *
  have HL8 := Lib.hid (lt_of_block H_kb_4.out)
  have HIS := Lib.hid his
  clear his
  go_at_call 69; refine (changed_err H_pg_5.out.pg root key x ⟨x.kind, x.first, delL x.cells key, x.data⟩ (if isN x.cells key = true then 0 else 4) 77 #[ptr (w.heap.size)] HVL.out HRD.out hk (enters_of Tryz.func77 (by kernel_rfl) rfl) (fun W v C tb hb hC1 hC2 hr => delC C x v key (w.heap.size) tb W hr hC2 (Below.get hb H_kb_4.out) (by have := HZ3.out; have := HL8.out; omega) HSO.out HSM.out HSH.out) (by rw [HIS.out]; decide)).mono ?_; rintro e W9 ⟨rfl, hB⟩
  have HB := Lib.hid hB
  clear hB
  rw [show (if isN x.cells key = true then (0 : Int) else 4) = 4 by rw [HIS.out]; rfl]
  go_wp2_with fail
  go_ret2
  exact ⟨rfl, (hC2.out.to_below (Nat.le_refl _) (by simp)).trans (HB.out.mono hC2.out.size)⟩

set_option maxRecDepth 100000 in
set_option maxHeartbeats 8000000 in
theorem Delete_ok {w pb tt mb lb L sv op base tx} (h : PgIn w pb tt mb lb L sv op base tx) (root : Int) (hr1 : 2 ≤ root) (hr2 : root ≤ tx.pages) (key : List UInt8) (hkl : key.length ≤ 100) (x : NodeM)
    (hlen : (tx.view base root).length ≤ 100000) (hrd : readN base tx 64 root [1, 2] = some x) (hk : x.kind = 1) (hso : SortedC x.cells) (hsm : Small x) (hsh : ∀ c ∈ x.cells, Short c) (his : isN x.cells key = true) (hym : mayN ⟨x.kind, x.first, delL x.cells key, x.data⟩ = true) (hyl : (bytesN ⟨x.kind, x.first, delL x.cells key, x.data⟩).length ≤ 512) (hys : Small ⟨x.kind, x.first, delL x.cells key, x.data⟩) (hne : 0 < (delL x.cells key).length) :
    Calls Tryz.prog 17 #[ptr pb, .int .i64 root, vs key] w fun e w' => e = .returned (.tuple #[.int .i64 root, .int .i64 0]) ∧ PgIn w' pb tt mb lb L sv op base (tx.put root (padN (bytesN ⟨x.kind, x.first, delL x.cells key, x.data⟩))) ∧ Chg [tt, mb] w w' := by
  have HPG := Lib.hid h.inB
  have HRD := Lib.hid hrd
  have HVL := Lib.hid hlen
  have HSO := Lib.hid hso
  have HSM := Lib.hid hsm
  have HSH := Lib.hid hsh
  have hr0 : (root == 0) = false := by rw [beq_eq_false_iff_ne]; omega
  have hkl1 : ¬ (100 : Int) < (key.length : Int) := by omega
  clear h hrd hlen hso hsm hsh
  have HE1 := Lib.hid (Chg.refl [tt, mb] w)
  go_enter Tryz.func17, Tryz.ntmps17
  go_wp2_with fail
  have hC2 : Hid (Chg [] w (w.alloc (.cells #[vs key] 9))) := Lib.hid ((Chg.refl [] w).alloc (.cells #[vs key] 9))
  have HZ3 := Lib.hid hC2.out.size
  have H_kb_4 : Hid ((w.alloc (.cells #[vs key] 9)).heap[w.heap.size]? = some (.cells #[vs key] 9)) := Lib.hid (heapNew (by simp [World.setCell]) (.cells #[vs key] 9))
  have H_pg_5 := Lib.hid (PgB.kept HPG.out hC2.out (by simp))
  have HE6 := Lib.hid (HE1.out.after hC2.out (by simp))
  generalize (w.alloc (.cells #[vs key] 9)) = W7 at *
  have HL8 := Lib.hid (lt_of_block H_kb_4.out)
  have HIS := Lib.hid his
  have HYM := Lib.hid hym
  have HYL := Lib.hid hyl
  clear his hym hyl
  go_at_call 69; refine (changed_ok H_pg_5.out.pg root key x ⟨x.kind, x.first, delL x.cells key, x.data⟩ (if isN x.cells key = true then 0 else 4) 77 #[ptr (w.heap.size)] HVL.out HRD.out hk (enters_of Tryz.func77 (by kernel_rfl) rfl) (fun W v C tb hb hC1 hC2 hr => delC C x v key (w.heap.size) tb W hr hC2 (Below.get hb H_kb_4.out) (by have := HZ3.out; have := HL8.out; omega) HSO.out HSM.out HSH.out) (by rw [HIS.out]; rfl) HYM.out (.inl hk) HYL.out hys hne hr1 hr2).mono ?_; rintro e W9 ⟨rfl, hP, hC⟩
  have HP := Lib.hid hP
  have HC := Lib.hid hC
  clear hP hC
  go_wp2_with fail
  go_ret2
  exact ⟨rfl, HP.out, HE6.out.trans HC.out⟩

set_option maxRecDepth 100000 in
set_option maxHeartbeats 8000000 in
theorem Delete_empty {w pb tt mb lb L sv op base tx} (h : PgIn w pb tt mb lb L sv op base tx) (root : Int) (hr1 : 2 ≤ root) (hr2 : root ≤ tx.pages) (key : List UInt8) (hkl : key.length ≤ 100) (x : NodeM)
    (hlen : (tx.view base root).length ≤ 100000) (hrd : readN base tx 64 root [1, 2] = some x) (hk : x.kind = 1) (hso : SortedC x.cells) (hsm : Small x) (hsh : ∀ c ∈ x.cells, Short c) (his : isN x.cells key = true) (hys : Small ⟨x.kind, x.first, delL x.cells key, x.data⟩) (hye : delL x.cells key = []) (hd : Hdr) (hvw : tx.view base 1 = putH hd) (hmb : mayB hd = true) (hu : U64 hd.commits) :
    Calls Tryz.prog 17 #[ptr pb, .int .i64 root, vs key] w fun e w' => e = .returned (.tuple #[.int .i64 x.first, .int .i64 0]) ∧ PgIn w' pb tt mb lb L sv op base (freeTx tx hd root) ∧ Chg [tt, mb] w w' := by
  have HPG := Lib.hid h.inB
  have HRD := Lib.hid hrd
  have HVL := Lib.hid hlen
  have HSO := Lib.hid hso
  have HSM := Lib.hid hsm
  have HSH := Lib.hid hsh
  have hr0 : (root == 0) = false := by rw [beq_eq_false_iff_ne]; omega
  have hkl1 : ¬ (100 : Int) < (key.length : Int) := by omega
  clear h hrd hlen hso hsm hsh
  have HE1 := Lib.hid (Chg.refl [tt, mb] w)
  go_enter Tryz.func17, Tryz.ntmps17
  go_wp2_with fail
  have hC2 : Hid (Chg [] w (w.alloc (.cells #[vs key] 9))) := Lib.hid ((Chg.refl [] w).alloc (.cells #[vs key] 9))
  have HZ3 := Lib.hid hC2.out.size
  have H_kb_4 : Hid ((w.alloc (.cells #[vs key] 9)).heap[w.heap.size]? = some (.cells #[vs key] 9)) := Lib.hid (heapNew (by simp [World.setCell]) (.cells #[vs key] 9))
  have H_pg_5 := Lib.hid (PgB.kept HPG.out hC2.out (by simp))
  have HE6 := Lib.hid (HE1.out.after hC2.out (by simp))
  generalize (w.alloc (.cells #[vs key] 9)) = W7 at *
  have HL8 := Lib.hid (lt_of_block H_kb_4.out)
  have HIS := Lib.hid his
  have HYE := Lib.hid hye
  have HVW := Lib.hid hvw
  have HMB := Lib.hid hmb
  have HU := Lib.hid hu
  clear his hye hvw hmb hu
  go_at_call 69; refine (changed_empty H_pg_5.out.pg root key x ⟨x.kind, x.first, delL x.cells key, x.data⟩ (if isN x.cells key = true then 0 else 4) 77 #[ptr (w.heap.size)] HVL.out HRD.out hk (enters_of Tryz.func77 (by kernel_rfl) rfl) (fun W v C tb hb hC1 hC2 hr => delC C x v key (w.heap.size) tb W hr hC2 (Below.get hb H_kb_4.out) (by have := HZ3.out; have := HL8.out; omega) HSO.out HSM.out HSH.out) (by rw [HIS.out]; rfl) (.inl hk) hys HYE.out hd HVW.out HMB.out HU.out hr1 hr2).mono ?_; rintro e W9 ⟨rfl, hP, hC⟩
  have HP := Lib.hid hP
  have HC := Lib.hid hC
  clear hP hC
  go_wp2_with fail
  go_ret2
  exact ⟨rfl, HP.out, HE6.out.trans HC.out⟩

theorem cellsAt_one {w : World} {b : Nat} {c : CellM} (h : w.heap[b]? = some (cellO c)) : CellsAt w (.slice (some ⟨b, 0, none⟩) 1 1) [c] := by
  refine .inr ⟨b, 0, 1, rfl, lt_of_block h, fun i d hd => ?_⟩
  cases i with
  | zero =>
    simp only [List.getElem?_cons_zero, Option.some.injEq] at hd
    subst hd
    exact ⟨cellAt h 0, cellAt h 1, cellAt h 2, cellAt h 3⟩
  | succ i => simp at hd
theorem oneLeaf_may {key text : List UInt8} (hk : key.length ≤ 100) (ht : text.length ≤ 100) : mayN (leafN [⟨key, text.length, text, 0⟩]) = true := by
  have h1 : cellB 1 ⟨key, text.length, text, 0⟩ = true := by
    simp only [cellB]
    rw [if_neg (by omega), if_neg (by decide), if_neg (by omega), if_neg (by omega)]
    simp
  simp [mayN, cellsB, okAt, h1]
theorem oneLeaf_len {key text : List UInt8} (hk : key.length ≤ 100) (ht : text.length ≤ 100) : (bytesN (leafN [⟨key, text.length, text, 0⟩])).length ≤ 512 := by
  simp [bytesN, headN, cellBytes, two]
  omega
theorem oneLeaf_small {key text : List UInt8} (hk : key.length ≤ 100) (ht : text.length ≤ 100) : Small (leafN [⟨key, text.length, text, 0⟩]) := by
  refine ⟨by simp, by simp, fun c hc => ?_⟩
  simp only [List.mem_singleton] at hc
  subst hc
  exact ⟨by simp only; omega, by simp only; omega⟩

set_option maxRecDepth 100000 in
set_option maxHeartbeats 8000000 in
theorem Put_zero {w pb tt mb lb L sv op base tx} (h : PgIn w pb tt mb lb L sv op base tx) (key text : List UInt8) (hkl : key.length ≤ 100) (htl : text.length ≤ 100) (hp : 1 ≤ tx.pages) (hr : tx.pages < 256) (hd : Hdr) (hvw : tx.view base 1 = putH hd) (hmb : mayB hd = true) (hu : U64 hd.commits) (hf : hd.free = 0) :
    Calls Tryz.prog 14 #[ptr pb, .int .i64 0, vs key, vs text] w fun e w' => e = .returned (.tuple #[.int .i64 (tx.pages + 1), .int .i64 0]) ∧ PgIn w' pb tt mb lb L sv op base ((tx.resize (tx.pages + 1)).put (tx.pages + 1) (padN (bytesN (leafN [⟨key, text.length, text, 0⟩])))) ∧ Chg [tt, mb] w w' := by
  have HPG := Lib.hid h.inB
  have hkl1 : ¬ (100 : Int) < (key.length : Int) := by omega
  have htl1 : ¬ (4000 : Int) < (text.length : Int) := by omega
  have HVW := Lib.hid hvw
  have HMB := Lib.hid hmb
  have HU := Lib.hid hu
  have HF := Lib.hid hf
  have hhi := h.hi
  have hlo := h.lo
  have HVT : Hid (takeH (tx.view base 1) = some hd) := Lib.hid (by rw [hvw]; exact takeH_putH hd hmb hu)
  have HVL : Hid ((tx.view base 1).length = 512) := Lib.hid (by rw [hvw]; exact putH_length hd)
  clear h hvw hmb hu hf
  have HE1 := Lib.hid (Chg.refl [tt, mb] w)
  go_enter Tryz.func14, Tryz.ntmps14
  go_wp2_with fail
  have hC2 : Hid (Chg [] w ((w.alloc (.cells #[vs key] 9)).alloc (.cells #[vs text] 9))) := Lib.hid (((Chg.refl [] w).alloc (.cells #[vs key] 9)).alloc (.cells #[vs text] 9))
  have HZ3 := Lib.hid hC2.out.size
  have H_kb_4 : Hid (((w.alloc (.cells #[vs key] 9)).alloc (.cells #[vs text] 9)).heap[w.heap.size]? = some (.cells #[vs key] 9)) := Lib.hid (heapOld (heapNew (by simp [World.setCell]) (.cells #[vs key] 9)) (.cells #[vs text] 9))
  have H_xb_5 : Hid (((w.alloc (.cells #[vs key] 9)).alloc (.cells #[vs text] 9)).heap[w.heap.size + 1]? = some (.cells #[vs text] 9)) := Lib.hid (heapNew (by simp [World.setCell]) (.cells #[vs text] 9))
  have H_pg_6 := Lib.hid (PgB.kept HPG.out hC2.out (by simp))
  have HE7 := Lib.hid (HE1.out.after hC2.out (by simp))
  generalize ((w.alloc (.cells #[vs key] 9)).alloc (.cells #[vs text] 9)) = W8 at *
  have HL9 := Lib.hid (lt_of_block H_kb_4.out)
  have HL10 := Lib.hid (lt_of_block H_xb_5.out)
  go_at_call 53; refine (alloc_grow H_pg_6.out.pg (by omega) HVL.out hd HVT.out HF.out hr).mono ?_; rintro e W11 ⟨rfl, hP, hC⟩
  have HP := Lib.hid hP
  clear hP
  have HPG1 := Lib.hid (H_pg_6.out.then HP.out hC.size)
  have HB2 := Lib.hid H_pg_6.out.b2
  have HB3 := Lib.hid H_pg_6.out.b3
  have hC12 := Lib.hid hC
  have HZ13 := Lib.hid hC12.out.size
  have H_kb_14 := Lib.hid (hC12.out.get H_kb_4.out (by have := HZ3.out; have := HL9.out; have := HL10.out; have := HB2.out; have := HB3.out; have := HZ13.out; simp only [List.mem_cons, List.mem_singleton, List.not_mem_nil, or_false, not_or, not_false_eq_true]; omega))
  have H_xb_15 := Lib.hid (hC12.out.get H_xb_5.out (by have := HZ3.out; have := HL9.out; have := HL10.out; have := HB2.out; have := HB3.out; have := HZ13.out; simp only [List.mem_cons, List.mem_singleton, List.not_mem_nil, or_false, not_or, not_false_eq_true]; omega))
  have HE16 := Lib.hid (HE7.out.after hC12.out (by intro k hk; have := HZ3.out; have := HL9.out; have := HL10.out; have := HB2.out; have := HB3.out; have := HZ13.out; simp only [List.mem_cons, List.mem_singleton, List.not_mem_nil, or_false] at hk ⊢; omega))
  clear hC
  go_wp2_with fail
  go_at_call 66; refine (tbegin _ _).mono ?_; rintro e w' ⟨rfl, rfl⟩
  have o_kb_0_1 : (W11.alloc (treeO pb 64)).cell? ⟨w.heap.size, 0, none⟩ = some (vs key) := cellAt (heapOld H_kb_14.out (treeO pb 64)) 0
  have o_xb_0_1 : (W11.alloc (treeO pb 64)).cell? ⟨w.heap.size + 1, 0, none⟩ = some (vs text) := cellAt (heapOld H_xb_15.out (treeO pb 64)) 0
  go_wp2_with fail
  clear o_kb_0_1 o_xb_0_1
  have HL17 := Lib.hid (lt_of_block H_kb_14.out)
  have HL18 := Lib.hid (lt_of_block H_xb_15.out)
  have hC19 : Hid (Chg [] W11 (W11.alloc (treeO pb 64))) := Lib.hid ((Chg.refl [] W11).alloc (treeO pb 64))
  have HZ20 := Lib.hid hC19.out.size
  have H_kb_21 : Hid ((W11.alloc (treeO pb 64)).heap[w.heap.size]? = some (.cells #[vs key] 9)) := Lib.hid (heapOld H_kb_14.out (treeO pb 64))
  have H_xb_22 : Hid ((W11.alloc (treeO pb 64)).heap[w.heap.size + 1]? = some (.cells #[vs text] 9)) := Lib.hid (heapOld H_xb_15.out (treeO pb 64))
  have H_t_23 : Hid ((W11.alloc (treeO pb 64)).heap[W11.heap.size]? = some (treeO pb 64)) := Lib.hid (heapNew (by simp [World.setCell]) (treeO pb 64))
  have H_pg_24 := Lib.hid (PgB.kept HPG1.out hC19.out (by simp))
  have HE25 := Lib.hid (HE16.out.after hC19.out (by simp))
  generalize (W11.alloc (treeO pb 64)) = W26 at *
  go_at_call 67; refine (tcell_short key text htl _ _).mono ?_; rintro e W27 ⟨rfl, hb⟩
  have hC28 := Lib.hid (Chg.of_below hb [])
  have HZ29 := Lib.hid hC28.out.size
  have H_kb_30 := Lib.hid (hC28.out.get H_kb_21.out (by simp))
  have H_xb_31 := Lib.hid (hC28.out.get H_xb_22.out (by simp))
  have H_t_32 := Lib.hid (hC28.out.get H_t_23.out (by simp))
  have H_pg_33 := Lib.hid (PgB.kept H_pg_24.out hC28.out (by simp))
  have HE34 := Lib.hid (HE25.out.after hC28.out (by simp))
  clear hb
  go_wp2_with fail
  have HL35 := Lib.hid (lt_of_block H_kb_30.out)
  have HL36 := Lib.hid (lt_of_block H_xb_31.out)
  have HL37 := Lib.hid (lt_of_block H_t_32.out)
  have hC38 : Hid (Chg [] W27 ((W27.alloc (.cells #[vs key, .int .i64 text.length, vs text, .int .i64 0] 144)).alloc (.cells #[vs key, .int .i64 text.length, vs text, .int .i64 0] 144))) := Lib.hid (((Chg.refl [] W27).alloc (.cells #[vs key, .int .i64 text.length, vs text, .int .i64 0] 144)).alloc (.cells #[vs key, .int .i64 text.length, vs text, .int .i64 0] 144))
  have HZ39 := Lib.hid hC38.out.size
  have H_kb_40 : Hid (((W27.alloc (.cells #[vs key, .int .i64 text.length, vs text, .int .i64 0] 144)).alloc (.cells #[vs key, .int .i64 text.length, vs text, .int .i64 0] 144)).heap[w.heap.size]? = some (.cells #[vs key] 9)) := Lib.hid (heapOld (heapOld H_kb_30.out (.cells #[vs key, .int .i64 text.length, vs text, .int .i64 0] 144)) (.cells #[vs key, .int .i64 text.length, vs text, .int .i64 0] 144))
  have H_xb_41 : Hid (((W27.alloc (.cells #[vs key, .int .i64 text.length, vs text, .int .i64 0] 144)).alloc (.cells #[vs key, .int .i64 text.length, vs text, .int .i64 0] 144)).heap[w.heap.size + 1]? = some (.cells #[vs text] 9)) := Lib.hid (heapOld (heapOld H_xb_31.out (.cells #[vs key, .int .i64 text.length, vs text, .int .i64 0] 144)) (.cells #[vs key, .int .i64 text.length, vs text, .int .i64 0] 144))
  have H_t_42 : Hid (((W27.alloc (.cells #[vs key, .int .i64 text.length, vs text, .int .i64 0] 144)).alloc (.cells #[vs key, .int .i64 text.length, vs text, .int .i64 0] 144)).heap[W11.heap.size]? = some (treeO pb 64)) := Lib.hid (heapOld (heapOld H_t_32.out (.cells #[vs key, .int .i64 text.length, vs text, .int .i64 0] 144)) (.cells #[vs key, .int .i64 text.length, vs text, .int .i64 0] 144))
  have H_c_43 : Hid (((W27.alloc (.cells #[vs key, .int .i64 text.length, vs text, .int .i64 0] 144)).alloc (.cells #[vs key, .int .i64 text.length, vs text, .int .i64 0] 144)).heap[W27.heap.size]? = some (.cells #[vs key, .int .i64 text.length, vs text, .int .i64 0] 144)) := Lib.hid (heapOld (heapNew (by simp [World.setCell]) (.cells #[vs key, .int .i64 text.length, vs text, .int .i64 0] 144)) (.cells #[vs key, .int .i64 text.length, vs text, .int .i64 0] 144))
  have H_row_44 : Hid (((W27.alloc (.cells #[vs key, .int .i64 text.length, vs text, .int .i64 0] 144)).alloc (.cells #[vs key, .int .i64 text.length, vs text, .int .i64 0] 144)).heap[W27.heap.size + 1]? = some (.cells #[vs key, .int .i64 text.length, vs text, .int .i64 0] 144)) := Lib.hid (heapNew (by simp [World.setCell]) (.cells #[vs key, .int .i64 text.length, vs text, .int .i64 0] 144))
  have H_pg_45 := Lib.hid (PgB.kept H_pg_33.out hC38.out (by simp))
  have HE46 := Lib.hid (HE34.out.after hC38.out (by simp))
  generalize ((W27.alloc (.cells #[vs key, .int .i64 text.length, vs text, .int .i64 0] 144)).alloc (.cells #[vs key, .int .i64 text.length, vs text, .int .i64 0] 144)) = W47 at *
  have HL48 := Lib.hid (lt_of_block H_kb_40.out)
  have HL49 := Lib.hid (lt_of_block H_xb_41.out)
  have HL50 := Lib.hid (lt_of_block H_t_42.out)
  have HL51 := Lib.hid (lt_of_block H_c_43.out)
  have HL52 := Lib.hid (lt_of_block H_row_44.out)
  obtain ⟨cl, hcl⟩ : ∃ cl : CellM, cl = ⟨key, text.length, text, 0⟩ := ⟨_, rfl⟩
  have HCA : Hid (CellsAt W47 (.slice (some ⟨W27.heap.size + 1, 0, none⟩) 1 1) (leafN [⟨key, text.length, text, 0⟩]).cells) := Lib.hid (cellsAt_one H_row_44.out)
  clear hcl cl
  go_at_call 68; refine (twrite H_pg_45.out (W11.heap.size) (by have := HZ3.out; have := HL9.out; have := HL10.out; have := HB2.out; have := HB3.out; have := HZ13.out; have := HL17.out; have := HL18.out; have := HZ20.out; have := HZ29.out; have := HL35.out; have := HL36.out; have := HL37.out; have := HZ39.out; have := HL48.out; have := HL49.out; have := HL50.out; have := HL51.out; have := HL52.out; omega) 64 (tx.pages + 1) H_t_42.out (leafN [⟨key, text.length, text, 0⟩]) _ HCA.out (oneLeaf_may hkl htl) (oneLeaf_len hkl htl) (oneLeaf_small hkl htl) (by omega) (by show tx.pages + 1 ≤ (tx.resize (tx.pages + 1)).pages; exact Int.le_refl _)).mono ?_; rintro e W53 ⟨rfl, hP, hC⟩
  have HPF := Lib.hid hP
  have HCF := Lib.hid hC
  clear hP hC
  go_wp2_with fail
  go_ret2
  exact ⟨rfl, HPF.out.pg, HE46.out.trans HCF.out⟩

end Go.Proofs.YtobmnnihmbdfjaaGreat

/- The pager in a transaction, as the layers above use it: all its blocks lie below B. -/
import Derived.Test.YtobmnnihmbdfjaaGreatSAlloc
import Derived.Test.YtobmnnihmbdfjaaGreatCRows
import Derived.Test.YtobmnnihmbdfjaaGreatNTakeS
import Derived.Test.YtobmnnihmbdfjaaGreatNTake0
import Derived.Test.YtobmnnihmbdfjaaGreatNTake1
import Derived.Test.YtobmnnihmbdfjaaGreatNTake2
import Derived.Test.YtobmnnihmbdfjaaGreatNTake3
import Derived.Test.YtobmnnihmbdfjaaGreatKeys
set_option linter.all false
namespace Go.Proofs.YtobmnnihmbdfjaaGreat
open Go.RowKit

/-- A pager in a transaction, whose blocks lie below B. -/
structure PgB (B : Nat) (w : World) (pb tb mb lb : Nat) (L : List Nat) (sv : Value) (op : Int) (base : Int → List UInt8) (tx : Tx) : Prop where
  pg : PgIn w pb tb mb lb L sv op base tx
  b1 : pb < B
  b2 : tb < B
  b3 : mb < B
  b4 : ∀ k ∈ L, k < B
  le : B ≤ w.heap.size

theorem PgB.kept {B w w' pb tb mb lb L sv op base tx} (h : PgB B w pb tb mb lb L sv op base tx) {S : List Nat} (hc : Chg S w w') (hS : ∀ k ∈ S, B ≤ k) : PgB B w' pb tb mb lb L sv op base tx :=
  ⟨h.pg.kept hc (fun hm => by have := hS _ hm; have := h.b1; omega) (fun hm => by have := hS _ hm; have := h.b2; omega) (fun hm => by have := hS _ hm; have := h.b3; omega) (fun k hk hm => by have := hS _ hm; have := h.b4 k hk; omega), h.b1, h.b2, h.b3, h.b4, Nat.le_trans h.le hc.size⟩
theorem PgB.below {B w w' pb tb mb lb L sv op base tx} (h : PgB B w pb tb mb lb L sv op base tx) (hc : Below w.heap.size w w') : PgB B w' pb tb mb lb L sv op base tx :=
  h.kept (Chg.of_below hc []) (by simp)
theorem PgB.up {B B' w pb tb mb lb L sv op base tx} (h : PgB B w pb tb mb lb L sv op base tx) (hB : B ≤ B') (hw : B' ≤ w.heap.size) : PgB B' w pb tb mb lb L sv op base tx :=
  ⟨h.pg, Nat.lt_of_lt_of_le h.b1 hB, Nat.lt_of_lt_of_le h.b2 hB, Nat.lt_of_lt_of_le h.b3 hB, fun k hk => Nat.lt_of_lt_of_le (h.b4 k hk) hB, hw⟩
theorem PgIn.inB {w pb tb mb lb L sv op base tx} (h : PgIn w pb tb mb lb L sv op base tx) : PgB w.heap.size w pb tb mb lb L sv op base tx := by
  obtain ⟨n, mk, hl⟩ := h.log
  exact ⟨h, lt_of_block h.pager, lt_of_block h.trans, h.mb_lt, hl.own, Nat.le_refl _⟩
/-- Behind a change of the pager's own blocks. -/
theorem PgB.then {B w w' pb tb mb lb L sv op base tx tx'} (h : PgB B w pb tb mb lb L sv op base tx) (h' : PgIn w' pb tb mb lb L sv op base tx') (hs : w.heap.size ≤ w'.heap.size) : PgB B w' pb tb mb lb L sv op base tx' :=
  ⟨h', h.b1, h.b2, h.b3, h.b4, Nat.le_trans h.le hs⟩

/-- node.Take of any text. -/
theorem ntake_any (p : List UInt8) (w : World) (hl : p.length ≤ 100000) : Calls Tryz.prog 123 #[vs p] w (TakePost p w) := by
  by_cases h5 : p.length = 512
  · by_cases k1 : kindOf p = 1
    · exact ntake_k1 p h5 k1 w
    by_cases k2 : kindOf p = 2
    · exact ntake_k2 p h5 k2 w
    by_cases k3 : kindOf p = 3
    · exact ntake_k3 p h5 k3 w
    · exact ntake_k0 p h5 ⟨k1, k2, k3⟩ w
  · exact ntake_short p h5 hl w

end Go.Proofs.YtobmnnihmbdfjaaGreat

/- btree.All of no pager: nothing is told. -/
import Derived.Test.YtobmnnihmbdfjaaGreatKnown1
import Derived.RangeFuncNested
import Derived.RangeFuncBound
import Derived.RangeFuncCalls
import Derived.RangeFuncLeaves
import Derived.RangeFuncFrom
import Derived.Shelf.Abstract
import Derived.Shelf.RegionOpen
import Derived.OwnWalkIn
import Derived.TacticsInMore
import Derived.LoopNIn
import Derived.LoopIn
set_option linter.all false
namespace Go.Proofs.YtobmnnihmbdfjaaGreat
open Go.RowKit Go.Shelf
attribute [local go_sem] Oper.semAt_some

theorem Next_nil_same (root : Int) (from_ : List UInt8) (w : World) : Calls Tryz.prog 15 #[.pointer none, .int .i64 root, vs from_] w fun e w' => e = .returned (.tuple #[vs [], vs [], .int .i64 1]) ∧ w = w' := by
  go_enter Tryz.func15, Tryz.ntmps15
  go_wp2
  go_ret3
  exact ⟨rfl, rfl⟩
theorem All_any (p : Value) (root : Int) (from_ : List UInt8) (w : World) (hp : p = .pointer none) : Calls Tryz.prog 45 #[p, .int .i64 root, vs from_] w fun e w' => e = .returned (.func (.func 108) #[] #[ptr w.heap.size, ptr (w.heap.size + 1), ptr (w.heap.size + 2)]) ∧ w' = ((w.alloc (.cells #[p] 26)).alloc (.cells #[.int .i64 root] 3)).alloc (.cells #[vs from_] 9) := by
  subst hp
  go_enter Tryz.func45, Tryz.ntmps45
  go_wp2
  go_ret
  exact ⟨rfl, rfl⟩

set_option maxRecDepth 100000 in
set_option maxHeartbeats 2000000 in
theorem all_nil_stops (n : Nat) (b1 b2 b3 : Nat) (root : Int) (from_ : List UInt8) (n0 : Nat) (w : World) (h1 : w.heap[b1]? = some (.cells #[.pointer none] 26)) (h2 : w.heap[b2]? = some (.cells #[.int .i64 root] 3)) (h3 : w.heap[b3]? = some (.cells #[vs from_] 9)) :
    SeqStopsK Fence.wide n Tryz.prog 108 #[ptr b1, ptr b2, ptr b3] (fun x : Empty => x.elim) (Below n0) (fun xs => xs = []) (fun _ => False) 0 w := fun l J Jx W hW hJ hJx hY h0 => by
  refine (callsIn_wide (n := n)).2 ?_
  have c1 : W.cell? ⟨b1, 0, none⟩ = some (.pointer none) := cellAt (Below.get hW h1) 0
  have c2 : W.cell? ⟨b2, 0, none⟩ = some (.int .i64 root) := cellAt (Below.get hW h2) 0
  have c3 : W.cell? ⟨b3, 0, none⟩ = some (vs from_) := cellAt (Below.get hW h3) 0
  have HJ : Hid (J [] W) := Lib.hid h0
  clear hJ hJx hY h0 hW h1 h2 h3
  show Calls Tryz.prog 108 #[.func (.yield l) #[] #[], ptr b1, ptr b2, ptr b3] W _
  go_enter Tryz.func108, Tryz.ntmps108
  go_wp2_with fail
  refine wp_loop_rounds 1 ?_
  rw [rounds_succ]
  go_wp2_with (go_at_call 15; refine (Next_nil_same root from_ _).mono ?_; rintro e w' ⟨rfl, rfl⟩)
  refine bodyPost_ret (results_none rfl _ _ _) rfl ?_
  exact ⟨⟨_, rfl⟩, .inl ⟨[], rfl, HJ.out⟩⟩

end Go.Proofs.YtobmnnihmbdfjaaGreat

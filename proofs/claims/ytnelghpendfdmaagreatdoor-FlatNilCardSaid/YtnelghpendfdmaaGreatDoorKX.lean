-- words that two printed texts of law 12 need beside those of the row (out of the kit's print, by a program of this session)
import Derived.Test.YtnelghpendfdmaaGreatDoorWWords
import Derived.Test.YtnelghpendfdmaaGreatDoorWLast
namespace Go.Proofs.YtnelghpendfdmaaGreatDoorW.PrintWords
open Go.RowKit
theorem blk_alloc {w : World} {g : Nat} {o : Obj} (h : w.heap[g]? = some o) (o' : Obj) : (w.alloc o').heap[g]? = some o :=(Below.heap_alloc w o' g (blk_lt h)).trans h
theorem blk_drew {w : World} {g : Nat} {o : Obj} (h : w.heap[g]? = some o) : w.drew.heap[g]? = some o :=h
theorem blk_drewN {w : World} {g : Nat} {o : Obj} (h : w.heap[g]? = some o) (n : Nat) : (w.drewN n).heap[g]? = some o :=h
theorem blk_below {w w1 : World} {g : Nat} {o : Obj} (h : w.heap[g]? = some o) (hb : Below w.heap.size w w1) : w1.heap[g]? = some o :=(hb.block g (blk_lt h)).trans h
end Go.Proofs.YtnelghpendfdmaaGreatDoorW.PrintWords

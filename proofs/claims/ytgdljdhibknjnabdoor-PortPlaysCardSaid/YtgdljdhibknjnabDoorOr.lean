/- The numbers of messages: plain facts, no program in sight. -/
import Derived.WalkKit
namespace Go.Proofs.YtgdljdhibknjnabDoor
/-- The number of the k-th message. -/
def ordr (k : Nat) : Int := if k = 0 then 0 else (((k - 1) % 255 + 1 : Nat) : Int)
/-- The number of the newest one told, if so many places are behind (0: none told). -/
def nwst (L : Nat) : Int := if L = 0 then -1 else ordr (L - 1)
theorem ordr_bd (k : Nat) : 0 ≤ ordr k ∧ ordr k ≤ 255 := by unfold ordr; split <;> omega
theorem nwst_bd (L : Nat) : -1 ≤ nwst L ∧ nwst L ≤ 255 := by
  unfold nwst
  split
  · omega
  · have := ordr_bd (L - 1); omega
theorem ordr_succ (k : Nat) : (if ordr k + 1 = 256 then 1 else ordr k + 1) = ordr (k + 1) := by
  unfold ordr
  by_cases h : k = 0
  · subst h; rfl
  · rw [if_neg h, if_neg (by omega : ¬ k + 1 = 0), Nat.add_sub_cancel]
    split <;> omega
end Go.Proofs.YtgdljdhibknjnabDoor

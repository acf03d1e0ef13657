/- FleetTasks: the mirror of the law is true of all tasks and limits. -/
import Derived.Test.YtpoooohaoekbaaaFleetTasksM
import Derived.Test.YtpoooohaoekbaaaFpPlain
import Derived.KernelRfl
namespace Go.Fp

theorem within_ref : Fishref2within = Fleetwithin := rfl
theorem tasks_loop : ∀ l, Fishref2TasksFault.loop1 l = FleetCheckTasks.loop1 l
  | [] => rfl
  | x :: r => by simp only [Fishref2TasksFault.loop1, FleetCheckTasks.loop1, tasks_loop r]; rfl
theorem tasks_ref (l : List FleetTask) : Fishref2TasksFault l = FleetCheckTasks l := by
  unfold Fishref2TasksFault FleetCheckTasks; rw [tasks_loop]
theorem limits_loop : ∀ l, Fishref2LimitsFault.loop1 l = FleetCheckLimits.loop1 l
  | [] => rfl
  | x :: r => by simp only [Fishref2LimitsFault.loop1, FleetCheckLimits.loop1, limits_loop r]; rfl
theorem limits_ref (x : FleetLimits) : Fishref2LimitsFault x = FleetCheckLimits x := by
  unfold Fishref2LimitsFault FleetCheckLimits; rw [limits_loop]; rfl
theorem sets_true (n : Nat) : Fishlaw2sets (n + 60) = some true := by kernel_rfl

theorem FleetTasks_law (l : List FleetTask) (x : FleetLimits) (_ : l.length ≤ 9223372036854775807) : ∃ fu, Fishlaw2FleetTasks fu l x = some true := by
  refine ⟨0 + 60, ?_⟩
  unfold Fishlaw2FleetTasks
  rw [sets_true, tasks_ref, limits_ref]
  simp

end Go.Fp

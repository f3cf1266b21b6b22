/- A call of a function that has a body enters it: a fact for the walks that hand function values on. -/
import Derived.Test.YtmgljagkmaoopaaGreatProg
import Derived.WalkKit
import Derived.Tactics
namespace Go.Proofs.YtmgljagkmaoopaaGreat.Hand
open Go Go.RowKit
theorem enters {P : Program} {f : FuncId} {fn : Func} {c : Code} (hf : P.funcs[f]? = some fn) (hname : (fn.name == "runtime.NumGoroutine") = false) (hb : fn.body = some c) : ∀ (args : Array Value) (w : World), (callFunc f args).run P w = .ok (.enter f args) w := by
  intro args w
  have h1 : fn.name ≠ "runtime.NumGoroutine" := by simpa using hname
  simp [callFunc, hf, h1, hb, mark]
end Go.Proofs.YtmgljagkmaoopaaGreat.Hand

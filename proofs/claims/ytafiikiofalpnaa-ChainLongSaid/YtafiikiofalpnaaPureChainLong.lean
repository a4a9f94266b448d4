/- ChainLong: the pure statement's proof: twenty lengths, each run. -/
import Derived.Test.YtafiikiofalpnaaOpChainLong
import Derived.Test.YtafiikiofalpnaaHNum
set_option linter.unusedSimpArgs false
set_option linter.unusedVariables false
namespace Go.Proofs.Ytafiikiofalpnaa.Pure
open Go.RowKit Go.Proofs.Ytafiikiofalpnaa.PChain Go.Proofs.Ytafiikiofalpnaa.OpChainLong Go.Proofs.Ytafiikiofalpnaa.HNum Go.Proofs.YtafiikiofalpnaaW.PrintWords Go.Proofs.YtafiikiofalpnaaW.PrintLast
def longRun (m : Nat) : Option Bool := (chain_New.f 300 (⟨#[107]⟩ : ByteArray) 1 (⟨#[118]⟩ : ByteArray) false).bind fun b => (quorumlaw8_num.f b.2.2).bind fun t => if t = 0 then quorumlaw8_ChainLong.l0 300 (2 + (m : Int)) 1 b.1 b.2.1 else some false
theorem longRuns : ∀ m, m < 20 → longRun m = some true := by decide +kernel
theorem ChainLong : OpChainLong.Pure := by
  intro c v ns s hc hv hn hs
  refine ⟨300, ?_⟩
  unfold quorumlaw8_ChainLong.f
  have e : ((ns.length : Int) % 20) = ((ns.length % 20 : Nat) : Int) := by omega
  rw [e]
  exact longRuns (ns.length % 20) (by omega)
end Go.Proofs.Ytafiikiofalpnaa.Pure

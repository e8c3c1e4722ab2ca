/- Contracts of BandOf and the functions above it. -/
import Derived.IntWalk
import Derived.StillTailTactics
import Derived.Test.YtgfcmeiffhffaaaJFind
namespace Go.Proofs.Ytgfcmeiffhffaaa
open Go.RowKit

def ceilI (n d : Int) : Int := (n + d - 1) / d
def bandOfB (n d : Int) : Bool := inB n 0 1000000 && inB d 1 1000000
def bandOfL (n d : Int) : Int := if bandOfB n d = true then n * 1000000000 / d else 0
def bandOfH (n d : Int) : Int := if bandOfB n d = true then ceilI (n * 1000000000) d else 0
def checkedL (l h : Int) : Int := if bandOkB l h = true then l else 0
def checkedH (l h : Int) : Int := if bandOkB l h = true then h else 0
end Go.Proofs.Ytgfcmeiffhffaaa

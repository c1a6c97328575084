/- What makes two machines the same in public, in plain words. -/
import Derived.Test.YtfeglenlpnhofaaMkGood
import Derived.Test.YtfeglenlpnhofaaMkSame
namespace Go.Proofs.Ytfeglenlpnhofaa.Mk
open Go.RowKit Go.Proofs.YtfeglenlpnhofaaW.PrintWords Go.Proofs.YtfeglenlpnhofaaW.PrintLast Go.Proofs.YtfeglenlpnhofaaW.PrintMore Go.Proofs.Ytfeglenlpnhofaa.Mine

/-- Two lists of bytes are the same text. -/
def strEq (a b : List Int) : Bool := (strOfNums a).toList == (strOfNums b).toList
/-- Register i is secret, or the same in both. -/
def regEq (rs : List S25) (xs ys : List Int) (i : Nat) : Bool := (rs.getD i z25).f1 || !(xs.getD i 0 != ys.getD i 0)
/-- Heaplet i lies at the same place in both, and it is secret or holds the same bytes. -/
def heapEq (hs : List S89) (ms ns : List S35) (i : Nat) : Bool := !((ms.getD i z35).f0 != (ns.getD i z35).f0) && ((hs.getD i z89).f1 || strEq (ms.getD i z35).f2 (ns.getD i z35).f2)
end Go.Proofs.Ytfeglenlpnhofaa.Mk

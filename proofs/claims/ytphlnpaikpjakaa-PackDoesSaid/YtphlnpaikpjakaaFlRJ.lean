/-
  facetroomref13.Check: the same as flow.Check.
-/
import Derived.Test.YtphlnpaikpjakaaFlRH
import Derived.Test.YtphlnpaikpjakaaFlRI
namespace Go.Proofs.Ytphlnpaikpjakaa
open Go.RowKit Go.Shelf

theorem rmay_any (g:Gr) (Aa Ae:Option Addr) (ca ce B:Nat) (w:World) (hB:B≤w.heap.size) (hg:GrSl w B g Aa ca Ae ce):
  Calls Try.prog 19 #[grV g.vars Aa g.arrays.length ca g.nodes g.start g.last Ae g.edges.length ce] w (BoolPost (mayG g) w):=by
 have hl:=leq9 hg.edges.1 hg.edges.2.1
 have hla:=leq9 hg.arrays.1 hg.arrays.2.1
 rw[←rmayG_eq]
 unfold rmayG
 cases h:headBad g.vars g.nodes g.start g.last g.arrays.length g.edges.length
 ·have:=rmay_main g.vars g.nodes g.start g.last g.arrays g.edges _ _ rfl rfl Aa Ae ca ce B w h hl hla hB hg.arrays hg.edges
  simpa using this
 ·exact rmay_head g.vars g.nodes g.start g.last _ _ Aa Ae ca ce w h hl hla
end Go.Proofs.Ytphlnpaikpjakaa


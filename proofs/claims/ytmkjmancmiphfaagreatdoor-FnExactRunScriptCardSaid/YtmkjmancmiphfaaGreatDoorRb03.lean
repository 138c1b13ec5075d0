/-
  Drawn tasks: l11Open, l1Task, l1Wrong.
-/
import Derived.Test.YtmkjmancmiphfaaGreatDoorRb02
import Derived.Deep.RegionWith
namespace Go.Proofs.YtmkjmancmiphfaaGreatDoor
open Go.RowKit
theorem qaf{w:World}{b:Nat}{v0 v1 v2 v3 v4:Value}{t:TypeId}(h:w.heap[b]? =some (.cells #[v0,v1,v2,v3,v4] t (0,0))):
  w.cell? ⟨b,0,none⟩=some v0∧w.cell? ⟨b,1,none⟩=some v1∧w.cell? ⟨b,2,none⟩=some v2∧w.cell? ⟨b,3,none⟩=some v3∧w.cell? ⟨b,4,none⟩=some v4∧ ∀i,w.frozen? ⟨b,i,none⟩=false:=
 ⟨by rw[cell_of_row w b 0 _ _ _ h];rfl,by rw[cell_of_row w b 1 _ _ _ h];rfl,by rw[cell_of_row w b 2 _ _ _ h];rfl,by rw[cell_of_row w b 3 _ _ _ h];rfl,by rw[cell_of_row w b 4 _ _ _ h];rfl,fun i=>frozen_of_row w b i _ _ h⟩
theorem RD.set{W w:World}{g p:Nat}(h:RD W w g p){a:Addr}(hne:g≠a.block)(hb:W.heap.size≤a.block)(u:Value):RD W (w.setCell a u) g p:=by
 obtain⟨A,l,c,hh,hs,hl⟩:=h.src;exact⟨h.below.setCell hb u,h.new,⟨A,l,c,(Below.heap_setCell w a u g hne).trans hh,hs,hl⟩,h.small⟩
theorem qc5{w:World}{b i:Nat}{cs:Array Value}{t:TypeId}(h:w.heap[b]? =some (.cells cs t (0,0)))(u:Value):(w.setCell ⟨b,i,none⟩ u).heap[b]? =some (.cells (cs.setIfInBounds i u) t (0,0)):=
 heap_setCell_same w b i cs t u h
end Go.Proofs.YtmkjmancmiphfaaGreatDoor

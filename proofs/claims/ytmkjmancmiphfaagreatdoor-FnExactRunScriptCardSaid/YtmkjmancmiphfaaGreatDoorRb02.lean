/-
  The random source of the draws: pick and num return numbers in range, and change only the source.
-/
import Derived.Test.YtmkjmancmiphfaaGreatDoorRb01
namespace Go.Proofs.YtmkjmancmiphfaaGreatDoor
open Go.RowKit
def BS(w:World)(A:ZA)(l:List Int):Prop:=
 (∀x∈l,0≤x∧x≤255)∧(0<l.length→ ∃b off,A=some ⟨b,off,none⟩∧b<w.heap.size∧ ∀j u,l[j]? =some u→w.cell? ⟨b,off+j,none⟩=some (.int .u8 u))
structure RD (W w:World) (g p:Nat):Prop where
 below:Below W.heap.size W w
 new:W.heap.size≤g
 src: ∃(A:ZA) (l:List Int) (c:Nat),w.heap[g]? =some (.cells #[.slice A l.length c,.int .i64 (p:Int)] 98 (0,0))∧BS W A l∧l.length≤2000
 small:p≤1099511627776
theorem RD.lt{W w:World}{g p:Nat}(h:RD W w g p):g<w.heap.size:=by
 obtain⟨A,l,c,hh,_⟩:=h.src;exact(bl hh)
theorem qq8{w:World}{g:Nat}{p:Addr}(hp:p.block=g)(u:Value):w.grownBy (w.setCell p u) (some g):=
 ⟨rfl,rfl,rfl,by simp[World.setCell],fun k _ hne=>Below.heap_setCell w p u k (fun e=>hne (by rw[e,hp]))⟩
theorem q5y{a w:World}{row:Option Nat}(h:a.grownBy w row)(n:Nat):a.grownBy (w.drewN n) row:=⟨h.os,h.tape,h.output,h.size,h.block⟩
theorem qdu{a b c:World}{row:Option Nat}(h:a.grownBy b row)(k:b.grownBy c row):a.grownBy c row:=
 ⟨k.os.trans h.os,k.tape.trans h.tape,k.output.trans h.output,zll h.size k.size,fun i hi hne=>(k.block i (zlt hi h.size) hne).trans (h.block i hi hne)⟩
theorem qco{base:Nat}{w w':World}{t:TypeId}{size:Nat}{v:Value}{n:Nat}{xs:List Value}(h:w.ownsRow base t size v n xs){g:Nat}(hg:w.grownBy w' (some g)){cs:Array Value}{t':TypeId}(hh:w.heap[g]? =some (.cells cs t' (0,0)))(hne:t≠t'):w'.ownsRow base t size v n xs:=by
 refine h.kept hg (.inr ?_);rcases h.2 with⟨rfl,_⟩|⟨g',cap,cur,rfl,_,hh',_⟩
 ·simp[Value.ownBlock]
 ·intro he;have:g'=g:=by simpa [Value.ownBlock] using he
  subst this;rw[hh] at hh';injection hh' with hh'
  injection hh' with _ e
  exact hne e.symm
theorem RD.drewN{W w:World}{g p:Nat}(h:RD W w g p)(n:Nat):RD W (w.drewN n) g p:=⟨bdr h.below n,h.new,h.src,h.small⟩
theorem RD.step{W w w':World}{g p:Nat}(h:RD W w g p)(hp:p+1≤1099511627776)(n:Nat)(hw:w'=(w.setCell ⟨g,1,none⟩ (.int .i64 ((p:Int)+1))).drewN n):RD W w' g (p+1)∧w.grownBy w' (some g):=by
 obtain⟨A,l,c,hh,hb,hl⟩:=h.src;subst hw;refine⟨⟨bdr (h.below.setCell h.new _) n,h.new,⟨A,l,c,?_,hb,hl⟩,hp⟩,q5y (qq8 rfl _) n⟩;show(w.setCell ⟨g,1,none⟩ (.int .i64 ((p:Int)+1))).heap[g]? =_;rw[heap_setCell_same w g 1 _ _ _ hh];simp
theorem RD.grow{W w w':World}{g p:Nat}(h:RD W w g p)(hg:Below w.heap.size w w'):RD W w' g p:=by
 have hl:=h.lt;obtain⟨A,l,c,hh,hb,hl2⟩:=h.src;exact⟨qaa h.below hg,h.new,⟨A,l,c,(hg.block g hl).trans hh,hb,hl2⟩,h.small⟩
end Go.Proofs.YtmkjmancmiphfaaGreatDoor

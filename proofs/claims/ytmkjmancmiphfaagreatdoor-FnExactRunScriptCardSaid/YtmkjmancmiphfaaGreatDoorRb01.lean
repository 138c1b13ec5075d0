/-
  What the walks speak of: a task as a value and as five cells; a slice of tasks and a slice of integers in memory.
  Append of one task, or one integer, to a row of the call's own.
  Jobs as values and as three cells; rows of jobs in memory; append of one job.
  Shares as rational numbers: plain arithmetic, no program.
  Shares: common, reduced, MakeShare, ShareValid, AddShares.
  Response times in plain Lean: the demand of a task, the sums, the least fixed point below a bound.
  TaskValid and SetValid: what they return.
  sumOf, LowShare, HighShare: the sums of shares.
  The walks of demand and l3Demand.
  Jobs: which are valid, the worst ones, put in order: in plain Lean.
-/
import Derived.Test.YtmkjmancmiphfaaGreatDoorRows
import Derived.Lib.Hide
import Derived.Deep.AppendLies
import Derived.BigQuiet
import Derived.WalkLawsBesides
import Derived.WalkSpells
import Derived.StillTailTactics
namespace Go.Proofs.YtmkjmancmiphfaaGreatDoor
open Go.RowKit
theorem bh{w w':World}{r:Nat}{o:Obj}(b:Below w.heap.size w w')(h:w.heap[r]? =some o):w'.heap[r]? =some o:=(b.block r (Array.getElem?_eq_some_iff.1 h).1).trans h
theorem bl{w:World}{r:Nat}{o:Obj}(h:w.heap[r]? =some o):r<w.heap.size:=(Array.getElem?_eq_some_iff.1 h).1
theorem br{B:Nat}{w:World}:Below B w w:=Below.refl _ _
abbrev ZA:Type:=Option Addr
theorem zhi{p:Prop}(h:p):Hid p:=Lib.hid h
theorem zlr(n:Nat):n≤n:=Nat.le_refl n
theorem zll{a b c:Nat}(h:a≤b)(k:b≤c):a≤c:=Nat.le_trans h k
theorem zlt{a b c:Nat}(h:a<b)(k:b≤c):a<c:=Nat.lt_of_lt_of_le h k
theorem zdr{B:Nat}{a w:World}(h:Below B a w):Below B a w.drew:=Below.drew h
theorem zha(w:World)(o:Obj):(w.alloc o).heap[w.heap.size]? =some o:=heap_alloc_new w o
theorem zfz{w:World}{b:Nat}{cs:Array Value}{T:TypeId}(hb:w.heap[b]? =some (.cells cs T (0,0)))(j:Nat):w.frozen? ⟨b,j,none⟩=false:=Lib.frozen_of_heap hb j
theorem lsS{α:Type}{a:α}{l:List α}{n:Nat}{b:α}:(a::l).set (n+1) b=a::l.set n b:=List.set_cons_succ
theorem lsZ{α:Type}{a:α}{l:List α}{b:α}:(a::l).set 0 b=b::l:=List.set_cons_zero
structure Tk where
 low:Int
 high:Int
 due:Int
 every:Int
 crit:Bool
deriving DecidableEq
def Tk.cells(t:Tk):List Value:=[.int .i64 t.low,.int .i64 t.high,.int .i64 t.due,.int .i64 t.every,.bool t.crit]
abbrev Tk.val(t:Tk):Value:=.agg #[.int .i64 t.low,.int .i64 t.high,.int .i64 t.due,.int .i64 t.every,.bool t.crit]
def qeg(l:List Tk):List Value:=l.flatMap Tk.cells
theorem qcx(l:List Tk):(qeg l).length=5*l.length:=by
 induction l with
 |nil=>rfl
 |cons t l ih=>simp only[qeg,List.flatMap_cons,List.length_append] at ih⊢;simp[Tk.cells] at ih⊢;omega
theorem qvv(l:List Tk)(k j:Nat)(hk:k<l.length)(hj:j<5):(qeg l)[k*5+j]? =(l[k].cells)[j]? :=by
 induction l generalizing k with
 |nil=>simp at hk
 |cons t l ih=>
  cases k with
  |zero=>
   simp only[qeg,List.flatMap_cons,Nat.zero_mul,Nat.zero_add,List.getElem_cons_zero];rw[List.getElem?_append_left (by simp[Tk.cells];omega)]
  |succ k=>
   simp only[qeg,List.flatMap_cons,List.getElem_cons_succ];rw[List.getElem?_append_right (by simp[Tk.cells];omega)];have e:(k+1)*5+j-(Tk.cells t).length=k*5+j:=by simp[Tk.cells];omega
   rw[e];exact ih k (by simpa using hk)
theorem qaa{W w1 w2:World}(h1:Below W.heap.size W w1)(h2:Below w1.heap.size w1 w2):Below W.heap.size W w2:=h1.trans (h2.mono h1.size)
theorem bal{W w1:World}(h1:Below W.heap.size W w1)(o:Obj):Below W.heap.size W (w1.alloc o):=h1.alloc h1.size o
theorem bst{W w1:World}(h1:Below W.heap.size W w1){p:Addr}(hp:W.heap.size≤p.block)(u:Value):Below W.heap.size W (w1.setCell p u):=h1.setCell hp u
theorem bdr{W w1:World}(h1:Below W.heap.size W w1)(n:Nat):Below W.heap.size W (w1.drewN n):=⟨h1.os,h1.tape,h1.output,h1.size,h1.block⟩
def TS(w:World)(A:ZA)(l:List Tk):Prop:=
 0<l.length→ ∃b off,A=some ⟨b,off,none⟩∧b<w.heap.size∧ ∀j u,(qeg l)[j]? =some u→w.cell? ⟨b,off+j,none⟩=some u
def IS(w:World)(A:ZA)(l:List Int):Prop:=
 0<l.length→ ∃b off,A=some ⟨b,off,none⟩∧b<w.heap.size∧ ∀j u,l[j]? =some u→w.cell? ⟨b,off+j,none⟩=some (.int .i64 u)
theorem TS.keep{w w':World}{A:ZA}{l:List Tk}(h:TS w A l)(hb:Below w.heap.size w w'):TS w' A l:=by
 intro hl;obtain⟨b,off,hA,hlt,hc⟩:=h hl;exact⟨b,off,hA,zlt hlt hb.size,fun j u hu=>(hb.cell (p:=⟨b,off+j,none⟩) hlt).trans (hc j u hu)⟩
theorem IS.keep{w w':World}{A:ZA}{l:List Int}(h:IS w A l)(hb:Below w.heap.size w w'):IS w' A l:=by
 intro hl;obtain⟨b,off,hA,hlt,hc⟩:=h hl;exact⟨b,off,hA,zlt hlt hb.size,fun j u hu=>(hb.cell (p:=⟨b,off+j,none⟩) hlt).trans (hc j u hu)⟩
theorem qby{w:World}{b off:Nat}{l:List Tk}(hc: ∀j u,(qeg l)[j]? =some u→w.cell? ⟨b,off+j,none⟩=some u)(k:Nat)(hk:k<l.length):
  w.cell? ⟨b,off+k*5,none⟩=some (.int .i64 l[k].low)∧w.cell? ⟨b,off+k*5+1,none⟩=some (.int .i64 l[k].high)∧w.cell? ⟨b,off+k*5+2,none⟩=some (.int .i64 l[k].due)∧
  w.cell? ⟨b,off+k*5+3,none⟩=some (.int .i64 l[k].every)∧w.cell? ⟨b,off+k*5+4,none⟩=some (.bool l[k].crit):=by
 have h: ∀j u,j<5→(l[k].cells)[j]? =some u→w.cell? ⟨b,off+k*5+j,none⟩=some u:=fun j u hj hu=>by
  have:=hc (k*5+j) u ((qvv l k j hk hj).trans hu);simpa [Nat.add_assoc] using this
 exact⟨by simpa using h 0 _ (by omega) rfl,h 1 _ (by omega) rfl,h 2 _ (by omega) rfl,h 3 _ (by omega) rfl,h 4 _ (by omega) rfl⟩
def OT(base:Nat)(w:World)(A:ZA)(c:Nat)(l:List Tk):Prop:=w.ownsRow base 58 5 (.slice A l.length c) l.length (qeg l)
def OI(base:Nat)(w:World)(A:ZA)(c:Nat)(l:List Int):Prop:=w.ownsRow base 3 1 (.slice A l.length c) l.length (l.map (.int .i64))
theorem OT.ts{base:Nat}{w:World}{A:ZA}{c:Nat}{l:List Tk}(h:OT base w A c l):TS w A l:=by
 intro hl;rcases h.2 with⟨_,h0⟩|⟨g,cap,cur,hv,hg,hh,_⟩
 ·omega
 ·injection hv with hA hn hc
  refine⟨g,0,hA,(bl hh),fun j u hu=>?_⟩;have:=h.cells (g:=g) (by subst hA;rfl) j u hu;have e:(⟨g,0,none⟩:Addr).add j=⟨g,0+j,none⟩:=by unfold Addr.add;split<;>simp_all
  rw[←e];exact this
theorem OI.is{base:Nat}{w:World}{A:ZA}{c:Nat}{l:List Int}(h:OI base w A c l):IS w A l:=by
 intro hl;rcases h.2 with⟨_,h0⟩|⟨g,cap,cur,hv,hg,hh,_⟩
 ·omega
 ·injection hv with hA hn hc
  refine⟨g,0,hA,(bl hh),fun j u hu=>?_⟩;have:=h.cells (g:=g) (by subst hA;rfl) j (.int .i64 u) (by simp[hu]);have e:(⟨g,0,none⟩:Addr).add j=⟨g,0+j,none⟩:=by unfold Addr.add;split<;>simp_all
  rw[←e];exact this
theorem qe2{base:Nat}{w w':World}{t:TypeId}{size:Nat}{v:Value}{n:Nat}{xs:List Value}(h:w.ownsRow base t size v n xs)(hb:Below w.heap.size w w'):w'.ownsRow base t size v n xs:=by
 refine⟨h.1,?_⟩;rcases h.2 with hn|⟨g,cap,cur,hv,hg,hh,rest⟩
 ·exact .inl hn
 ·exact .inr ⟨g,cap,cur,hv,hg,by rw[hb.block g (bl hh)];exact hh,rest⟩
theorem qal{base base':Nat}{w:World}{t:TypeId}{size:Nat}{v:Value}{n:Nat}{xs:List Value}(h:w.ownsRow base t size v n xs)(hb:base'≤base):w.ownsRow base' t size v n xs:=by
 refine⟨h.1,?_⟩;rcases h.2 with hn|⟨g,cap,cur,hv,hg,rest⟩
 ·exact .inl hn
 ·exact .inr ⟨g,cap,cur,hv,zll hb hg,rest⟩
theorem qao{base:Nat}{w:World}{t:TypeId}{size:Nat}{A:ZA}{n c:Nat}{xs:List Value}(h:w.ownsRow base t size (.slice A n c) n xs):n≤c∧c≤maxLen:=by
 rcases h.2 with⟨hn,h0⟩|⟨g,cap,cur,hv,hg,_,h1,h2,_⟩
 ·injection hn with _ _ hc;subst hc;subst h0;exact⟨zlr _,Nat.zero_le _⟩
 ·injection hv with _ _ hc;subst hc;exact⟨h1,h2⟩
theorem qy0{P:Program}(t e:TypeId)(i:TypeInfo)(z:Value)(size:Nat)(ht:P.underlying t=some (.slice e))(hi:P.info? e=some i)(hz:i.zero=some z)(hs:i.size=size)(hb:i.bytes≤256)(n:Nat)(hn:n≤16777216):
  ∃row:Array Value,row.size=n*size∧ ∀w:World,(Instr.makeSlice t (.int .i64 (n:Int)) (.int .i64 (n:Int))).run P w=.ok (.slice (some ⟨w.heap.size,0,none⟩) n n) (w.alloc (.cells row e)):=by
 refine⟨madeCells z.cells (n*i.size),by rw[size_madeCells,hs],fun w=>?_⟩
 have hb:(i.bytes:Int)*(n:Int)≤281474976710656:=by
  have h:i.bytes*n≤256*16777216:=Nat.mul_le_mul hb hn;have h2:((i.bytes*n:Nat):Int)≤281474976710656:=by omega
  rwa [Int.natCast_mul] at h2
 have hr:=run_make (P:=P) w t e i z ht hi hz .i64 .i64 n n (by omega) (by omega) hb (by omega);simp only[Int.toNat_natCast] at hr;exact hr
theorem qr8{w:World}{t:TypeId}{size n:Nat}{row:Array Value}(hs:row.size=n*size)(hn:n≤16777216):
  (w.alloc (.cells row t)).ownsRow w.heap.size t size (.slice (some ⟨w.heap.size,0,none⟩) n n) n row.toList:=
 ⟨by simp[hs],.inr ⟨w.heap.size,n,row,rfl,zlr _,zha w _,zlr _,by unfold maxLen;omega,hs,by rw[List.take_of_length_le];simp[hs]⟩⟩
theorem q5v{base:Nat}{w:World}{t:TypeId}{g n cap:Nat}{xs:List Value}(h:w.ownsRow base t 1 (.slice (some ⟨g,0,none⟩) n cap) n xs)(k:Nat)(hk:k<n):
  (∃v0,w.cell? ⟨g,k,none⟩=some v0)∧ ∀j,w.frozen? ⟨g,j,none⟩=false:=by
 have hx:=h.1;exact⟨⟨_,by rw[h.cellAt _ (by omega)];exact List.getElem?_eq_getElem (by omega)⟩,fun j=>h.frozenAt j⟩
def q3d(w:World)(l:List Tk)(e:Ending)(w':World):Prop:= ∃A c,e=.returned (.slice A l.length c)∧OT w.heap.size w' A c l∧Below w.heap.size w w'
def q0a(w:World)(l:List Int)(e:Ending)(w':World):Prop:= ∃A c,e=.returned (.slice A l.length c)∧OI w.heap.size w' A c l∧Below w.heap.size w w'
def qr9(w:World)(l:List Tk)(ok:Bool)(e:Ending)(w':World):Prop:= ∃A c,e=.returned (.tuple #[.slice A l.length c,.bool ok])∧OT w.heap.size w' A c l∧Below w.heap.size w w'
def qy1(w:World)(l:List Int)(ok:Bool)(e:Ending)(w':World):Prop:= ∃A c,e=.returned (.tuple #[.slice A l.length c,.bool ok])∧OI w.heap.size w' A c l∧Below w.heap.size w w'
def vld(t:Tk):Bool:=decide (1≤t.low∧t.low≤t.high∧t.high≤t.due∧t.due≤t.every∧t.every≤20)&&(t.crit||t.low==t.high)
def qad(l:List Tk):Bool:=decide (l.length≤5)&&l.all vld
section
theorem qfp:(Tryz.prog.info? 3).map (fun i=>(i.zero,i.size,i.bytes))=some (some (.int .i64 0),1,8):=by kernel_rfl
theorem qjg:(Tryz.prog.info? 58).map (fun i=>(i.zero,i.size,i.bytes))=some (some (.agg #[.int .i64 0,.int .i64 0,.int .i64 0,.int .i64 0,.bool false]),5,40):=by kernel_rfl
theorem qgw(l m:List Tk):qeg (l++m)=qeg l++qeg m:=by simp[qeg]
theorem qeh{base:Nat}{w:World}{t:TypeId}{size:Nat}{v:Value}{n:Nat}{xs:List Value}(h:w.ownsRow base t size v n xs): ∃A c,v=.slice A n c:=by
 rcases h.2 with⟨rfl,rfl⟩|⟨g,cap,cur,rfl,_⟩
 ·exact⟨none,0,rfl⟩
 ·exact⟨_,_,rfl⟩
theorem qb0{base:Nat}{w w':World}{t:TypeId}{size:Nat}{v:Value}{n:Nat}{xs:List Value}(h:w.ownsRow base t size v n xs)(hg:w.grownBy w' v.ownBlock)(hb:base≤w.heap.size):Below base w w':=
 (Below.refl _ _).grown hg hb (fun k hk=>(h.lt k hk).1)
theorem qb5(b j:Nat):(⟨b,0,none⟩:Addr).add j=⟨b,j,none⟩:=by unfold Addr.add;split<;>simp_all
section
variable (w:World)
theorem qc2{ops:Array Oper}{rest:List Oper}{o:Oper}{a:Act}{Q:Exit→Act→World→Prop}(hgd:o.guard=none)(s x:Operand)
  (ho:o.op=.call {callee:=.builtin .append,args:=#[s,x],argTypes:=#[23,23]})
  (base:Nat) (A:ZA) (l:List Tk) (c:Nat) (hs:a.eval s=.slice A l.length c) (hown:OT base w A c l)
  (b c1:Nat) (t:Tk) (cs:Array Value) (ty:TypeId) (hx:a.eval x=.slice (some ⟨b,0,none⟩) 1 c1) (hb:w.heap[b]? =some (.cells cs ty (0,0))) (hcs:cs.toList=t.cells)
  (hl:l.length≤2000000) (hbase:base≤w.heap.size)
  (h: ∀A' c' w',OT base w' A' c' (l++[t])→w.grownBy w' (Value.slice A l.length c).ownBlock→Below base w w'→wpList Tryz.prog ops Q rest (a.put o.dst (.slice A' (l.length+1) c')) w'):wpList Tryz.prog ops Q (o::rest) a w:=by
 obtain⟨i0,hi,hz0,hz1,hz2⟩:=info_parts qjg
 refine wpList_append_own w hgd s x 23 ho base 58 i0 _ 5 40 Tryz.underlying23 hi hz0 hz1 hz2 rfl (by decide) (.slice A l.length c) l.length (qeg l) hs hown
  ⟨b,0,none⟩ 1 c1 t.cells hx rfl ?_ ?_ (by unfold maxLen;omega) (by omega) hbase ?_
 ·intro j u hj;rw[qb5,cell_of_row w b j cs ty (0,0) hb,←Array.getElem?_toList,hcs];exact hj
 ·intro u hu;simp[Tk.cells] at hu;rcases hu with rfl|rfl|rfl|rfl|rfl<;>rfl
 ·intro v' w' hown' hg _;obtain⟨A',c',rfl⟩:=qeh hown';refine h A' c' w' ?_ hg (qb0 hown hg hbase);unfold OT;rw[List.length_append,List.length_singleton,qgw];have e:qeg [t]=t.cells:=by simp[qeg]
  rw[e];exact hown'
theorem qkj{ops:Array Oper}{rest:List Oper}{o:Oper}{a:Act}{Q:Exit→Act→World→Prop}(hgd:o.guard=none)(s x:Operand)
  (ho:o.op=.call {callee:=.builtin .append,args:=#[s,x],argTypes:=#[27,27]})
  (base:Nat) (A:ZA) (l:List Int) (c:Nat) (hs:a.eval s=.slice A l.length c) (hown:OI base w A c l)
  (b c1:Nat) (n:Int) (ty:TypeId) (hx:a.eval x=.slice (some ⟨b,0,none⟩) 1 c1) (hb:w.heap[b]? =some (.cells #[.int .i64 n] ty (0,0)))
  (hl:l.length≤2000000) (hbase:base≤w.heap.size)
  (h: ∀A' c' w',OI base w' A' c' (l++[n])→w.grownBy w' (Value.slice A l.length c).ownBlock→Below base w w'→wpList Tryz.prog ops Q rest (a.put o.dst (.slice A' (l.length+1) c')) w'):wpList Tryz.prog ops Q (o::rest) a w:=by
 obtain⟨i0,hi,hz0,hz1,hz2⟩:=info_parts qfp
 refine wpList_append_own w hgd s x 27 ho base 3 i0 _ 1 8 Tryz.underlying27 hi hz0 hz1 hz2 rfl (by decide) (.slice A l.length c) l.length (l.map (.int .i64)) hs hown
  ⟨b,0,none⟩ 1 c1 [.int .i64 n] hx rfl ?_ ?_ (by unfold maxLen;omega) (by omega) hbase ?_
 ·intro j u hj;rw[qb5,cell_of_row w b j _ ty (0,0) hb,←Array.getElem?_toList];exact hj
 ·intro u hu;simp at hu;subst hu;rfl
 ·intro v' w' hown' hg _;obtain⟨A',c',rfl⟩:=qeh hown';refine h A' c' w' ?_ hg (qb0 hown hg hbase);unfold OI;rw[List.length_append,List.length_singleton,List.map_append];exact hown'
end
theorem qhn(base:Nat)(w:World):OT base w none 0 []:=World.ownsRow_nil _ _ _ _
theorem qgg(base:Nat)(w:World):OI base w none 0 []:=World.ownsRow_nil _ _ _ _
theorem qfz(w:World)(t:TypeId)(size base:Nat)(hb:base≤w.heap.size):(w.alloc (.cells #[] t)).ownsRow base t size (.slice (some ⟨w.heap.size,0,none⟩) 0 0) 0 []:=
 ⟨by simp,.inr ⟨w.heap.size,0,#[],rfl,hb,zha w _,zlr _,by simp[maxLen],by simp,by simp⟩⟩
theorem qa7(w:World)(base:Nat)(hb:base≤w.heap.size):OT base (w.alloc (.cells #[] 58)) (some ⟨w.heap.size,0,none⟩) 0 []:=qfz w _ 5 base hb
theorem qbe(w:World)(base:Nat)(hb:base≤w.heap.size):OI base (w.alloc (.cells #[] 3)) (some ⟨w.heap.size,0,none⟩) 0 []:=qfz w _ 1 base hb
theorem qbf{base:Nat}{w:World}{A:ZA}{c:Nat}{l:List Tk}(h:OT base w A c l)(o:Obj):OT base (w.alloc o) A c l:=World.ownsRow.alloc h o
theorem qa2{base:Nat}{w:World}{A:ZA}{c:Nat}{l:List Int}(h:OI base w A c l)(o:Obj):OI base (w.alloc o) A c l:=World.ownsRow.alloc h o
theorem qa3{base:Nat}{w w':World}{A:ZA}{c:Nat}{l:List Tk}(h:OT base w A c l)(hb:Below w.heap.size w w'):OT base w' A c l:=qe2 h hb
theorem qa1{base:Nat}{w w':World}{A:ZA}{c:Nat}{l:List Int}(h:OI base w A c l)(hb:Below w.heap.size w w'):OI base w' A c l:=qe2 h hb
theorem qxw{base:Nat}{w:World}{t:TypeId}{size:Nat}{A:ZA}{n c:Nat}{xs:List Value}(h:w.ownsRow base t size (.slice A n c) n xs)(k:Nat)(hk:k≤n):w.ownsRow base t size (.slice A k c) k (xs.take (k*size)):=by
 have hl:=h.1;have hks:k*size≤n*size:=Nat.mul_le_mul_right _ hk;refine⟨by rw[List.length_take];omega,?_⟩;rcases h.2 with⟨hv,h0⟩|⟨g,cap,cur,hv,hb,hh,hn,hm,hs,hx⟩
 ·subst h0;have:k=0:=by omega
  subst this;exact .inl ⟨hv,rfl⟩
 ·injection hv with hA hn' hc
  subst hA hc;exact .inr ⟨g,c,cur,rfl,hb,hh,by omega,hm,hs,by rw[←hx,List.take_take,Nat.min_eq_left hks]⟩
theorem qto(l:List Tk)(k:Nat):(qeg l).take (k*5)=qeg (l.take k):=by
 induction l generalizing k with
 |nil=>simp[qeg]
 |cons t l ih=>
  cases k with
  |zero=>simp[qeg]
  |succ k=>
   have e:qeg (t::l)=t.cells++qeg l:=by simp[qeg]
   have e2:qeg ((t::l).take (k+1))=t.cells++qeg (l.take k):=by simp[qeg]
   rw[e,e2,←ih,List.take_append];have h5:t.cells.length=5:=rfl;rw[h5,List.take_of_length_le (by rw[h5];omega)];congr 2
   omega
theorem qf8{base:Nat}{w:World}{A:ZA}{c:Nat}{l:List Tk}(h:OT base w A c l)(hl:0<l.length): ∃b,A=some ⟨b,0,none⟩∧base≤b∧b<w.heap.size:=by
 rcases h.2 with⟨_,h0⟩|⟨g,cap,cur,hv,hg,hh,_⟩
 ·omega
 ·injection hv with hA
  exact⟨g,hA,hg,(bl hh)⟩
theorem qe3{base:Nat}{w:World}{A:ZA}{c:Nat}{l:List Int}(h:OI base w A c l)(hl:0<l.length): ∃b,A=some ⟨b,0,none⟩∧base≤b∧b<w.heap.size:=by
 rcases h.2 with⟨_,h0⟩|⟨g,cap,cur,hv,hg,hh,_⟩
 ·omega
 ·injection hv with hA
  exact⟨g,hA,hg,(bl hh)⟩
theorem qj5(l:List Tk)(k j:Nat)(hk:k<l.length)(hj:j<5)(u:Value)(t:Tk)(ht:t.cells=l[k].cells.set j u):qeg (l.set k t)=(qeg l).set (k*5+j) u:=by
 induction l generalizing k with
 |nil=>simp at hk
 |cons a l ih=>
  cases k with
  |zero=>
   have e:qeg ((a::l).set 0 t)=t.cells++qeg l:=by simp[qeg]
   have e2:qeg (a::l)=a.cells++qeg l:=by simp[qeg]
   rw[e,e2,ht,Nat.zero_mul,Nat.zero_add,List.set_append_left _ _ (by simp[Tk.cells];omega)];rfl
  |succ k=>
   have e:qeg ((a::l).set (k+1) t)=a.cells++qeg (l.set k t):=by simp[qeg]
   have e2:qeg (a::l)=a.cells++qeg l:=by simp[qeg]
   have h5:a.cells.length=5:=rfl;rw[e,e2,List.set_append_right _ _ (by rw[h5];omega),ih k (by simpa using hk) (by simpa using ht)];congr 2
   rw[h5];omega
theorem qsa{base:Nat}{w:World}{b c:Nat}{l:List Tk}(h:OT base w (some ⟨b,0,none⟩) c l)(k j:Nat)(hk:k<l.length)(hj:j<5)(u:Value)(t:Tk)(ht:t.cells=l[k].cells.set j u):
  OT base (w.setCell ⟨b,k*5+j,none⟩ u) (some ⟨b,0,none⟩) c (l.set k t)∧w.grownBy (w.setCell ⟨b,k*5+j,none⟩ u) (some b):=by
 have h1:=World.ownsRow.stored h (k*5+j) u;refine⟨?_,h1.2⟩;unfold OT;rw[qj5 l k j hk hj u t ht,List.length_set];exact h1.1
theorem qvw(l:List Tk)(k:Nat)(hk:k<l.length)(t:Tk):qeg (l.set k t)=(((((qeg l).set (k*5) (.int .i64 t.low)).set (k*5+1) (.int .i64 t.high)).set (k*5+2) (.int .i64 t.due)).set (k*5+3) (.int .i64 t.every)).set (k*5+4) (.bool t.crit):=by
 have hlen: ∀s:Tk,(l.set k s).length=l.length:=fun s=>List.length_set
 have e0:=qj5 l k 0 hk (by omega) (.int .i64 t.low) ⟨t.low,l[k].high,l[k].due,l[k].every,l[k].crit⟩ rfl;have e1:=qj5 (l.set k ⟨t.low,l[k].high,l[k].due,l[k].every,l[k].crit⟩) k 1 (by rw[hlen];exact hk) (by omega) (.int .i64 t.high) ⟨t.low,t.high,l[k].due,l[k].every,l[k].crit⟩ (by rw[List.getElem_set_self];rfl);have e2:=qj5 (l.set k ⟨t.low,t.high,l[k].due,l[k].every,l[k].crit⟩) k 2 (by rw[hlen];exact hk) (by omega) (.int .i64 t.due) ⟨t.low,t.high,t.due,l[k].every,l[k].crit⟩ (by rw[List.getElem_set_self];rfl);have e3:=qj5 (l.set k ⟨t.low,t.high,t.due,l[k].every,l[k].crit⟩) k 3 (by rw[hlen];exact hk) (by omega) (.int .i64 t.every) ⟨t.low,t.high,t.due,t.every,l[k].crit⟩ (by rw[List.getElem_set_self];rfl);have e4:=qj5 (l.set k ⟨t.low,t.high,t.due,t.every,l[k].crit⟩) k 4 (by rw[hlen];exact hk) (by omega) (.bool t.crit) t (by rw[List.getElem_set_self];rfl);simp only[List.set_set,Nat.add_zero] at e0 e1 e2 e3 e4;rw[e4,e3,e2,e1,e0]
theorem q3h{base:Nat}{w:World}{ty:TypeId}{b n c:Nat}{xs:List Value}(h:w.ownsRow base ty 5 (.slice (some ⟨b,0,none⟩) n c) n xs)(i0 i1 i2 i3 i4:Nat)(u0 u1 u2 u3 u4:Value):
  (((((w.setCell ⟨b,i0,none⟩ u0).setCell ⟨b,i1,none⟩ u1).setCell ⟨b,i2,none⟩ u2).setCell ⟨b,i3,none⟩ u3).setCell ⟨b,i4,none⟩ u4).ownsRow base ty 5 (.slice (some ⟨b,0,none⟩) n c) n (((((xs.set i0 u0).set i1 u1).set i2 u2).set i3 u3).set i4 u4):=by
 have h0:=(World.ownsRow.stored h i0 u0).1;have h1:=(World.ownsRow.stored h0 i1 u1).1;have h2:=(World.ownsRow.stored h1 i2 u2).1;have h3:=(World.ownsRow.stored h2 i3 u3).1;exact(World.ownsRow.stored h3 i4 u4).1
theorem q3i{base:Nat}{w:World}{b c:Nat}{l:List Tk}(h:OT base w (some ⟨b,0,none⟩) c l)(k:Nat)(hk:k<l.length)(t:Tk):
  OT base (((((w.setCell ⟨b,k*5,none⟩ (.int .i64 t.low)).setCell ⟨b,k*5+1,none⟩ (.int .i64 t.high)).setCell ⟨b,k*5+2,none⟩ (.int .i64 t.due)).setCell ⟨b,k*5+3,none⟩ (.int .i64 t.every)).setCell ⟨b,k*5+4,none⟩ (.bool t.crit)) (some ⟨b,0,none⟩) c (l.set k t):=by
 have h5:=q3h h (k*5) (k*5+1) (k*5+2) (k*5+3) (k*5+4) (.int .i64 t.low) (.int .i64 t.high) (.int .i64 t.due) (.int .i64 t.every) (.bool t.crit);rw[←qvw l k hk t] at h5;unfold OT;rw[List.length_set];exact h5
end
structure Jb where
 task:Int
 at_:Int
 need:Int
deriving DecidableEq
def Jb.cells(t:Jb):List Value:=[.int .i64 t.task,.int .i64 t.at_,.int .i64 t.need]
abbrev Jb.val(t:Jb):Value:=.agg #[.int .i64 t.task,.int .i64 t.at_,.int .i64 t.need]
def qgx(l:List Jb):List Value:=l.flatMap Jb.cells
theorem q3j(l:List Jb)(k j:Nat)(hk:k<l.length)(hj:j<3):(qgx l)[k*3+j]? =(l[k].cells)[j]? :=by
 induction l generalizing k with
 |nil=>simp at hk
 |cons t l ih=>
  cases k with
  |zero=>
   simp only[qgx,List.flatMap_cons,Nat.zero_mul,Nat.zero_add,List.getElem_cons_zero];rw[List.getElem?_append_left (by simp[Jb.cells];omega)]
  |succ k=>
   simp only[qgx,List.flatMap_cons,List.getElem_cons_succ];rw[List.getElem?_append_right (by simp[Jb.cells];omega)];have e:(k+1)*3+j-(Jb.cells t).length=k*3+j:=by simp[Jb.cells];omega
   rw[e];exact ih k (by simpa using hk)
def JS(w:World)(A:ZA)(l:List Jb):Prop:=
 0<l.length→ ∃b off,A=some ⟨b,off,none⟩∧b<w.heap.size∧ ∀j u,(qgx l)[j]? =some u→w.cell? ⟨b,off+j,none⟩=some u
theorem JS.keep{w w':World}{A:ZA}{l:List Jb}(h:JS w A l)(hb:Below w.heap.size w w'):JS w' A l:=by
 intro hl;obtain⟨b,off,hA,hlt,hc⟩:=h hl;exact⟨b,off,hA,zlt hlt hb.size,fun j u hu=>(hb.cell (p:=⟨b,off+j,none⟩) hlt).trans (hc j u hu)⟩
theorem qbg{w:World}{b off:Nat}{l:List Jb}(hc: ∀j u,(qgx l)[j]? =some u→w.cell? ⟨b,off+j,none⟩=some u)(k:Nat)(hk:k<l.length):
  w.cell? ⟨b,off+k*3,none⟩=some (.int .i64 l[k].task)∧w.cell? ⟨b,off+k*3+1,none⟩=some (.int .i64 l[k].at_)∧w.cell? ⟨b,off+k*3+2,none⟩=some (.int .i64 l[k].need):=by
 have h: ∀j u,j<3→(l[k].cells)[j]? =some u→w.cell? ⟨b,off+k*3+j,none⟩=some u:=fun j u hj hu=>by
  have:=hc (k*3+j) u ((q3j l k j hk hj).trans hu);simpa [Nat.add_assoc] using this
 exact⟨by simpa using h 0 _ (by omega) rfl,h 1 _ (by omega) rfl,h 2 _ (by omega) rfl⟩
def OJ(base:Nat)(w:World)(A:ZA)(c:Nat)(l:List Jb):Prop:=w.ownsRow base 60 3 (.slice A l.length c) l.length (qgx l)
theorem OJ.js{base:Nat}{w:World}{A:ZA}{c:Nat}{l:List Jb}(h:OJ base w A c l):JS w A l:=by
 intro hl;rcases h.2 with⟨_,h0⟩|⟨g,cap,cur,hv,hg,hh,_⟩
 ·omega
 ·injection hv with hA hn hc
  refine⟨g,0,hA,(bl hh),fun j u hu=>?_⟩;have:=h.cells (g:=g) (by subst hA;rfl) j u hu;have e:(⟨g,0,none⟩:Addr).add j=⟨g,0+j,none⟩:=by unfold Addr.add;split<;>simp_all
  rw[←e];exact this
theorem q3k:(Tryz.prog.info? 60).map (fun i=>(i.zero,i.size,i.bytes))=some (some (.agg #[.int .i64 0,.int .i64 0,.int .i64 0]),3,24):=by kernel_rfl
theorem qtp(l m:List Jb):qgx (l++m)=qgx l++qgx m:=by simp[qgx]
theorem qcy(w:World){ops:Array Oper}{rest:List Oper}{o:Oper}{a:Act}{Q:Exit→Act→World→Prop}(hgd:o.guard=none)(s x:Operand)
  (ho:o.op=.call {callee:=.builtin .append,args:=#[s,x],argTypes:=#[24,24]})
  (base:Nat) (A:ZA) (l:List Jb) (n c:Nat) (hn:l.length=n) (hs:a.eval s=.slice A n c) (hown:OJ base w A c l)
  (b c1:Nat) (t:Jb) (cs:Array Value) (ty:TypeId) (hx:a.eval x=.slice (some ⟨b,0,none⟩) 1 c1) (hb:w.heap[b]? =some (.cells cs ty (0,0))) (hcs:cs.toList=t.cells)
  (hl:l.length≤2000000) (hbase:base≤w.heap.size)
  (h: ∀A' c' w',OJ base w' A' c' (l++[t])→w.grownBy w' (Value.slice A n c).ownBlock→Below base w w'→wpList Tryz.prog ops Q rest (a.put o.dst (.slice A' (n+1) c')) w'):wpList Tryz.prog ops Q (o::rest) a w:=by
 subst hn;obtain⟨i0,hi,hz0,hz1,hz2⟩:=info_parts q3k
 refine wpList_append_own w hgd s x 24 ho base 60 i0 _ 3 24 Tryz.underlying24 hi hz0 hz1 hz2 rfl (by decide) (.slice A l.length c) l.length (qgx l) hs hown
  ⟨b,0,none⟩ 1 c1 t.cells hx rfl ?_ ?_ (by unfold maxLen;omega) (by omega) hbase ?_
 ·intro j u hj;rw[qb5,cell_of_row w b j cs ty (0,0) hb,←Array.getElem?_toList,hcs];exact hj
 ·intro u hu;simp[Jb.cells] at hu;rcases hu with rfl|rfl|rfl<;>rfl
 ·intro v' w' hown' hg _;obtain⟨A',c',rfl⟩:=qeh hown';refine h A' c' w' ?_ hg (qb0 hown hg hbase);unfold OJ;rw[List.length_append,List.length_singleton,qtp];have e:qgx [t]=t.cells:=by simp[qgx]
  rw[e];exact hown'
theorem qtq(base:Nat)(w:World):OJ base w none 0 []:=World.ownsRow_nil _ _ _ _
theorem qei(w:World)(base:Nat)(hb:base≤w.heap.size):OJ base (w.alloc (.cells #[] 60)) (some ⟨w.heap.size,0,none⟩) 0 []:=qfz w _ 3 base hb
theorem qcn{base:Nat}{w:World}{A:ZA}{c:Nat}{l:List Jb}(h:OJ base w A c l)(o:Obj):OJ base (w.alloc o) A c l:=World.ownsRow.alloc h o
theorem qe4{base:Nat}{w w':World}{A:ZA}{c:Nat}{l:List Jb}(h:OJ base w A c l)(hb:Below w.heap.size w w'):OJ base w' A c l:=qe2 h hb
theorem qml{base:Nat}{w:World}{A:ZA}{c:Nat}{l:List Jb}(h:OJ base w A c l)(hl:0<l.length): ∃b,A=some ⟨b,0,none⟩∧base≤b∧b<w.heap.size:=by
 rcases h.2 with⟨_,h0⟩|⟨g,cap,cur,hv,hg,hh,_⟩
 ·omega
 ·injection hv with hA
  exact⟨g,hA,hg,(bl hh)⟩
def q3l(w:World)(l:List Jb)(ok:Bool)(e:Ending)(w':World):Prop:= ∃A c,e=.returned (.tuple #[.slice A l.length c,.bool ok])∧OJ w.heap.size w' A c l∧Below w.heap.size w w'
theorem qia(n:Int)(d:Nat)(hd:d≠0):(mkRat n d).num=n/((n.natAbs.gcd d:Nat):Int):=by
 rw[←Rat.normalize_eq_mkRat hd,Rat.normalize_eq]
theorem qib(n:Int)(d:Nat)(hd:d≠0):(mkRat n d).den=d/n.natAbs.gcd d:=by
 rw[←Rat.normalize_eq_mkRat hd,Rat.normalize_eq]
theorem qic{r:Rat}(h:0≤r):0≤r.num:=Rat.num_nonneg.2 h
theorem qll{n:Int}(hn:0≤n)(d:Nat)(hd:d≠0):0≤mkRat n d:=by
 rw[←Rat.num_nonneg,qia n d hd];exact Int.ediv_nonneg hn (by omega)
theorem qdj(n:Int)(d:Nat)(hd:d≠0):(mkRat n d).den∣d:=by
 rw[qib n d hd];exact Nat.div_dvd_of_dvd (Nat.gcd_dvd_right _ _)
theorem qxx(a b:Nat):Nat.gcd b (a % b)=Nat.gcd a b:=by rw[Nat.gcd_comm b,←Nat.gcd_rec,Nat.gcd_comm]
theorem q0e(a b:Rat):mkRat (a.num*b.den+b.num*a.den) (a.den*b.den)=a+b:=by
 rw[Rat.add_def,Rat.normalize_eq_mkRat]
theorem q5k(a b:Rat):mkRat (a.num*b.num) (a.den*b.den)=a*b:=by
 rw[Rat.mul_def,Rat.normalize_eq_mkRat]
def shr(high:Bool)(t:Tk):Rat:=mkRat (if high then t.high else t.low) t.every.toNat
def qau(crit high:Bool):List Tk→Rat
 |[]=>0
 |t::l=>(if t.crit=crit then shr high t else 0)+qau crit high l
theorem qsb(crit high:Bool)(l m:List Tk):qau crit high (l++m)=qau crit high l+qau crit high m:=by
 induction l with
 |nil=>simp[qau,Rat.zero_add]
 |cons t l ih=>simp only[List.cons_append,qau,ih,Rat.add_assoc]
theorem qi8(crit high:Bool)(l:List Tk)(k:Nat)(hk:k<l.length):
  qau crit high (l.take (k+1))=qau crit high (l.take k)+(if l[k].crit=crit then shr high l[k] else 0):=by
 rw[List.take_succ_eq_append_getElem hk,qsb];simp[qau,Rat.add_zero]
theorem qvx(a b:Rat):(a+b).den∣a.den*b.den:=by
 rw[←q0e];exact qdj _ _ (Nat.mul_ne_zero a.den_nz b.den_nz)
theorem qcb{t:Tk}(h:vld t=true):1≤t.low∧t.low≤t.high∧t.high≤t.due∧t.due≤t.every∧t.every≤20:=by
 simp only[vld,Bool.and_eq_true,decide_eq_true_eq] at h;exact h.1
theorem q0f{high:Bool}{t:Tk}(h:vld t=true):(shr high t).den≤20:=by
 have:=qcb h;exact zll (Nat.le_of_dvd (by omega) (qdj _ _ (by omega))) (by omega)
theorem qy2(crit high:Bool)(l:List Tk)(h: ∀t∈l,vld t=true):(qau crit high l).den≤20^l.length:=by
 induction l with
 |nil=>simp[qau]
 |cons t l ih=>
  have h1:=ih (fun s hs=>h s (List.mem_cons_of_mem _ hs));have h2:=h t (by simp);simp only[qau,List.length_cons,Nat.pow_succ]
  have hx:(if t.crit=crit then shr high t else 0).den≤20:=by
   split
   ·exact q0f h2
   ·simp
  generalize(if t.crit=crit then shr high t else 0)=x at hx;refine zll (Nat.le_of_dvd (Nat.mul_pos x.den_pos (Rat.den_pos _)) (qvx _ _)) ?_;rw[Nat.mul_comm];exact Nat.mul_le_mul h1 hx
theorem q5l{high:Bool}{t:Tk}(h:vld t=true):0≤shr high t∧shr high t≤1:=by
 have hb:=qcb h;have hn:0≤(if high=true then t.high else t.low)∧(if high=true then t.high else t.low)≤t.every:=by split<;>omega
 unfold shr;generalize(if high=true then t.high else t.low)=n at hn;refine⟨qll hn.1 _ (by omega),?_⟩;rw[Rat.le_iff,qia _ _ (by omega),qib _ _ (by omega)];simp only[Rat.num_ofNat,Rat.den_ofNat,Int.mul_one,Int.one_mul,Int.natCast_one,Int.natCast_ediv]
 have hg:(0:Int)<((n.natAbs.gcd t.every.toNat:Nat):Int):=by
  have:=Nat.gcd_pos_of_pos_right n.natAbs (show 0<t.every.toNat by omega);omega
 exact Int.ediv_le_ediv hg (by omega)
theorem qgy(crit high:Bool)(l:List Tk)(h: ∀t∈l,vld t=true):0≤qau crit high l∧qau crit high l≤(l.length:Rat):=by
 induction l with
 |nil=>simp[qau]
 |cons t l ih=>
  have h1:=ih (fun s hs=>h s (List.mem_cons_of_mem _ hs));have h2:=q5l (high:=high) (h t (by simp))
  have hx:0≤(if t.crit=crit then shr high t else 0)∧(if t.crit=crit then shr high t else 0)≤1:=by
   split
   ·exact h2
   ·grind
  simp only[qau,List.length_cons];generalize(if t.crit=crit then shr high t else 0)=x at hx;have e:((l.length+1:Nat):Rat)=(l.length:Rat)+1:=by simp
  rw[e];grind
theorem qho{r:Rat}{n:Nat}(h:r≤(n:Rat)):r.num≤(n:Int)*(r.den:Int):=by
 rw[Rat.le_iff] at h;simpa using h
abbrev sv(n d:Int):Value:=.agg #[.int .i64 n,.int .i64 d]
abbrev rv(r:Rat):Value:=.agg #[.int .i64 r.num,.int .i64 (r.den:Int)]
theorem qvy(a b:Nat)(w:World)(ha:a≤4611686018427387904)(hb:b≤4611686018427387904):
  Calls Tryz.prog 105 #[.int .i64 (a:Int),.int .i64 (b:Int)] w fun e w'=>e=.returned (.int .i64 ((Nat.gcd a b:Nat):Int))∧Below w.heap.size w w':=by
 go_enter Tryz.func105,Tryz.ntmps105;go_wp2
 go_loopw [0,1] (fun u v wr=> ∃x y:Nat,u=.int .i64 (x:Int)∧v=.int .i64 (y:Int)∧Hid (Nat.gcd x y=Nat.gcd a b)∧x≤4611686018427387904∧y≤4611686018427387904∧Below w.heap.size w wr) (fun _ v _=>(intOf v).toNat)
 case atStart=>exact⟨a,b,rfl,rfl,rfl,ha,hb,br⟩
 case round=>
  obtain⟨x,y,rfl,rfl,hg,hx,hy,hbl⟩:=hrel;by_cases h0:y=0
  ·subst h0;go_wp2
   go_ret;have:=hg.out;rw[Nat.gcd_zero_right] at this;exact⟨by rw[←this];rfl,hbl⟩
  ·have hne:((y:Int) !=0)=true:=by rw[bne_iff_ne];omega
   have hlt:=Nat.mod_lt x (show 0<y by omega);have hz:((y:Int)==0)=false:=beq_eq_false_iff_ne.2 (by omega);have h0':0<y:=by omega
   go_wp2
   go_quiet (fail)
   go_wp2
   go_roundw
   case rel=>exact⟨y,x % y,rfl,by go_num,by rw[Hid,qxx];exact hg,hy,by omega,bdr hbl _⟩
   case measure=>simp[intOf];omega
theorem qni(n d:Nat)(w:World)(hd:1≤d)(hn:n≤4611686018427387904)(hdm:d≤4611686018427387904):
  Calls Tryz.prog 65 #[.int .i64 (n:Int),.int .i64 (d:Int)] w fun e w'=>e=.returned (rv (mkRat (n:Int) d))∧Below w.heap.size w w':=by
 have hgpos:0<Nat.gcd n d:=Nat.gcd_pos_of_pos_right _ (by omega);have hgle:Nat.gcd n d≤d:=Nat.le_of_dvd (by omega) (Nat.gcd_dvd_right _ _);have e1:(mkRat (n:Int) d).num=(n:Int)/((Nat.gcd n d:Nat):Int):=by rw[qia _ _ (by omega)];simp
 have e2:(((mkRat (n:Int) d).den:Nat):Int)=(d:Int)/((Nat.gcd n d:Nat):Int):=by rw[qib _ _ (by omega)];simp
 have hne:(((Nat.gcd n d:Nat):Int)==0)=false:=beq_eq_false_iff_ne.2 (by omega);have E1:=zhi e1;have E2:=zhi e2;clear e1 e2;go_enter Tryz.func65,Tryz.ntmps65;go_wp2_with fail;refine(qvy n d _ hn hdm).mono ?_;rintro e w1 ⟨rfl,b1⟩;generalize Nat.gcd n d=c at*;have hB:w1.heap[w.heap.size]? =some (.cells #[.int .i64 0,.int .i64 0] 54 (0,0)):=(b1.block _ (by simp)).trans (zha w _);have k0:w1.cell? ⟨w.heap.size,0,none⟩=some (.int .i64 0):=by rw[cell_of_row w1 _ 0 _ _ _ hB];rfl
 have k1:w1.cell? ⟨w.heap.size,1,none⟩=some (.int .i64 0):=by rw[cell_of_row w1 _ 1 _ _ _ hB];rfl
 have kf: ∀i,w1.frozen? ⟨w.heap.size,i,none⟩=false:=fun i=>frozen_of_row w1 _ i _ _ hB
 clear hB;have hq1:IntKind.i64.wrap ((n:Int).tdiv (c:Int))=(n:Int)/(c:Int):=IntWalk.i64_quo _ _ (by omega);have hq2:IntKind.i64.wrap ((d:Int).tdiv (c:Int))=(d:Int)/(c:Int):=IntWalk.i64_quo _ _ (by omega);go_wp2_with fail;go_region
 go_wp2_with fail;have q1:0≤(n:Int)/(c:Int)∧(n:Int)/(c:Int)≤n:=⟨Int.ediv_nonneg (by omega) (by omega),Int.ediv_le_self _ (by omega)⟩;have q2:0≤(d:Int)/(c:Int)∧(d:Int)/(c:Int)≤d:=⟨Int.ediv_nonneg (by omega) (by omega),Int.ediv_le_self _ (by omega)⟩;have p1:wrap64 ((n:Int)/(c:Int))=(n:Int)/(c:Int):=IntWalk.wrap64_in _ (by omega);have p2:wrap64 ((d:Int)/(c:Int))=(d:Int)/(c:Int):=IntWalk.wrap64_in _ (by omega);refine bodyPost_ret (v:=sv ((n:Int)/(c:Int)) ((d:Int)/(c:Int))) (by simp[results,Tryz.results65,go_sem,k0,k1,p1,p2]) rfl ⟨?_,?_⟩
 ·rw[←E1.out,←E2.out]
 ·exact(bst (bst (qaa (bal br _) b1) (zlr _) _) (zlr _) _).drew
def qtr(n d:Int):Bool:=decide (0≤n∧n≤1000000000∧1≤d∧d≤1000000000)
def qxy(n d:Int)(w:World)(e:Ending)(w':World):Prop:=
 (qtr n d=true∧e=.returned (.tuple #[rv (mkRat n d.toNat),.bool true])∧Below w.heap.size w w')∨(qtr n d=false∧e=.returned (.tuple #[sv 0 0,.bool false])∧Below w.heap.size w w')
theorem qp4(n d:Int)(w:World):
  Calls Tryz.prog 229 #[.int .i64 n,.int .i64 d] w (qxy n d w):=by
 by_cases h0:0≤n
 case neg=>
  go_enter Tryz.func229,Tryz.ntmps229;go_wp2_with fail;exact bodyPost_ret (v:=.tuple #[sv 0 0,.bool false]) (by simp[results,Tryz.results229,go_sem]) rfl (.inr ⟨by simp[qtr];omega,rfl,bal br _⟩)
 by_cases h1:n≤1000000000
 case neg=>
  go_enter Tryz.func229,Tryz.ntmps229;go_wp2_with fail;exact bodyPost_ret (v:=.tuple #[sv 0 0,.bool false]) (by simp[results,Tryz.results229,go_sem]) rfl (.inr ⟨by simp[qtr];omega,rfl,bal br _⟩)
 by_cases h2:1≤d
 case neg=>
  go_enter Tryz.func229,Tryz.ntmps229;go_wp2_with fail;exact bodyPost_ret (v:=.tuple #[sv 0 0,.bool false]) (by simp[results,Tryz.results229,go_sem]) rfl (.inr ⟨by simp[qtr];omega,rfl,bal br _⟩)
 by_cases h3:d≤1000000000
 case neg=>
  go_enter Tryz.func229,Tryz.ntmps229;go_wp2_with fail;exact bodyPost_ret (v:=.tuple #[sv 0 0,.bool false]) (by simp[results,Tryz.results229,go_sem]) rfl (.inr ⟨by simp[qtr];omega,rfl,bal br _⟩)
 obtain⟨n,rfl⟩: ∃k:Nat,n=(k:Int):=⟨n.toNat,(Int.toNat_of_nonneg h0).symm⟩;obtain⟨d,rfl⟩: ∃k:Nat,d=(k:Int):=⟨d.toNat,(Int.toNat_of_nonneg (by omega)).symm⟩;go_enter Tryz.func229,Tryz.ntmps229;go_wp2_with fail;refine(qni n d _ (by omega) (by omega) (by omega)).mono ?_;rintro e w1 ⟨rfl,b1⟩;have hB:w1.heap[w.heap.size]? =some (.cells #[.int .i64 0,.int .i64 0] 54 (0,0)):=(b1.block _ (by simp)).trans (zha w _);have k0:w1.cell? ⟨w.heap.size,0,none⟩=some (.int .i64 0):=by rw[cell_of_row w1 _ 0 _ _ _ hB];rfl
 have k1:w1.cell? ⟨w.heap.size,1,none⟩=some (.int .i64 0):=by rw[cell_of_row w1 _ 1 _ _ _ hB];rfl
 have kf: ∀i,w1.frozen? ⟨w.heap.size,i,none⟩=false:=fun i=>frozen_of_row w1 _ i _ _ hB
 clear hB;generalize hr:mkRat (n:Int) d=r;go_wp2_with fail;refine bodyPost_ret (v:=.tuple #[rv r,.bool true]) (by simp[results,Tryz.results229,go_sem,k0,k1]) rfl (.inl ⟨by simp[qtr];omega,by rw[←hr];rfl,?_⟩);exact bst (bst (qaa (bal br _) b1) (zlr _) _) (zlr _) _
theorem qlm(a b:Int)(w:World):(binOp .eql 54 (sv a b) (sv a b)).run Tryz.prog w=.ok (.bool true) w:=by
 simp[go_sem]
def RIn(r:Rat):Prop:=0≤r.num∧r.num≤1000000000∧r.den≤1000000000
theorem qsc{r:Rat}(h:RIn r):qtr r.num (r.den:Int)=true:=by
 have:=r.den_pos;unfold RIn at h;simp only[qtr,decide_eq_true_eq];omega
theorem qgz(r:Rat)(w:World)(h:RIn r):
  Calls Tryz.prog 186 #[rv r] w fun e w'=>e=.returned (.bool true)∧Below w.heap.size w w':=by
 have hq:=fun(w:World)=>qlm r.num r.den w
 go_enter Tryz.func186,Tryz.ntmps186;go_wp2_with fail;refine(qp4 r.num r.den _).mono ?_;rintro e w1 (⟨_,rfl,b1⟩|⟨hf,_,_⟩)
 ·rw[Int.toNat_natCast,Rat.mkRat_self];have hB:w1.heap[w.heap.size]? =some (.cells #[.int .i64 r.num,.int .i64 (r.den:Int)] 54 (0,0)):=(b1.block _ (by simp)).trans (zha w _);have hs:w.heap.size<w1.heap.size:=by have:=b1.size;simp at this;omega
  have k0:w1.cell? ⟨w.heap.size,0,none⟩=some (.int .i64 r.num):=by rw[cell_of_row w1 _ 0 _ _ _ hB];rfl
  have k1:w1.cell? ⟨w.heap.size,1,none⟩=some (.int .i64 (r.den:Int)):=by rw[cell_of_row w1 _ 1 _ _ _ hB];rfl
  clear hB;go_wp2_with fail;go_ret;exact⟨rfl,bal (qaa (bal br _) b1) _⟩
 ·rw[qsc h] at hf;cases hf
theorem qgl(x y:Int)(w:World)(hx:0≤x)(hy:1≤y)(hxm:x≤4611686018427387904)(hym:y≤4611686018427387904):
  Calls Tryz.prog 65 #[.int .i64 x,.int .i64 y] w fun e w'=>e=.returned (rv (mkRat x y.toNat))∧Below w.heap.size w w':=by
 obtain⟨n,rfl⟩: ∃k:Nat,x=(k:Int):=⟨x.toNat,(Int.toNat_of_nonneg hx).symm⟩;obtain⟨d,rfl⟩: ∃k:Nat,y=(k:Int):=⟨y.toNat,(Int.toNat_of_nonneg (by omega)).symm⟩;rw[Int.toNat_natCast];exact qni n d w (by omega) (by omega) (by omega)
theorem qdb{x y a b:Int}(hx:0≤x)(hxa:x≤a)(hy:0≤y)(hyb:y≤b)(ha:0≤a):0≤x*y∧x*y≤a*b:=
 ⟨Int.mul_nonneg hx hy,Int.mul_le_mul hxa hyb hy ha⟩
theorem mk_add(a b:Rat):mkRat (a.num*(b.den:Int)+b.num*(a.den:Int)) ((a.den:Int)*(b.den:Int)).toNat=a+b:=by
 rw[←Int.natCast_mul,Int.toNat_natCast,q0e]
theorem mk_mul(a b:Rat):mkRat (a.num*b.num) ((a.den:Int)*(b.den:Int)).toNat=a*b:=by
 rw[←Int.natCast_mul,Int.toNat_natCast,q5k]
theorem qak{w:World}{b:Nat}{v0 v1:Value}{t:TypeId}(h:w.heap[b]? =some (.cells #[v0,v1] t (0,0))):
  w.cell? ⟨b,0,none⟩=some v0∧w.cell? ⟨b,1,none⟩=some v1∧ ∀i,w.frozen? ⟨b,i,none⟩=false:=
 ⟨by rw[cell_of_row w b 0 _ _ _ h];rfl,by rw[cell_of_row w b 1 _ _ _ h];rfl,fun i=>frozen_of_row w b i _ _ h⟩
theorem q5w(w:World)(A B C:Obj):(((w.alloc A).alloc B).alloc C).heap[w.heap.size]? =some A∧(((w.alloc A).alloc B).alloc C).heap[w.heap.size+1]? =some B∧(((w.alloc A).alloc B).alloc C).heap[w.heap.size+1+1]? =some C:=by
 refine⟨?_,?_,?_⟩
 ·show(((w.heap.push A).push B).push C)[_]? =_;rw[Array.getElem?_push,if_neg (by simp;omega),Array.getElem?_push,if_neg (by simp),Array.getElem?_push,if_pos rfl]
 ·show(((w.heap.push A).push B).push C)[_]? =_;rw[Array.getElem?_push,if_neg (by simp),Array.getElem?_push,if_pos (by simp)]
 ·show(((w.heap.push A).push B).push C)[_]? =_;rw[Array.getElem?_push,if_pos (by simp)]
def qg0(t:Tk)(w:Int):Int:=(w+t.every-1)/t.every
def qln(t:Tk)(high:Bool):Int:=if high then t.high else t.low
def qnw(t:Tk)(w:Int)(high:Bool):Int:=qg0 t w*qln t high
def qid(f:Nat→Int):Nat→Int
 |0=>0
 |n+1=>qid f n+f n
theorem qbz{t:Tk}(h:vld t=true):1≤t.low∧t.low≤t.high∧t.high≤t.due∧t.due≤t.every∧t.every≤20:=by
 have:=qcb h;omega
theorem qts{t:Tk}(h:vld t=true)(b:Bool):1≤qln t b∧qln t b≤20:=by
 have:=qbz h;cases b<;>simp[qln]<;>omega
theorem qlo{t:Tk}(h:vld t=true){w:Int}(hw:0≤w):0≤qg0 t w∧qg0 t w≤w:=by
 have:=qbz h;unfold qg0;refine⟨Int.ediv_nonneg (by omega) (by omega),?_⟩
 have h1:(w+t.every-1)/t.every<w+1:=by
  rw[Int.ediv_lt_iff_lt_mul (by omega)];have:(w+1)*t.every=w*t.every+t.every:=by rw[Int.add_mul,Int.one_mul]
  have h2:w*1≤w*t.every:=Int.mul_le_mul_of_nonneg_left (by omega) hw;omega
 omega
theorem qvz{t:Tk}(h:vld t=true){v w:Int}(hw:v≤w):qg0 t v≤qg0 t w:=by
 have:=qbz h;exact Int.ediv_le_ediv (by omega) (by omega)
theorem qh0{t:Tk}(h:vld t=true)(b:Bool){w:Int}(hw:0≤w):0≤qnw t w b∧qnw t w b≤w*20:=by
 have h1:=qlo h hw;have h2:=qts h b;exact⟨Int.mul_nonneg h1.1 (by omega),Int.mul_le_mul h1.2 h2.2 (by omega) (by omega)⟩
theorem qtt{t:Tk}(h:vld t=true)(b:Bool){v w:Int}(hw:v≤w):qnw t v b≤qnw t w b:=by
 have h2:=qts h b;exact Int.mul_le_mul_of_nonneg_right (qvz h hw) (by omega)
theorem qxz{f g:Nat→Int}{n:Nat}(h: ∀k,k<n→f k≤g k):qid f n≤qid g n:=by
 induction n with
 |zero=>simp[qid]
 |succ n ih=>
  have h1:=ih (fun k hk=>h k (by omega));have h2:=h n (by omega);simp only[qid];omega
theorem qnj{f:Nat→Int}{n:Nat}(h: ∀k,k<n→0≤f k):0≤qid f n:=by
 induction n with
 |zero=>simp[qid]
 |succ n ih=>
  have h1:=ih (fun k hk=>h k (by omega));have h2:=h n (by omega);simp only[qid];omega
theorem qx0{f:Nat→Int}{n:Nat}{c:Int}(h: ∀k,k<n→f k≤c):qid f n≤n*c:=by
 induction n with
 |zero=>simp[qid]
 |succ n ih=>
  have h1:=ih (fun k hk=>h k (by omega));have h2:=h n (by omega);simp only[qid];have:((n+1:Nat):Int)*c=n*c+c:=by simp[Int.add_mul]
  omega
def q3m(next:Int→Int)(most:Int):Nat→Int→Option Int
 |0,_=>none
 |n+1,w=>if w≤most then(if next w=w then some w else q3m next most n (next w)) else none
def qfd(next:Int→Int)(start most:Int):Option Int:=q3m next most (most+1-start).toNat start
theorem qjh{next:Int→Int}{most w:Int}(h:most<w)(n:Nat):q3m next most n w=none:=by
 cases n with
 |zero=>rfl
 |succ n=>simp only[q3m];rw[if_neg (by omega)]
theorem qie{next:Int→Int}{w most:Int}(hw:w≤most)(hn:w<next w)(hm: ∀v u,v≤u→next v≤next u):qfd next w most=qfd next (next w) most:=by
 have key: ∀(n m:Nat) (v:Int),v≤next v→most+1-v≤n→most+1-v≤m→q3m next most n v=q3m next most m v:=by
  intro n;induction n with
  |zero=>
   intro m v _ h1 _;rw[qjh (by omega),qjh (by omega)]
  |succ n ih=>
   intro m v hv h1 h2;by_cases hvm:v≤most
   ·obtain⟨m,rfl⟩: ∃j,m=j+1:=⟨m-1,by omega⟩;simp only[q3m];rw[if_pos hvm,if_pos hvm];by_cases e:next v=v
    ·rw[if_pos e,if_pos e]
    ·rw[if_neg e,if_neg e];exact ih m (next v) (hm _ _ hv) (by omega) (by omega)
   ·rw[qjh (by omega),qjh (by omega)]
 unfold qfd;obtain⟨n,hn'⟩: ∃n,(most+1-w).toNat=n+1:=⟨(most+1-w).toNat-1,by omega⟩;rw[hn'];simp only[q3m];rw[if_pos hw,if_neg (by omega)];exact key _ _ _ (hm _ _ (by omega)) (by omega) (by omega)
theorem qif{next:Int→Int}{w most:Int}(hw:most<w):qfd next w most=none:=qjh hw _
theorem qji{next:Int→Int}{w most:Int}(hw:w≤most)(hn:next w=w):qfd next w most=some w:=by
 unfold qfd;obtain⟨n,hn'⟩: ∃n,(most+1-w).toNat=n+1:=⟨(most+1-w).toNat-1,by omega⟩;rw[hn'];simp only[q3m];rw[if_pos hw,if_pos hn]
theorem qq5{next:Int→Int}{start most:Int}(hm: ∀v u,v≤u→next v≤next u)(h0:start≤next start)(r:Int):
  qfd next start most=some r↔(start≤r∧r≤most∧next r≤r∧ ∀v,start≤v→next v≤v→r≤v):=by
 have main: ∀(k:Nat) (w:Int),(most+1-w).toNat=k→start≤w→w≤next w→(∀v,start≤v→next v≤v→w≤v)→(qfd next w most=some r↔(start≤r∧r≤most∧next r≤r∧ ∀v,start≤v→next v≤v→r≤v)):=by
  intro k;induction k using Nat.strongRecOn with
  |_ k ih=>
   intro w hk hs hw hl;by_cases hwm:w≤most
   ·by_cases e:next w=w
    ·rw[qji hwm e];constructor
     ·intro h;cases h
      exact⟨hs,hwm,by omega,hl⟩
     ·rintro⟨a,b,c,d⟩;have h1:=hl r a c;have h2:=d w hs (by omega);rw[show w=r by omega]
    ·rw[qie hwm (by omega) hm];exact ih (most+1-next w).toNat (by omega) (next w) rfl (by omega) (hm _ _ hw) (fun v a c=>by have:=hm _ _ (hl v a c);omega)
   ·rw[qif (by omega)];constructor
    ·intro h;cases h
    ·rintro⟨a,b,c,d⟩;have:=hl r a c;omega
 exact main _ start rfl (Int.le_refl _) h0 (fun v h _=>h)
theorem qa8(t:Tk)(w:World):
  Calls Tryz.prog 71 #[t.val] w fun e w'=>e=.returned (.bool (vld t))∧Below w.heap.size w w':=by
 obtain⟨low,high,due,every,crit⟩:=t;go_enter Tryz.func71,Tryz.ntmps71;go_wp2
 all_goals go_ret
 all_goals refine⟨?_,(Below.refl _ _).alloc (zlr _) _⟩
 all_goals(simp[vld, *];try omega)
theorem qdo(t:Tk)(w:World):
  Calls Tryz.prog 99 #[t.val] w fun e w'=>e=.returned (.bool (vld t))∧Below w.heap.size w w':=by
 obtain⟨low,high,due,every,crit⟩:=t;go_enter Tryz.func99,Tryz.ntmps99;go_wp2
 all_goals go_ret
 all_goals refine⟨?_,(Below.refl _ _).alloc (zlr _) _⟩
 all_goals(simp[vld, *];try omega)
theorem qlp(l:List Tk)(k:Nat)(hk:k<l.length):(l.take (k+1)).all vld=((l.take k).all vld&&vld l[k]):=by
 rw[List.take_succ_eq_append_getElem hk,List.all_append];simp
theorem qae(A:ZA)(l:List Tk)(c:Nat)(w:World)(h:TS w A l):
  Calls Tryz.prog 34 #[.slice A l.length c] w fun e w'=>e=.returned (.bool (qad l))∧Below w.heap.size w w':=by
 by_cases h5:l.length≤5
 ·go_enter Tryz.func34,Tryz.ntmps34;go_wp2
  go_loopw [10] (fun i wr=> ∃k:Nat,k≤l.length∧i=.int .i64 k∧Hid ((l.take k).all vld=true)∧Below w.heap.size w wr) (fun i _=>l.length-(intOf i).toNat)
  case atStart=>exact⟨0,Nat.zero_le _,rfl,by simp[Hid],br⟩
  case round=>
   obtain⟨k,hk,rfl,hall,hb⟩:=hrel;by_cases hlt:k<l.length
   ·obtain⟨b,off,rfl,hbl,hc⟩:=h.keep hb (by omega);obtain⟨c0,c1,c2,c3,c4⟩:=qby hc k hlt;clear hc;go_wp2_with (go_at_call 71;refine(qa8 _ _).mono ?_;rintro e w' ⟨rfl,hb2⟩)
    ·have hv:(!vld l[k])=true:=by assumption
     go_ret;refine⟨?_,qaa (bal hb _) hb2⟩;have:l.all vld=false:=List.all_eq_false.2 ⟨l[k],List.getElem_mem _,by simpa using hv⟩;simp[qad,this]
    ·have hv:(!vld l[k])=false:=by assumption
     go_roundw
     case rel=>exact⟨k+1,by omega,by go_num,by rw[Hid,qlp l k hlt,hall.out];simpa using hv,qaa (bal hb _) hb2⟩
     case measure=>simp[intOf];omega
   ·go_wp2
    go_ret;have:k=l.length:=by omega
    subst this;exact⟨by simpa [qad,h5] using hall.out,hb⟩
 ·go_enter Tryz.func34,Tryz.ntmps34;go_wp2
  go_ret;exact⟨by simp[qad,h5],br⟩
def qje(l:List Tk)(crit high:Bool):Value:=if qad l then rv (qau crit high l) else sv 0 0
theorem qaj{l:List Tk}(h:qad l=true):l.length≤5∧ ∀t∈l,vld t=true:=by
 simp only[qad,Bool.and_eq_true,decide_eq_true_eq,List.all_eq_true] at h;exact h
theorem qnk{l:List Tk}(h: ∀t∈l,vld t=true)(hl:l.length≤5)(crit high:Bool):
  0≤(qau crit high l).num∧(qau crit high l).num≤16000000∧(qau crit high l).den≤3200000:=by
 have h1:=qgy crit high l h;have h2:=qy2 crit high l h;have h3:=qho h1.2;have h4:20^l.length≤20^5:=Nat.pow_le_pow_right (by omega) hl;have h5:(l.length:Int)*((qau crit high l).den:Int)≤5*((qau crit high l).den:Int):=Int.mul_le_mul_of_nonneg_right (by omega) (by omega);refine⟨qic h1.1,?_,?_⟩<;>omega
theorem qej{w:World}{b:Nat}{v0 v1:Value}{t:TypeId}(h:w.heap[b]? =some (.cells #[v0,v1] t (0,0)))(u0 u1:Value):((w.setCell ⟨b,0,none⟩ u0).setCell ⟨b,1,none⟩ u1).heap[b]? =some (.cells #[u0,u1] t (0,0)):=by
 have h1:=heap_setCell_same w b 0 #[v0,v1] t u0 h;have h2:=heap_setCell_same _ b 1 _ t u1 h1;simpa using h2
theorem mk_shr(r:Rat)(n e:Int)(he:1≤e):mkRat (r.num*e+n*(r.den:Int)) ((r.den:Int)*e).toNat=r+mkRat n e.toNat:=by
 obtain⟨m,rfl⟩: ∃m:Nat,e=(m:Int):=⟨e.toNat,(Int.toNat_of_nonneg (by omega)).symm⟩;have h:=Rat.mkRat_add_mkRat r.num n (d₁:=r.den) (d₂:=m) r.den_nz (by omega);rw[Rat.mkRat_self] at h;rw[Int.toNat_natCast,h,←Int.natCast_mul,Int.toNat_natCast]
theorem qq6(A:ZA)(l:List Tk)(c:Nat)(crit high:Bool)(w:World)(h:TS w A l):
  Calls Tryz.prog 104 #[.slice A l.length c,.bool crit,.bool high] w fun e w'=>e=.returned (qje l crit high)∧Below w.heap.size w w':=by
 cases hS:qad l with
 |false=>
  have hv:qje l crit high=sv 0 0:=by simp[qje,hS]
  rw[hv];clear hv;go_enter Tryz.func104,Tryz.ntmps104;go_wp2_with fail;refine(qae A l c _ (h.keep (bal br _))).mono ?_;rw[hS];rintro e w1 ⟨rfl,b1⟩;have hB:=(b1.block w.heap.size (by simp)).trans (zha w _);obtain⟨x0,x1,xf⟩:=qak hB;clear hB;go_wp2_with fail;refine bodyPost_ret (v:=sv 0 0) (by simp[results,Tryz.results104,go_sem,x0,x1]) rfl ⟨rfl,?_⟩;exact bst (bst (qaa (bal br _) b1) (p:=⟨w.heap.size,0,none⟩) (zlr _) _) (p:=⟨w.heap.size,1,none⟩) (zlr _) _
 |true=>
  obtain⟨hl5,hall⟩:=qaj hS;have hv:qje l crit high=rv (qau crit high l):=by simp[qje,hS]
  rw[hv];have Hall:=zhi hall;clear hv hall;go_enter Tryz.func104,Tryz.ntmps104;go_wp2_with fail;refine(qae A l c _ (h.keep (bal br _))).mono ?_;rw[hS];clear hS;rintro e w1 ⟨rfl,b1⟩;have hB:=zhi ((b1.block w.heap.size (by simp)).trans (zha w _));have hz1:=b1.size;simp only[World.size_alloc] at hz1;have hb1:=qaa (bal br _) b1;go_wp2_with fail;have hBl:w.heap.size<w1.heap.size:=by omega
  go_loopw [18] (fun i wr=> ∃k:Nat,i=.int .i64 (k:Int)∧k≤l.length∧Below w.heap.size w wr∧w1.heap.size<wr.heap.size∧Hid (wr.heap[w.heap.size]? =some (.cells #[.int .i64 0,.int .i64 0] 54 (0,0)))∧
   Hid (wr.heap[w1.heap.size]? =some (.cells #[.int .i64 (qau crit high (l.take k)).num,.int .i64 ((qau crit high (l.take k)).den:Int)] 54 (0,0)))) (fun i _=>l.length-(intOf i).toNat)
  case atStart=>exact⟨0,rfl,by omega,bal hb1 _,by simp,(Below.heap_alloc _ _ _ hBl).trans hB.out,zha w1 _⟩
  case round=>
   clear hB;obtain⟨k,rfl,hk,hb,hSl,hB,hS⟩:=hrel;by_cases hlt:k<l.length
   ·obtain⟨b,off,rfl,hbl,hc⟩:=h.keep hb (by omega);obtain⟨c0,c1,c2,c3,c4⟩:=qby hc k hlt;clear hc;have hvk:=qcb (Hall.out _ (List.getElem_mem hlt));obtain⟨v0,v1,v2,v3,v4⟩:=hvk;have hsm:=qnk (l:=l.take k) (fun t ht=>Hall.out t (List.mem_of_mem_take ht)) (by simp;omega) crit high;have hts:=zhi (qi8 crit high l k hlt);obtain⟨z0,z1,z2⟩:=hsm;obtain⟨s0,s1,sf⟩:=qak hS.out;have hd:=(qau crit high (l.take k)).den_pos;generalize qau crit high (l.take k)=r at*;by_cases hcr:l[k].crit=crit
    ·have hcb:(l[k].crit==crit)=true:=by simp[hcr]
     have Hcr:=zhi hcr;clear hcr;have m1:=qdb z0 z1 (show 0≤l[k].every by omega) v4 (by omega);have m2:=qdb (show 0≤(r.den:Int) by omega) (show(r.den:Int)≤3200000 by omega) (show 0≤l[k].every by omega) v4 (by omega);have m3:=qdb (show 0≤l[k].low by omega) (show l[k].low≤20 by omega) (show 0≤(r.den:Int) by omega) (show(r.den:Int)≤3200000 by omega) (by omega);have m4:=qdb (show 0≤l[k].high by omega) (show l[k].high≤20 by omega) (show 0≤(r.den:Int) by omega) (show(r.den:Int)≤3200000 by omega) (by omega);have m5:1≤(r.den:Int)*l[k].every:=by have:=Int.mul_pos (show(0:Int)<r.den by omega) (show 0<l[k].every by omega);omega
     obtain⟨m10,m11⟩:=m1;obtain⟨m20,m21⟩:=m2;obtain⟨m30,m31⟩:=m3;obtain⟨m40,m41⟩:=m4;cases high
     all_goals
      go_wp2_with fail;refine(qgl _ _ _ (by omega) (by omega) (by omega) (by omega)).mono ?_;rw[mk_shr r _ _ (by omega)];rintro e w2 ⟨rfl,b2⟩;have hS2:=(b2.block _ (by simp;omega)).trans ((Below.heap_alloc _ _ _ hSl).trans hS.out);have hB2:=zhi ((b2.block _ (by simp;omega)).trans ((Below.heap_alloc _ _ _ (by omega)).trans hB.out));have HS2:=zhi hS2;have hz2:=b2.size;simp only[World.size_alloc] at hz2;obtain⟨p0,p1,pf⟩:=qak hS2;clear s0 s1 sf hS2;go_wp2_with fail;go_roundw
      case rel=>
       refine⟨k+1,by go_num,by omega,bst (bst (qaa (bal hb _) b2) (p:=⟨w1.heap.size,0,none⟩) (Nat.le_of_lt hBl) _) (p:=⟨w1.heap.size,1,none⟩) (Nat.le_of_lt hBl) _,by simp;omega,?_,?_⟩
       ·exact(Below.heap_setCell _ _ _ _ (by simp;omega)).trans ((Below.heap_setCell _ _ _ _ (by simp;omega)).trans hB2.out)
       ·rw[Hid,hts.out,if_pos Hcr.out];exact qej HS2.out _ _
      case measure=>simp[intOf];omega
    ·have hcb:(l[k].crit==crit)=false:=by simp[hcr]
     have Hcr:=zhi hcr;clear hcr;go_wp2_with fail;go_roundw
     case rel=>
      refine⟨k+1,by go_num,by omega,bal hb _,by simp;omega,(Below.heap_alloc _ _ _ (by omega)).trans hB.out,?_⟩;rw[Hid,hts.out,if_neg Hcr.out,Rat.add_zero];exact(Below.heap_alloc _ _ _ hSl).trans hS.out
     case measure=>simp[intOf];omega
   ·have ek:k=l.length:=by omega
    have hS':=hS.out;rw[List.take_of_length_le (by omega)] at hS';obtain⟨s0,s1,sf⟩:=qak hS';obtain⟨z0,z1,zf⟩:=qak hB.out;clear hS';go_wp2_with fail;refine bodyPost_ret (v:=rv (qau crit high l)) (by simp[results,Tryz.results104,go_sem,z0,z1]) rfl ⟨rfl,?_⟩;exact bst (bst hb (p:=⟨w.heap.size,0,none⟩) (zlr _) _) (p:=⟨w.heap.size,1,none⟩) (zlr _) _
theorem qd6(A:ZA)(l:List Tk)(c:Nat)(crit:Bool)(w:World)(h:TS w A l):
  Calls Tryz.prog 62 #[.slice A l.length c,.bool crit] w fun e w'=>e=.returned (qje l crit false)∧Below w.heap.size w w':=by
 obtain⟨a,b,hv⟩: ∃a b,qje l crit false=sv a b:=by
  unfold qje;split
  ·exact⟨_,_,rfl⟩
  ·exact⟨_,_,rfl⟩
 go_enter Tryz.func62,Tryz.ntmps62;go_wp2_with fail;refine(qq6 A l c crit false _ (h.keep (bal br _))).mono ?_;rw[hv];rintro e w1 ⟨rfl,b1⟩;have hB:=(b1.block w.heap.size (by simp)).trans (zha w _);obtain⟨x0,x1,xf⟩:=qak hB;have Hv:=zhi hv;clear hB hv;go_wp2_with fail;refine bodyPost_ret (v:=sv a b) (by simp[results,Tryz.results62,go_sem,x0,x1]) rfl ⟨by rw[Hv.out],?_⟩;exact bst (bst (qaa (bal br _) b1) (p:=⟨w.heap.size,0,none⟩) (zlr _) _) (p:=⟨w.heap.size,1,none⟩) (zlr _) _
theorem qh1(A:ZA)(l:List Tk)(c:Nat)(w:World)(h:TS w A l):
  Calls Tryz.prog 103 #[.slice A l.length c] w fun e w'=>e=.returned (qje l true true)∧Below w.heap.size w w':=by
 obtain⟨a,b,hv⟩: ∃a b,qje l true true=sv a b:=by
  unfold qje;split
  ·exact⟨_,_,rfl⟩
  ·exact⟨_,_,rfl⟩
 go_enter Tryz.func103,Tryz.ntmps103;go_wp2_with fail;refine(qq6 A l c true true _ (h.keep (bal br _))).mono ?_;rw[hv];rintro e w1 ⟨rfl,b1⟩;have hB:=(b1.block w.heap.size (by simp)).trans (zha w _);obtain⟨x0,x1,xf⟩:=qak hB;have Hv:=zhi hv;clear hB hv;go_wp2_with fail;refine bodyPost_ret (v:=sv a b) (by simp[results,Tryz.results103,go_sem,x0,x1]) rfl ⟨by rw[Hv.out],?_⟩;exact bst (bst (qaa (bal br _) b1) (p:=⟨w.heap.size,0,none⟩) (zlr _) _) (p:=⟨w.heap.size,1,none⟩) (zlr _) _
theorem qtu{t:Tk}(h:vld t=true){x:Int}(hx:0≤x):(x+t.every-1).tdiv t.every=qg0 t x:=by
 have:=qbz h;unfold qg0;rw[Int.tdiv_eq_ediv_of_nonneg (by omega)]
theorem qkx(t:Tk)(x:Int)(b:Bool)(w:World)(h:vld t=true)(hx:0≤x)(hxm:x≤2000000):
  Calls Tryz.prog 184 #[t.val,.int .i64 x,.bool b] w fun e w'=>e=.returned (.int .i64 (qnw t x b))∧Below w.heap.size w w':=by
 have hn:=qbz h;obtain⟨n1,n2,n3,n4,n5⟩:=hn;have hJ:=qtu h hx;have hb:=qlo h hx;have hd:qnw t x b=qg0 t x*qln t b:=rfl;have Hd:=zhi hd;clear hd;obtain⟨J,hJJ⟩: ∃J,qg0 t x=J:=⟨_,rfl⟩;rw[hJJ] at hJ hb;obtain⟨b1,b2⟩:=hb;have m1:=qdb b1 b2 (show 0≤t.low by omega) (show t.low≤20 by omega) hx;have m2:=qdb b1 b2 (show 0≤t.high by omega) (show t.high≤20 by omega) hx;obtain⟨m10,m11⟩:=m1;obtain⟨m20,m21⟩:=m2;have hne:(t.every==0)=false:=beq_eq_false_iff_ne.2 (by omega);have HJ:=zhi hJJ;clear hJJ;cases b
 all_goals
  go_enter Tryz.func184,Tryz.ntmps184;go_wp2_with fail
 all_goals go_ret
 all_goals refine⟨?_,bal br _⟩
 all_goals(rw[Hd.out,HJ.out];simp[qln, *])
theorem qiu(t:Tk)(x:Int)(b:Bool)(w:World)(h:vld t=true)(hx:0≤x)(hxm:x≤2000000):
  Calls Tryz.prog 201 #[t.val,.int .i64 x,.bool b] w fun e w'=>e=.returned (.int .i64 (qnw t x b))∧Below w.heap.size w w':=by
 have hn:=qbz h;obtain⟨n1,n2,n3,n4,n5⟩:=hn;have hJ:=qtu h hx;have hb:=qlo h hx;have hd:qnw t x b=qg0 t x*qln t b:=rfl;have Hd:=zhi hd;clear hd;obtain⟨J,hJJ⟩: ∃J,qg0 t x=J:=⟨_,rfl⟩;rw[hJJ] at hJ hb;obtain⟨b1,b2⟩:=hb;have m1:=qdb b1 b2 (show 0≤t.low by omega) (show t.low≤20 by omega) hx;have m2:=qdb b1 b2 (show 0≤t.high by omega) (show t.high≤20 by omega) hx;obtain⟨m10,m11⟩:=m1;obtain⟨m20,m21⟩:=m2;have hne:(t.every==0)=false:=beq_eq_false_iff_ne.2 (by omega);have HJ:=zhi hJJ;clear hJJ;cases b
 all_goals
  go_enter Tryz.func201,Tryz.ntmps201;go_wp2_with fail
 all_goals go_ret
 all_goals refine⟨?_,bal br _⟩
 all_goals(rw[Hd.out,HJ.out];simp[qln, *])
def qag(l:List Tk)(k:Nat):Tk:=l.getD k ⟨0,0,0,0,false⟩
theorem qc3(l:List Tk)(k:Nat)(h:k<l.length):qag l k=l[k]:=by simp[qag,h]
theorem qaq{l:List Tk}(h:qad l=true){k:Nat}(hk:k<l.length):vld (qag l k)=true:=by
 rw[qc3 l k hk];exact(qaj h).2 _ (List.getElem_mem hk)
def qgh(l:List Tk)(n:Nat)(w:Int):Int:=qid (fun k=>qnw (qag l k) w false) n
def qbl(l:List Tk)(at_:Nat)(w:Int):Int:=(qag l at_).low+qgh l at_ w
def qc4(l:List Tk)(at_:Nat):Option Int:=qfd (qbl l at_) (qag l at_).low (qag l at_).due
def qf9(t:Tk)(low w:Int):Int:=if t.crit then qnw t w true else qnw t low false
def qkh(l:List Tk)(low:Int)(n:Nat)(w:Int):Int:=qid (fun k=>qf9 (qag l k) low w) n
def qbq(l:List Tk)(low:Int)(at_:Nat)(w:Int):Int:=(qag l at_).high+qkh l low at_ w
def qq7(l:List Tk)(at_:Nat):Option Int:=
 match qc4 l at_ with
 |none=>none
 |some low=>if(qag l at_).crit then qfd (qbq l low at_) (qag l at_).high (qag l at_).due else none
def plc(l:List Tk)(x:Int):Bool:=qad l&&decide (0≤x)&&decide (x<l.length)
def qmh(l:List Tk)(x:Int):Option Int:=if plc l x then qc4 l x.toNat else none
def rSw(l:List Tk)(x:Int):Option Int:=if plc l x then qq7 l x.toNat else none
def qer(l:List Tk)(k:Nat):Bool:=if(qag l k).crit then(qq7 l k).isSome else(qc4 l k).isSome
def qkk(l:List Tk)(x:Int):Bool:=plc l x&&qer l x.toNat
def qga(l:List Tk):Bool:=qad l&&(List.range l.length).all (qer l)
theorem qv0{l:List Tk}(h:qad l=true){n:Nat}(hn:n≤l.length){v w:Int}(hw:v≤w):qgh l n v≤qgh l n w:=
 qxz fun k hk=>qtt (qaq h (by omega)) _ hw
theorem qf0{l:List Tk}(h:qad l=true){n:Nat}(hn:n≤l.length){v w:Int}(hw:v≤w):qbl l n v≤qbl l n w:=by
 have:=qv0 h hn hw;simp only[qbl];omega
theorem qy3{t:Tk}(h:vld t=true)(low:Int){v w:Int}(hw:v≤w):qf9 t low v≤qf9 t low w:=by
 unfold qf9;split
 ·exact qtt h _ hw
 ·omega
theorem qy4{l:List Tk}(h:qad l=true)(low:Int){n:Nat}(hn:n≤l.length){v w:Int}(hw:v≤w):qkh l low n v≤qkh l low n w:=
 qxz fun k hk=>qy3 (qaq h (by omega)) _ hw
theorem qg1{l:List Tk}(h:qad l=true)(low:Int){n:Nat}(hn:n≤l.length){v w:Int}(hw:v≤w):qbq l low n v≤qbq l low n w:=by
 have:=qy4 h low hn hw;simp only[qbq];omega
theorem qig{l:List Tk}(h:qad l=true){n:Nat}(hn:n≤l.length){w:Int}(h0:0≤w)(h1:w≤20):0≤qgh l n w∧qgh l n w≤n*400:=
 ⟨qnj fun k hk=>(qh0 (qaq h (by omega)) _ h0).1,qx0 fun k hk=>by have:=(qh0 (qaq h (show k<l.length by omega)) false h0).2;omega⟩
theorem qx1{t:Tk}(h:vld t=true){low w:Int}(hl:0≤low)(hl1:low≤20)(h0:0≤w)(h1:w≤20):0≤qf9 t low w∧qf9 t low w≤400:=by
 have a:=qh0 h true h0;have b:=qh0 h false hl;unfold qf9;split<;>omega
theorem qj6{l:List Tk}(h:qad l=true){low:Int}(hl:0≤low)(hl1:low≤20){n:Nat}(hn:n≤l.length){w:Int}(h0:0≤w)(h1:w≤20):0≤qkh l low n w∧qkh l low n w≤n*400:=
 ⟨qnj fun k hk=>(qx1 (qaq h (by omega)) hl hl1 h0 h1).1,qx0 fun k hk=>(qx1 (qaq h (by omega)) hl hl1 h0 h1).2⟩
def qat(l:List Jb)(k:Nat):Jb:=l.getD k ⟨0,0,0⟩
theorem qbv(l:List Jb)(k:Nat)(h:k<l.length):qat l k=l[k]:=by simp[qat,h]
def qbw(l:List Tk)(j:Jb):Bool:=plc l j.task&&decide (0≤j.at_)&&decide (j.at_≤200)&&decide (1≤j.need)&&decide (j.need≤(qag l j.task.toNat).high)
def qp5(a b:Jb):Bool:=decide (a.at_<b.at_)||(decide (a.at_=b.at_)&&decide (a.task<b.task))
def qy5(l:List Tk)(j k:Jb):Bool:= !(decide (k.task=j.task)&&decide (j.at_-k.at_<(qag l j.task.toNat).every))
def qeb(l:List Tk)(js:List Jb)(i:Nat):Bool:=qbw l (qat js i)&&(js.take i).all (qy5 l (qat js i))&&(decide (i=0)||qp5 (qat js (i-1)) (qat js i))
def qa6(l:List Tk)(js:List Jb):Bool:=qad l&&decide (js.length≤60)&&(List.range js.length).all (qeb l js)
def qhp(xs:List Jb)(t:Int):Int:=xs.foldl (fun a k=>if k.task=t then k.at_ else a) (-20)
def qlq(l:List Tk)(js:List Jb)(i:Nat):Bool:=qbw l (qat js i)&&(decide (i=0)||qp5 (qat js (i-1)) (qat js i))&& !decide ((qat js i).at_-qhp (js.take i) (qat js i).task<(qag l (qat js i).task.toNat).every)
theorem qv1{α:Type}{P:List α→Prop}(h0:P [])(h1: ∀xs x,P xs→P (xs++[x]))(l:List α):P l:=by
 rw[←l.reverse_reverse];induction l.reverse with
 |nil=>exact h0
 |cons a r ih=>
  rw[List.reverse_cons];exact h1 _ _ ih
theorem qky(xs:List Jb)(k:Jb)(t:Int):qhp (xs++[k]) t=if k.task=t then k.at_ else qhp xs t:=by simp[qhp,List.foldl_append]
theorem qtv(xs:List Jb)(t:Int):qhp xs t= -20∨ ∃k∈xs,k.task=t∧k.at_=qhp xs t:=by
 induction xs using qv1 with
 |h0=>exact .inl rfl
 |h1 xs k ih=>
  rw[qky];by_cases h:k.task=t
  ·rw[if_pos h];exact .inr ⟨k,by simp,h,rfl⟩
  ·rw[if_neg h];rcases ih with ih|⟨q,hq,h1,h2⟩
   ·exact .inl ih
   ·exact .inr ⟨q,by simp[hq],h1,h2⟩
theorem q0g(xs:List Jb)(t:Int)(hs:xs.Pairwise (fun a b=>a.at_≤b.at_)): ∀k∈xs,k.task=t→k.at_≤qhp xs t:=by
 induction xs using qv1 with
 |h0=>simp
 |h1 xs q ih=>
  rw[List.pairwise_append] at hs;intro k hk hkt;rw[qky];rw[List.mem_append,List.mem_singleton] at hk;rcases hk with hk|rfl
  ·split
   ·exact hs.2.2 k hk q (by simp)
   ·exact ih hs.1 k hk hkt
  ·rw[if_pos hkt];exact Int.le_refl _
theorem qv2{js:List Jb}{n:Nat}(hn:n≤js.length)(h: ∀i,i<n→i=0∨qp5 (qat js (i-1)) (qat js i)=true):(js.take n).Pairwise (fun a b=>a.at_≤b.at_):=by
 induction n with
 |zero=>simp
 |succ n ih=>
  have hlt:n<js.length:=by omega
  have ihh:=ih (by omega) (fun i hi=>h i (by omega));rw[List.take_succ_eq_append_getElem hlt,List.pairwise_append];refine⟨ihh,by simp,?_⟩;intro a ha b hb;rw[List.mem_singleton] at hb;subst hb;cases n with
  |zero=>simp at ha
  |succ m=>
   have hm:m<js.length:=by omega
   have hb:=h (m+1) (by omega);rcases hb with hb|hb
   ·omega
   ·have e1:qat js (m+1-1)=js[m]:=by rw[qbv js _ (by omega)];rfl
    rw[e1,qbv js _ hlt] at hb
    have hle:js[m].at_≤js[m+1].at_:=by
     simp only[qp5,Bool.or_eq_true,Bool.and_eq_true,decide_eq_true_eq] at hb;omega
    rw[List.take_succ_eq_append_getElem hm,List.pairwise_append] at ihh;rw[List.take_succ_eq_append_getElem hm,List.mem_append,List.mem_singleton] at ha;rcases ha with ha|rfl
    ·exact Int.le_trans (ihh.2.2 a ha _ (by simp)) hle
    ·exact hle
theorem qtw{l:List Tk}{js:List Jb}{i:Nat}(hi:i<js.length)(hall: ∀j,j<i→qeb l js j=true):qeb l js i=qlq l js i:=by
 have hs:(js.take i).Pairwise (fun a b=>a.at_≤b.at_):=qv2 (by omega) (fun j hj=>by
  have:=hall j hj;simp only[qeb,Bool.and_eq_true,Bool.or_eq_true,decide_eq_true_eq] at this;exact this.2)
 generalize hj:qat js i=j;unfold qeb qlq;rw[hj];cases hO:qbw l j with
 |false=>simp
 |true=>
  have hO':=hO;simp only[qbw,Bool.and_eq_true,decide_eq_true_eq] at hO';obtain⟨⟨⟨⟨hp,h0⟩,h1⟩,h2⟩,h3⟩:=hO'
  have hev:(qag l j.task.toNat).every≤20:=by
   simp only[plc,Bool.and_eq_true,decide_eq_true_eq] at hp;have hv:=qaq hp.1.1 (k:=j.task.toNat) (by omega);simp only[vld,Bool.and_eq_true,decide_eq_true_eq] at hv;omega
  have key:(js.take i).all (qy5 l j)= !decide (j.at_-qhp (js.take i) j.task<(qag l j.task.toNat).every):=by
   rw[Bool.eq_iff_iff,List.all_eq_true];simp only[qy5,Bool.not_eq_true',Bool.and_eq_false_iff,decide_eq_false_iff_not];constructor
   ·intro h;rcases qtv (js.take i) j.task with e|⟨k,hk,e1,e2⟩
    ·omega
    ·have:=h k hk;omega
   ·intro h k hk;by_cases e:k.task=j.task
    ·have:=q0g _ _ hs k hk e;omega
    ·exact .inl e
  rw[key];simp only[Bool.true_and,Bool.and_comm]
def qp2(l:List Tk)(at_:Int)(high:Bool):Nat→List Jb
 |0=>[]
 |k+1=>qp2 l at_ high k++(if at_ % (qag l k).every=0 then [⟨(k:Int),at_,if high then(qag l k).high else(qag l k).low⟩] else [])
def qf1(l:List Tk)(high:Bool):Nat→List Jb
 |0=>[]
 |n+1=>qf1 l high n++qp2 l (n:Int) high l.length
def qcj(l:List Tk)(n:Int)(high:Bool):Option (List Jb):=
 if qad l&&decide (0≤n)&&decide (n≤200)&&decide ((qf1 l high n.toNat).length≤60) then some (qf1 l high n.toNat) else none
def qd8(l:List Tk)(n:Int)(high:Bool):List Jb:=(qcj l n high).getD []
theorem q5x(l:List Tk)(a:Int)(high:Bool){k n:Nat}(h:k≤n):(qp2 l a high k).length≤(qp2 l a high n).length:=by
 induction n with
 |zero=>rw[show k=0 by omega];exact zlr _
 |succ n ih=>
  by_cases e:k=n+1
  ·rw[e];exact zlr _
  ·have:=ih (by omega);simp only[qp2,List.length_append];omega
theorem q3n(l:List Tk)(high:Bool){k n:Nat}(h:k≤n):(qf1 l high k).length≤(qf1 l high n).length:=by
 induction n with
 |zero=>rw[show k=0 by omega];exact zlr _
 |succ n ih=>
  by_cases e:k=n+1
  ·rw[e];exact zlr _
  ·have:=ih (by omega);simp only[qf1,List.length_append];omega
end Go.Proofs.YtmkjmancmiphfaaGreatDoor

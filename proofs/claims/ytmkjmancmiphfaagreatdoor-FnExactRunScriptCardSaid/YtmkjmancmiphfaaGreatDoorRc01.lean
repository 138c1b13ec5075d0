/-
  What the walks speak of: a task as a value and as five cells; a slice of tasks and a slice of integers in memory.
  Append of one task, or one integer, to a row of the call's own.
  Jobs as values and as three cells; rows of jobs in memory; append of one job.
  Shares as rational numbers: plain arithmetic, no program.
  Shares: common, reduced, MakeShare, ShareValid, AddShares.
  Response times in plain Lean: the demand of a task, the sums, the least fixed point below a bound.
  TaskValid and SetValid: what they return.
  sumOf, LowShare, HighShare: the sums of shares.
  The walks of demand and l3Demand.
  Jobs: which are valid, the worst ones, put in order: in plain Lean.
-/
import Derived.Test.YtmkjmancmiphfaaGreatDoorRows
import Derived.Lib.Hide
import Derived.Deep.AppendLies
import Derived.BigQuiet
import Derived.WalkLawsBesides
import Derived.WalkSpells
import Derived.StillTailTactics
namespace Go.Proofs.YtmkjmancmiphfaaGreatDoor
open Go.RowKit
theorem bh{w w':World}{r:Nat}{o:Obj}(b:Below w.heap.size w w')(h:w.heap[r]? =some o):w'.heap[r]? =some o:=(b.block r (Array.getElem?_eq_some_iff.1 h).1).trans h
theorem bl{w:World}{r:Nat}{o:Obj}(h:w.heap[r]? =some o):r<w.heap.size:=(Array.getElem?_eq_some_iff.1 h).1
theorem br{B:Nat}{w:World}:Below B w w:=Below.refl _ _
abbrev ZA:Type:=Option Addr
theorem zhi{p:Prop}(h:p):Hid p:=Lib.hid h
theorem zlr(n:Nat):n≤n:=Nat.le_refl n
theorem zll{a b c:Nat}(h:a≤b)(k:b≤c):a≤c:=Nat.le_trans h k
theorem zlt{a b c:Nat}(h:a<b)(k:b≤c):a<c:=Nat.lt_of_lt_of_le h k
theorem zdr{B:Nat}{a w:World}(h:Below B a w):Below B a w.drew:=Below.drew h
theorem zha(w:World)(o:Obj):(w.alloc o).heap[w.heap.size]? =some o:=heap_alloc_new w o
theorem zfz{w:World}{b:Nat}{cs:Array Value}{T:TypeId}(hb:w.heap[b]? =some (.cells cs T (0,0)))(j:Nat):w.frozen? ⟨b,j,none⟩=false:=Lib.frozen_of_heap hb j
theorem lsS{α:Type}{a:α}{l:List α}{n:Nat}{b:α}:(a::l).set (n+1) b=a::l.set n b:=List.set_cons_succ
theorem lsZ{α:Type}{a:α}{l:List α}{b:α}:(a::l).set 0 b=b::l:=List.set_cons_zero
abbrev Yaa:=@List.length_append
abbrev Yab:=@heap_setCell_other
abbrev Yac:=@Bool.and_eq_true
abbrev Yad:=@List.take_succ_eq_append_getElem
abbrev Yae:=@decide_eq_true_eq
abbrev Yaf:=@decide_eq_false
abbrev Yag:=@decide_eq_true
abbrev Yah:=@World.size_alloc
abbrev Yai:=@IntWalk.i64_in
abbrev Yaj:=@Below.heap_alloc
abbrev Yak:=@Lib.cell_of_heap
abbrev Yal:=@Below.heap_setCell
abbrev Yam:=@Int.toNat_natCast
abbrev Yan:=@heap_setCell_same
abbrev Yao:=@List.getElem_mem
abbrev Yap:=@List.length_take
abbrev Yaq:=@if_neg
abbrev Yar:=@List.take_of_length_le
abbrev Yas:=@AllReady.nil
abbrev Yat:=@List.length_singleton
abbrev Yau:=@List.length_cons
abbrev Yav:=@if_pos
abbrev Yaw:=@List.mem_singleton
abbrev Yax:=@List.append_assoc
abbrev Yay:=@Int.toNat_of_nonneg
abbrev Yaz:=@List.all_eq_true
abbrev Yba:=@List.getElem?_append_left
abbrev Ybb:=@List.getElem?_eq_getElem
abbrev Ybc:=@List.length_set
abbrev Ybd:=@List.getElem?_append_right
abbrev Ybe:=@Nat.lt_succ_self
abbrev Ybf:=@cell_of_row
abbrev Ybg:=@List.map_append
abbrev Ybh:=@List.length_map
abbrev Ybi:=@List.take_length
abbrev Ybj:=@Nat.zero_add
abbrev Ybk:=@Array.getElem?_toList
abbrev Ybl:=@List.length_nil
abbrev Ybm:=@List.length_drop
abbrev Ybn:=@List.mem_cons_of_mem
abbrev Ybo:=@List.drop_eq_getElem_cons
abbrev Ybp:=@Classical.byContradiction
abbrev Ybq:=@List.mem_append
abbrev Ybr:=@Int.natCast_mul
abbrev Ybs:=@List.length_eraseIdx_of_lt
abbrev Ybt:=@Lib.ownsRowF_kind
abbrev Ybu:=@List.mem_range
abbrev Ybv:=@info_parts
abbrev Ybw:=@List.cons_append
abbrev Ybx:=@List.append_nil
abbrev Yby:=@Int.tdiv_eq_ediv_of_nonneg
abbrev Ybz:=@List.mem_cons
abbrev Yca:=@List.not_mem_nil
abbrev Ycb:=@List.getElem_cons_zero
abbrev Ycc:=@Nat.sub_self
abbrev Ycd:=@Array.getElem?_push
abbrev Yce:=@List.getElem?_eq_none
abbrev Ycf:=@IntWalk.wrap64_in
abbrev Ycg:=@Go.WideShapes.add_plain
abbrev Ych:=@World.cell?_of_block
abbrev Yci:=@Bool.false_eq_true
abbrev Ycj:=@List.nil_append
abbrev Yck:=@List.ext_getElem?
abbrev Ycl:=@List.getElem?_take_of_lt
abbrev Ycm:=@Nat.le_of_dvd
abbrev Ycn:=@Bool.not_eq_true'
abbrev Yco:=@List.take_append_drop
abbrev Ycp:=@List.getElem_set_self
abbrev Ycq:=@Int.mul_le_mul_of_nonneg_right
abbrev Ycr:=@List.filter_append
abbrev Ycs:=@Int.le_refl
abbrev Yct:=@Nat.mul_comm
abbrev Ycu:=@Nat.mul_le_mul
abbrev Ycv:=@List.getElem?_map
abbrev Ycw:=@List.getElem_of_mem
abbrev Ycx:=@List.getElem_cons_succ
abbrev Ycy:=@Bool.true_and
abbrev Ycz:=@UInt8.toNat_ofNat'
abbrev Yda:=@List.set_append_right
abbrev Ydb:=@cell_of_one
abbrev Ydc:=@List.replicate_succ'
abbrev Ydd:=@List.mem_of_mem_take
abbrev Yde:=@Option.map_some
abbrev Ydf:=@World.ownsRow_nil
abbrev Ydg:=@List.eraseIdx_eq_take_drop_succ
abbrev Ydh:=@if_false
abbrev Ydi:=@wp_region_any
abbrev Ydj:=@Nat.gcd_pos_of_pos_left
abbrev Ydk:=@List.eq_nil_of_length_eq_zero
abbrev Ydl:=@Int.mul_le_mul_of_nonneg_left
abbrev Ydm:=@bne_iff_ne
abbrev Ydn:=@Rat.normalize_eq_mkRat
abbrev Ydo:=@Option.isSome_some
abbrev Ydp:=@List.getElem?_take
abbrev Ydq:=@List.getElem?_drop
abbrev Ydr:=@Nat.le_succ
abbrev Yds:=@Nat.sub_zero
abbrev Ydt:=@Nat.pow_succ
abbrev Ydu:=@Nat.gcd_comm
abbrev Ydv:=@Int.ediv_nonneg
abbrev Ydw:=@Bool.or_eq_true
abbrev Ydx:=@Bool.and_eq_false_iff
abbrev Ydy:=@List.flatMap_cons
abbrev Ydz:=@List.getD_eq_getElem?_getD
abbrev Yea:=@List.pairwise_append
abbrev Yeb:=@Array.getElem?_eq_getElem
abbrev Yec:=@beq_self_eq_true
abbrev Yed:=@List.mem_flatMap
abbrev Yee:=@List.map_congr_left
abbrev Yef:=@beq_iff_eq
structure Tk where
 low:Int
 high:Int
 due:Int
 every:Int
 crit:Bool
deriving DecidableEq
def Tk.cells(t:Tk):List Value:=[.int .i64 t.low,.int .i64 t.high,.int .i64 t.due,.int .i64 t.every,.bool t.crit]
abbrev Tk.val(t:Tk):Value:=.agg #[.int .i64 t.low,.int .i64 t.high,.int .i64 t.due,.int .i64 t.every,.bool t.crit]
def qcw(l:List Tk):List Value:=l.flatMap Tk.cells
theorem qbd(l:List Tk):(qcw l).length=5*l.length:=by
 induction l with
 |nil=>rfl
 |cons t l ih=>simp only[qcw,Ydy,Yaa] at ih⊢;simp[Tk.cells] at ih⊢;omega
theorem qus(l:List Tk)(k j:Nat)(hk:k<l.length)(hj:j<5):(qcw l)[k*5+j]? =(l[k].cells)[j]? :=by
 induction l generalizing k with
 |nil=>simp at hk
 |cons t l ih=>
  cases k with
  |zero=>
   simp only[qcw,Ydy,Nat.zero_mul,Ybj,Ycb];rw[Yba (by simp[Tk.cells];omega)]
  |succ k=>
   simp only[qcw,Ydy,Ycx];rw[Ybd (by simp[Tk.cells];omega)];have e:(k+1)*5+j-(Tk.cells t).length=k*5+j:=by simp[Tk.cells];omega
   rw[e];exact ih k (by simpa using hk)
theorem Qa{W w1 w2:World}(h1:Below W.heap.size W w1)(h2:Below w1.heap.size w1 w2):Below W.heap.size W w2:=h1.trans (h2.mono h1.size)
theorem bal{W w1:World}(h1:Below W.heap.size W w1)(o:Obj):Below W.heap.size W (w1.alloc o):=h1.alloc h1.size o
theorem bst{W w1:World}(h1:Below W.heap.size W w1){p:Addr}(hp:W.heap.size≤p.block)(u:Value):Below W.heap.size W (w1.setCell p u):=h1.setCell hp u
theorem bdr{W w1:World}(h1:Below W.heap.size W w1)(n:Nat):Below W.heap.size W (w1.drewN n):=⟨h1.os,h1.tape,h1.output,h1.size,h1.block⟩
def TS(w:World)(A:ZA)(l:List Tk):Prop:=
 0<l.length→ ∃b off,A=some ⟨b,off,none⟩∧b<w.heap.size∧ ∀j u,(qcw l)[j]? =some u→w.cell? ⟨b,off+j,none⟩=some u
def IS(w:World)(A:ZA)(l:List Int):Prop:=
 0<l.length→ ∃b off,A=some ⟨b,off,none⟩∧b<w.heap.size∧ ∀j u,l[j]? =some u→w.cell? ⟨b,off+j,none⟩=some (.int .i64 u)
theorem TS.keep{w w':World}{A:ZA}{l:List Tk}(h:TS w A l)(hb:Below w.heap.size w w'):TS w' A l:=by
 intro hl;obtain⟨b,off,hA,hlt,hc⟩:=h hl;exact⟨b,off,hA,zlt hlt hb.size,fun j u hu=>(hb.cell (p:=⟨b,off+j,none⟩) hlt).trans (hc j u hu)⟩
theorem IS.keep{w w':World}{A:ZA}{l:List Int}(h:IS w A l)(hb:Below w.heap.size w w'):IS w' A l:=by
 intro hl;obtain⟨b,off,hA,hlt,hc⟩:=h hl;exact⟨b,off,hA,zlt hlt hb.size,fun j u hu=>(hb.cell (p:=⟨b,off+j,none⟩) hlt).trans (hc j u hu)⟩
theorem qaa{w:World}{b off:Nat}{l:List Tk}(hc: ∀j u,(qcw l)[j]? =some u→w.cell? ⟨b,off+j,none⟩=some u)(k:Nat)(hk:k<l.length):
  w.cell? ⟨b,off+k*5,none⟩=some (.int .i64 l[k].low)∧w.cell? ⟨b,off+k*5+1,none⟩=some (.int .i64 l[k].high)∧w.cell? ⟨b,off+k*5+2,none⟩=some (.int .i64 l[k].due)∧
  w.cell? ⟨b,off+k*5+3,none⟩=some (.int .i64 l[k].every)∧w.cell? ⟨b,off+k*5+4,none⟩=some (.bool l[k].crit):=by
 have h: ∀j u,j<5→(l[k].cells)[j]? =some u→w.cell? ⟨b,off+k*5+j,none⟩=some u:=fun j u hj hu=>by
  have:=hc (k*5+j) u ((qus l k j hk hj).trans hu);simpa [Nat.add_assoc] using this
 exact⟨by simpa using h 0 _ (by omega) rfl,h 1 _ (by omega) rfl,h 2 _ (by omega) rfl,h 3 _ (by omega) rfl,h 4 _ (by omega) rfl⟩
def OT(base:Nat)(w:World)(A:ZA)(c:Nat)(l:List Tk):Prop:=w.ownsRow base 58 5 (.slice A l.length c) l.length (qcw l)
def OI(base:Nat)(w:World)(A:ZA)(c:Nat)(l:List Int):Prop:=w.ownsRow base 3 1 (.slice A l.length c) l.length (l.map (.int .i64))
theorem OT.ts{base:Nat}{w:World}{A:ZA}{c:Nat}{l:List Tk}(h:OT base w A c l):TS w A l:=by
 intro hl;rcases h.2 with⟨_,h0⟩|⟨g,cap,cur,hv,hg,hh,_⟩
 ·omega
 ·injection hv with hA hn hc
  refine⟨g,0,hA,(bl hh),fun j u hu=>?_⟩;have:=h.cells (g:=g) (by subst hA;rfl) j u hu;have e:(⟨g,0,none⟩:Addr).add j=⟨g,0+j,none⟩:=by unfold Addr.add;split<;>simp_all
  rw[←e];exact this
theorem OI.is{base:Nat}{w:World}{A:ZA}{c:Nat}{l:List Int}(h:OI base w A c l):IS w A l:=by
 intro hl;rcases h.2 with⟨_,h0⟩|⟨g,cap,cur,hv,hg,hh,_⟩
 ·omega
 ·injection hv with hA hn hc
  refine⟨g,0,hA,(bl hh),fun j u hu=>?_⟩;have:=h.cells (g:=g) (by subst hA;rfl) j (.int .i64 u) (by simp[hu]);have e:(⟨g,0,none⟩:Addr).add j=⟨g,0+j,none⟩:=by unfold Addr.add;split<;>simp_all
  rw[←e];exact this
theorem qdi{base:Nat}{w w':World}{t:TypeId}{size:Nat}{v:Value}{n:Nat}{xs:List Value}(h:w.ownsRow base t size v n xs)(hb:Below w.heap.size w w'):w'.ownsRow base t size v n xs:=by
 refine⟨h.1,?_⟩;rcases h.2 with hn|⟨g,cap,cur,hv,hg,hh,rest⟩
 ·exact .inl hn
 ·exact .inr ⟨g,cap,cur,hv,hg,by rw[hb.block g (bl hh)];exact hh,rest⟩
theorem Ql{base base':Nat}{w:World}{t:TypeId}{size:Nat}{v:Value}{n:Nat}{xs:List Value}(h:w.ownsRow base t size v n xs)(hb:base'≤base):w.ownsRow base' t size v n xs:=by
 refine⟨h.1,?_⟩;rcases h.2 with hn|⟨g,cap,cur,hv,hg,rest⟩
 ·exact .inl hn
 ·exact .inr ⟨g,cap,cur,hv,zll hb hg,rest⟩
theorem Qo{base:Nat}{w:World}{t:TypeId}{size:Nat}{A:ZA}{n c:Nat}{xs:List Value}(h:w.ownsRow base t size (.slice A n c) n xs):n≤c∧c≤maxLen:=by
 rcases h.2 with⟨hn,h0⟩|⟨g,cap,cur,hv,hg,_,h1,h2,_⟩
 ·injection hn with _ _ hc;subst hc;subst h0;exact⟨zlr _,Nat.zero_le _⟩
 ·injection hv with _ _ hc;subst hc;exact⟨h1,h2⟩
theorem qx5{P:Program}(t e:TypeId)(i:TypeInfo)(z:Value)(size:Nat)(ht:P.underlying t=some (.slice e))(hi:P.info? e=some i)(hz:i.zero=some z)(hs:i.size=size)(hb:i.bytes≤256)(n:Nat)(hn:n≤16777216):
  ∃row:Array Value,row.size=n*size∧ ∀w:World,(Instr.makeSlice t (.int .i64 (n:Int)) (.int .i64 (n:Int))).run P w=.ok (.slice (some ⟨w.heap.size,0,none⟩) n n) (w.alloc (.cells row e)):=by
 refine⟨madeCells z.cells (n*i.size),by rw[size_madeCells,hs],fun w=>?_⟩
 have hb:(i.bytes:Int)*(n:Int)≤281474976710656:=by
  have h:i.bytes*n≤256*16777216:=Ycu hb hn;have h2:((i.bytes*n:Nat):Int)≤281474976710656:=by omega
  rwa [Ybr] at h2
 have hr:=run_make (P:=P) w t e i z ht hi hz .i64 .i64 n n (by omega) (by omega) hb (by omega);simp only[Yam] at hr;exact hr
theorem qq1{w:World}{t:TypeId}{size n:Nat}{row:Array Value}(hs:row.size=n*size)(hn:n≤16777216):
  (w.alloc (.cells row t)).ownsRow w.heap.size t size (.slice (some ⟨w.heap.size,0,none⟩) n n) n row.toList:=
 ⟨by simp[hs],.inr ⟨w.heap.size,n,row,rfl,zlr _,zha w _,zlr _,by unfold maxLen;omega,hs,by rw[Yar];simp[hs]⟩⟩
theorem q5f{base:Nat}{w:World}{t:TypeId}{g n cap:Nat}{xs:List Value}(h:w.ownsRow base t 1 (.slice (some ⟨g,0,none⟩) n cap) n xs)(k:Nat)(hk:k<n):
  (∃v0,w.cell? ⟨g,k,none⟩=some v0)∧ ∀j,w.frozen? ⟨g,j,none⟩=false:=by
 have hx:=h.1;exact⟨⟨_,by rw[h.cellAt _ (by omega)];exact Ybb (by omega)⟩,fun j=>h.frozenAt j⟩
def q2t(w:World)(l:List Tk)(e:Ending)(w':World):Prop:= ∃A c,e=.returned (.slice A l.length c)∧OT w.heap.size w' A c l∧Below w.heap.size w w'
def qzj(w:World)(l:List Int)(e:Ending)(w':World):Prop:= ∃A c,e=.returned (.slice A l.length c)∧OI w.heap.size w' A c l∧Below w.heap.size w w'
def qq2(w:World)(l:List Tk)(ok:Bool)(e:Ending)(w':World):Prop:= ∃A c,e=.returned (.tuple #[.slice A l.length c,.bool ok])∧OT w.heap.size w' A c l∧Below w.heap.size w w'
def qx6(w:World)(l:List Int)(ok:Bool)(e:Ending)(w':World):Prop:= ∃A c,e=.returned (.tuple #[.slice A l.length c,.bool ok])∧OI w.heap.size w' A c l∧Below w.heap.size w w'
def vld(t:Tk):Bool:=decide (1≤t.low∧t.low≤t.high∧t.high≤t.due∧t.due≤t.every∧t.every≤20)&&(t.crit||t.low==t.high)
def Qe(l:List Tk):Bool:=decide (l.length≤5)&&l.all vld
section
theorem qd6:(Tryz.prog.info? 3).map (fun i=>(i.zero,i.size,i.bytes))=some (some (.int .i64 0),1,8):=by kernel_rfl
theorem qhx:(Tryz.prog.info? 58).map (fun i=>(i.zero,i.size,i.bytes))=some (some (.agg #[.int .i64 0,.int .i64 0,.int .i64 0,.int .i64 0,.bool false]),5,40):=by kernel_rfl
theorem qfd(l m:List Tk):qcw (l++m)=qcw l++qcw m:=by simp[qcw]
theorem qcx{base:Nat}{w:World}{t:TypeId}{size:Nat}{v:Value}{n:Nat}{xs:List Value}(h:w.ownsRow base t size v n xs): ∃A c,v=.slice A n c:=by
 rcases h.2 with⟨rfl,rfl⟩|⟨g,cap,cur,rfl,_⟩
 ·exact⟨none,0,rfl⟩
 ·exact⟨_,_,rfl⟩
theorem qad{base:Nat}{w w':World}{t:TypeId}{size:Nat}{v:Value}{n:Nat}{xs:List Value}(h:w.ownsRow base t size v n xs)(hg:w.grownBy w' v.ownBlock)(hb:base≤w.heap.size):Below base w w':=
 (Below.refl _ _).grown hg hb (fun k hk=>(h.lt k hk).1)
theorem qai(b j:Nat):(⟨b,0,none⟩:Addr).add j=⟨b,j,none⟩:=by unfold Addr.add;split<;>simp_all
section
variable (w:World)
theorem qa1{ops:Array Oper}{rest:List Oper}{o:Oper}{a:Act}{Q:Exit→Act→World→Prop}(hgd:o.guard=none)(s x:Operand)
  (ho:o.op=.call {callee:=.builtin .append,args:=#[s,x],argTypes:=#[23,23]})
  (base:Nat) (A:ZA) (l:List Tk) (c:Nat) (hs:a.eval s=.slice A l.length c) (hown:OT base w A c l)
  (b c1:Nat) (t:Tk) (cs:Array Value) (ty:TypeId) (hx:a.eval x=.slice (some ⟨b,0,none⟩) 1 c1) (hb:w.heap[b]? =some (.cells cs ty (0,0))) (hcs:cs.toList=t.cells)
  (hl:l.length≤2000000) (hbase:base≤w.heap.size)
  (h: ∀A' c' w',OT base w' A' c' (l++[t])→w.grownBy w' (Value.slice A l.length c).ownBlock→Below base w w'→wpList Tryz.prog ops Q rest (a.put o.dst (.slice A' (l.length+1) c')) w'):wpList Tryz.prog ops Q (o::rest) a w:=by
 obtain⟨i0,hi,hz0,hz1,hz2⟩:=Ybv qhx
 refine wpList_append_own w hgd s x 23 ho base 58 i0 _ 5 40 Tryz.underlying23 hi hz0 hz1 hz2 rfl (by decide) (.slice A l.length c) l.length (qcw l) hs hown
  ⟨b,0,none⟩ 1 c1 t.cells hx rfl ?_ ?_ (by unfold maxLen;omega) (by omega) hbase ?_
 ·intro j u hj;rw[qai,Ybf w b j cs ty (0,0) hb,←Ybk,hcs];exact hj
 ·intro u hu;simp[Tk.cells] at hu;rcases hu with rfl|rfl|rfl|rfl|rfl<;>rfl
 ·intro v' w' hown' hg _;obtain⟨A',c',rfl⟩:=qcx hown';refine h A' c' w' ?_ hg (qad hown hg hbase);unfold OT;rw[Yaa,Yat,qfd];have e:qcw [t]=t.cells:=by simp[qcw]
  rw[e];exact hown'
theorem qi6{ops:Array Oper}{rest:List Oper}{o:Oper}{a:Act}{Q:Exit→Act→World→Prop}(hgd:o.guard=none)(s x:Operand)
  (ho:o.op=.call {callee:=.builtin .append,args:=#[s,x],argTypes:=#[27,27]})
  (base:Nat) (A:ZA) (l:List Int) (c:Nat) (hs:a.eval s=.slice A l.length c) (hown:OI base w A c l)
  (b c1:Nat) (n:Int) (ty:TypeId) (hx:a.eval x=.slice (some ⟨b,0,none⟩) 1 c1) (hb:w.heap[b]? =some (.cells #[.int .i64 n] ty (0,0)))
  (hl:l.length≤2000000) (hbase:base≤w.heap.size)
  (h: ∀A' c' w',OI base w' A' c' (l++[n])→w.grownBy w' (Value.slice A l.length c).ownBlock→Below base w w'→wpList Tryz.prog ops Q rest (a.put o.dst (.slice A' (l.length+1) c')) w'):wpList Tryz.prog ops Q (o::rest) a w:=by
 obtain⟨i0,hi,hz0,hz1,hz2⟩:=Ybv qd6
 refine wpList_append_own w hgd s x 27 ho base 3 i0 _ 1 8 Tryz.underlying27 hi hz0 hz1 hz2 rfl (by decide) (.slice A l.length c) l.length (l.map (.int .i64)) hs hown
  ⟨b,0,none⟩ 1 c1 [.int .i64 n] hx rfl ?_ ?_ (by unfold maxLen;omega) (by omega) hbase ?_
 ·intro j u hj;rw[qai,Ybf w b j _ ty (0,0) hb,←Ybk];exact hj
 ·intro u hu;simp at hu;subst hu;rfl
 ·intro v' w' hown' hg _;obtain⟨A',c',rfl⟩:=qcx hown';refine h A' c' w' ?_ hg (qad hown hg hbase);unfold OI;rw[Yaa,Yat,Ybg];exact hown'
end
theorem qf3(base:Nat)(w:World):OT base w none 0 []:=Ydf _ _ _ _
theorem qex(base:Nat)(w:World):OI base w none 0 []:=Ydf _ _ _ _
theorem qef(w:World)(t:TypeId)(size base:Nat)(hb:base≤w.heap.size):(w.alloc (.cells #[] t)).ownsRow base t size (.slice (some ⟨w.heap.size,0,none⟩) 0 0) 0 []:=
 ⟨by simp,.inr ⟨w.heap.size,0,#[],rfl,hb,zha w _,zlr _,by simp[maxLen],by simp,by simp⟩⟩
theorem Q8(w:World)(base:Nat)(hb:base≤w.heap.size):OT base (w.alloc (.cells #[] 58)) (some ⟨w.heap.size,0,none⟩) 0 []:=qef w _ 5 base hb
theorem Vh(w:World)(base:Nat)(hb:base≤w.heap.size):OI base (w.alloc (.cells #[] 3)) (some ⟨w.heap.size,0,none⟩) 0 []:=qef w _ 1 base hb
theorem Vb{base:Nat}{w:World}{A:ZA}{c:Nat}{l:List Tk}(h:OT base w A c l)(o:Obj):OT base (w.alloc o) A c l:=World.ownsRow.alloc h o
theorem Q4{base:Nat}{w:World}{A:ZA}{c:Nat}{l:List Int}(h:OI base w A c l)(o:Obj):OI base (w.alloc o) A c l:=World.ownsRow.alloc h o
theorem Q5{base:Nat}{w w':World}{A:ZA}{c:Nat}{l:List Tk}(h:OT base w A c l)(hb:Below w.heap.size w w'):OT base w' A c l:=qdi h hb
theorem Q3{base:Nat}{w w':World}{A:ZA}{c:Nat}{l:List Int}(h:OI base w A c l)(hb:Below w.heap.size w w'):OI base w' A c l:=qdi h hb
theorem qws{base:Nat}{w:World}{t:TypeId}{size:Nat}{A:ZA}{n c:Nat}{xs:List Value}(h:w.ownsRow base t size (.slice A n c) n xs)(k:Nat)(hk:k≤n):w.ownsRow base t size (.slice A k c) k (xs.take (k*size)):=by
 have hl:=h.1;have hks:k*size≤n*size:=Nat.mul_le_mul_right _ hk;refine⟨by rw[Yap];omega,?_⟩;rcases h.2 with⟨hv,h0⟩|⟨g,cap,cur,hv,hb,hh,hn,hm,hs,hx⟩
 ·subst h0;have:k=0:=by omega
  subst this;exact .inl ⟨hv,rfl⟩
 ·injection hv with hA hn' hc
  subst hA hc;exact .inr ⟨g,c,cur,rfl,hb,hh,by omega,hm,hs,by rw[←hx,List.take_take,Nat.min_eq_left hks]⟩
theorem qsk(l:List Tk)(k:Nat):(qcw l).take (k*5)=qcw (l.take k):=by
 induction l generalizing k with
 |nil=>simp[qcw]
 |cons t l ih=>
  cases k with
  |zero=>simp[qcw]
  |succ k=>
   have e:qcw (t::l)=t.cells++qcw l:=by simp[qcw]
   have e2:qcw ((t::l).take (k+1))=t.cells++qcw (l.take k):=by simp[qcw]
   rw[e,e2,←ih,List.take_append];have h5:t.cells.length=5:=rfl;rw[h5,Yar (by rw[h5];omega)];congr 2
   omega
theorem qep{base:Nat}{w:World}{A:ZA}{c:Nat}{l:List Tk}(h:OT base w A c l)(hl:0<l.length): ∃b,A=some ⟨b,0,none⟩∧base≤b∧b<w.heap.size:=by
 rcases h.2 with⟨_,h0⟩|⟨g,cap,cur,hv,hg,hh,_⟩
 ·omega
 ·injection hv with hA
  exact⟨g,hA,hg,(bl hh)⟩
theorem qdj{base:Nat}{w:World}{A:ZA}{c:Nat}{l:List Int}(h:OI base w A c l)(hl:0<l.length): ∃b,A=some ⟨b,0,none⟩∧base≤b∧b<w.heap.size:=by
 rcases h.2 with⟨_,h0⟩|⟨g,cap,cur,hv,hg,hh,_⟩
 ·omega
 ·injection hv with hA
  exact⟨g,hA,hg,(bl hh)⟩
theorem qip(l:List Tk)(k j:Nat)(hk:k<l.length)(hj:j<5)(u:Value)(t:Tk)(ht:t.cells=l[k].cells.set j u):qcw (l.set k t)=(qcw l).set (k*5+j) u:=by
 induction l generalizing k with
 |nil=>simp at hk
 |cons a l ih=>
  cases k with
  |zero=>
   have e:qcw ((a::l).set 0 t)=t.cells++qcw l:=by simp[qcw]
   have e2:qcw (a::l)=a.cells++qcw l:=by simp[qcw]
   rw[e,e2,ht,Nat.zero_mul,Ybj,List.set_append_left _ _ (by simp[Tk.cells];omega)];rfl
  |succ k=>
   have e:qcw ((a::l).set (k+1) t)=a.cells++qcw (l.set k t):=by simp[qcw]
   have e2:qcw (a::l)=a.cells++qcw l:=by simp[qcw]
   have h5:a.cells.length=5:=rfl;rw[e,e2,Yda _ _ (by rw[h5];omega),ih k (by simpa using hk) (by simpa using ht)];congr 2
   rw[h5];omega
theorem qq3{base:Nat}{w:World}{b c:Nat}{l:List Tk}(h:OT base w (some ⟨b,0,none⟩) c l)(k j:Nat)(hk:k<l.length)(hj:j<5)(u:Value)(t:Tk)(ht:t.cells=l[k].cells.set j u):
  OT base (w.setCell ⟨b,k*5+j,none⟩ u) (some ⟨b,0,none⟩) c (l.set k t)∧w.grownBy (w.setCell ⟨b,k*5+j,none⟩ u) (some b):=by
 have h1:=World.ownsRow.stored h (k*5+j) u;refine⟨?_,h1.2⟩;unfold OT;rw[qip l k j hk hj u t ht,Ybc];exact h1.1
theorem qut(l:List Tk)(k:Nat)(hk:k<l.length)(t:Tk):qcw (l.set k t)=(((((qcw l).set (k*5) (.int .i64 t.low)).set (k*5+1) (.int .i64 t.high)).set (k*5+2) (.int .i64 t.due)).set (k*5+3) (.int .i64 t.every)).set (k*5+4) (.bool t.crit):=by
 have hlen: ∀s:Tk,(l.set k s).length=l.length:=fun s=>Ybc
 have e0:=qip l k 0 hk (by omega) (.int .i64 t.low) ⟨t.low,l[k].high,l[k].due,l[k].every,l[k].crit⟩ rfl;have e1:=qip (l.set k ⟨t.low,l[k].high,l[k].due,l[k].every,l[k].crit⟩) k 1 (by rw[hlen];exact hk) (by omega) (.int .i64 t.high) ⟨t.low,t.high,l[k].due,l[k].every,l[k].crit⟩ (by rw[Ycp];rfl);have e2:=qip (l.set k ⟨t.low,t.high,l[k].due,l[k].every,l[k].crit⟩) k 2 (by rw[hlen];exact hk) (by omega) (.int .i64 t.due) ⟨t.low,t.high,t.due,l[k].every,l[k].crit⟩ (by rw[Ycp];rfl);have e3:=qip (l.set k ⟨t.low,t.high,t.due,l[k].every,l[k].crit⟩) k 3 (by rw[hlen];exact hk) (by omega) (.int .i64 t.every) ⟨t.low,t.high,t.due,t.every,l[k].crit⟩ (by rw[Ycp];rfl);have e4:=qip (l.set k ⟨t.low,t.high,t.due,t.every,l[k].crit⟩) k 4 (by rw[hlen];exact hk) (by omega) (.bool t.crit) t (by rw[Ycp];rfl);simp only[List.set_set,Nat.add_zero] at e0 e1 e2 e3 e4;rw[e4,e3,e2,e1,e0]
theorem q2x{base:Nat}{w:World}{ty:TypeId}{b n c:Nat}{xs:List Value}(h:w.ownsRow base ty 5 (.slice (some ⟨b,0,none⟩) n c) n xs)(i0 i1 i2 i3 i4:Nat)(u0 u1 u2 u3 u4:Value):
  (((((w.setCell ⟨b,i0,none⟩ u0).setCell ⟨b,i1,none⟩ u1).setCell ⟨b,i2,none⟩ u2).setCell ⟨b,i3,none⟩ u3).setCell ⟨b,i4,none⟩ u4).ownsRow base ty 5 (.slice (some ⟨b,0,none⟩) n c) n (((((xs.set i0 u0).set i1 u1).set i2 u2).set i3 u3).set i4 u4):=by
 have h0:=(World.ownsRow.stored h i0 u0).1;have h1:=(World.ownsRow.stored h0 i1 u1).1;have h2:=(World.ownsRow.stored h1 i2 u2).1;have h3:=(World.ownsRow.stored h2 i3 u3).1;exact(World.ownsRow.stored h3 i4 u4).1
theorem q2y{base:Nat}{w:World}{b c:Nat}{l:List Tk}(h:OT base w (some ⟨b,0,none⟩) c l)(k:Nat)(hk:k<l.length)(t:Tk):
  OT base (((((w.setCell ⟨b,k*5,none⟩ (.int .i64 t.low)).setCell ⟨b,k*5+1,none⟩ (.int .i64 t.high)).setCell ⟨b,k*5+2,none⟩ (.int .i64 t.due)).setCell ⟨b,k*5+3,none⟩ (.int .i64 t.every)).setCell ⟨b,k*5+4,none⟩ (.bool t.crit)) (some ⟨b,0,none⟩) c (l.set k t):=by
 have h5:=q2x h (k*5) (k*5+1) (k*5+2) (k*5+3) (k*5+4) (.int .i64 t.low) (.int .i64 t.high) (.int .i64 t.due) (.int .i64 t.every) (.bool t.crit);rw[←qut l k hk t] at h5;unfold OT;rw[Ybc];exact h5
end
structure Jb where
 task:Int
 at_:Int
 need:Int
deriving DecidableEq
def Jb.cells(t:Jb):List Value:=[.int .i64 t.task,.int .i64 t.at_,.int .i64 t.need]
abbrev Jb.val(t:Jb):Value:=.agg #[.int .i64 t.task,.int .i64 t.at_,.int .i64 t.need]
def qfe(l:List Jb):List Value:=l.flatMap Jb.cells
theorem q2z(l:List Jb)(k j:Nat)(hk:k<l.length)(hj:j<3):(qfe l)[k*3+j]? =(l[k].cells)[j]? :=by
 induction l generalizing k with
 |nil=>simp at hk
 |cons t l ih=>
  cases k with
  |zero=>
   simp only[qfe,Ydy,Nat.zero_mul,Ybj,Ycb];rw[Yba (by simp[Jb.cells];omega)]
  |succ k=>
   simp only[qfe,Ydy,Ycx];rw[Ybd (by simp[Jb.cells];omega)];have e:(k+1)*3+j-(Jb.cells t).length=k*3+j:=by simp[Jb.cells];omega
   rw[e];exact ih k (by simpa using hk)
def JS(w:World)(A:ZA)(l:List Jb):Prop:=
 0<l.length→ ∃b off,A=some ⟨b,off,none⟩∧b<w.heap.size∧ ∀j u,(qfe l)[j]? =some u→w.cell? ⟨b,off+j,none⟩=some u
theorem JS.keep{w w':World}{A:ZA}{l:List Jb}(h:JS w A l)(hb:Below w.heap.size w w'):JS w' A l:=by
 intro hl;obtain⟨b,off,hA,hlt,hc⟩:=h hl;exact⟨b,off,hA,zlt hlt hb.size,fun j u hu=>(hb.cell (p:=⟨b,off+j,none⟩) hlt).trans (hc j u hu)⟩
theorem Vi{w:World}{b off:Nat}{l:List Jb}(hc: ∀j u,(qfe l)[j]? =some u→w.cell? ⟨b,off+j,none⟩=some u)(k:Nat)(hk:k<l.length):
  w.cell? ⟨b,off+k*3,none⟩=some (.int .i64 l[k].task)∧w.cell? ⟨b,off+k*3+1,none⟩=some (.int .i64 l[k].at_)∧w.cell? ⟨b,off+k*3+2,none⟩=some (.int .i64 l[k].need):=by
 have h: ∀j u,j<3→(l[k].cells)[j]? =some u→w.cell? ⟨b,off+k*3+j,none⟩=some u:=fun j u hj hu=>by
  have:=hc (k*3+j) u ((q2z l k j hk hj).trans hu);simpa [Nat.add_assoc] using this
 exact⟨by simpa using h 0 _ (by omega) rfl,h 1 _ (by omega) rfl,h 2 _ (by omega) rfl⟩
def OJ(base:Nat)(w:World)(A:ZA)(c:Nat)(l:List Jb):Prop:=w.ownsRow base 60 3 (.slice A l.length c) l.length (qfe l)
theorem OJ.js{base:Nat}{w:World}{A:ZA}{c:Nat}{l:List Jb}(h:OJ base w A c l):JS w A l:=by
 intro hl;rcases h.2 with⟨_,h0⟩|⟨g,cap,cur,hv,hg,hh,_⟩
 ·omega
 ·injection hv with hA hn hc
  refine⟨g,0,hA,(bl hh),fun j u hu=>?_⟩;have:=h.cells (g:=g) (by subst hA;rfl) j u hu;have e:(⟨g,0,none⟩:Addr).add j=⟨g,0+j,none⟩:=by unfold Addr.add;split<;>simp_all
  rw[←e];exact this
theorem q20:(Tryz.prog.info? 60).map (fun i=>(i.zero,i.size,i.bytes))=some (some (.agg #[.int .i64 0,.int .i64 0,.int .i64 0]),3,24):=by kernel_rfl
theorem qsl(l m:List Jb):qfe (l++m)=qfe l++qfe m:=by simp[qfe]
theorem qbe(w:World){ops:Array Oper}{rest:List Oper}{o:Oper}{a:Act}{Q:Exit→Act→World→Prop}(hgd:o.guard=none)(s x:Operand)
  (ho:o.op=.call {callee:=.builtin .append,args:=#[s,x],argTypes:=#[24,24]})
  (base:Nat) (A:ZA) (l:List Jb) (n c:Nat) (hn:l.length=n) (hs:a.eval s=.slice A n c) (hown:OJ base w A c l)
  (b c1:Nat) (t:Jb) (cs:Array Value) (ty:TypeId) (hx:a.eval x=.slice (some ⟨b,0,none⟩) 1 c1) (hb:w.heap[b]? =some (.cells cs ty (0,0))) (hcs:cs.toList=t.cells)
  (hl:l.length≤2000000) (hbase:base≤w.heap.size)
  (h: ∀A' c' w',OJ base w' A' c' (l++[t])→w.grownBy w' (Value.slice A n c).ownBlock→Below base w w'→wpList Tryz.prog ops Q rest (a.put o.dst (.slice A' (n+1) c')) w'):wpList Tryz.prog ops Q (o::rest) a w:=by
 subst hn;obtain⟨i0,hi,hz0,hz1,hz2⟩:=Ybv q20
 refine wpList_append_own w hgd s x 24 ho base 60 i0 _ 3 24 Tryz.underlying24 hi hz0 hz1 hz2 rfl (by decide) (.slice A l.length c) l.length (qfe l) hs hown
  ⟨b,0,none⟩ 1 c1 t.cells hx rfl ?_ ?_ (by unfold maxLen;omega) (by omega) hbase ?_
 ·intro j u hj;rw[qai,Ybf w b j cs ty (0,0) hb,←Ybk,hcs];exact hj
 ·intro u hu;simp[Jb.cells] at hu;rcases hu with rfl|rfl|rfl<;>rfl
 ·intro v' w' hown' hg _;obtain⟨A',c',rfl⟩:=qcx hown';refine h A' c' w' ?_ hg (qad hown hg hbase);unfold OJ;rw[Yaa,Yat,qsl];have e:qfe [t]=t.cells:=by simp[qfe]
  rw[e];exact hown'
theorem qsm(base:Nat)(w:World):OJ base w none 0 []:=Ydf _ _ _ _
theorem qcy(w:World)(base:Nat)(hb:base≤w.heap.size):OJ base (w.alloc (.cells #[] 60)) (some ⟨w.heap.size,0,none⟩) 0 []:=qef w _ 3 base hb
theorem qa3{base:Nat}{w:World}{A:ZA}{c:Nat}{l:List Jb}(h:OJ base w A c l)(o:Obj):OJ base (w.alloc o) A c l:=World.ownsRow.alloc h o
theorem qdk{base:Nat}{w w':World}{A:ZA}{c:Nat}{l:List Jb}(h:OJ base w A c l)(hb:Below w.heap.size w w'):OJ base w' A c l:=qdi h hb
theorem qlb{base:Nat}{w:World}{A:ZA}{c:Nat}{l:List Jb}(h:OJ base w A c l)(hl:0<l.length): ∃b,A=some ⟨b,0,none⟩∧base≤b∧b<w.heap.size:=by
 rcases h.2 with⟨_,h0⟩|⟨g,cap,cur,hv,hg,hh,_⟩
 ·omega
 ·injection hv with hA
  exact⟨g,hA,hg,(bl hh)⟩
def q21(w:World)(l:List Jb)(ok:Bool)(e:Ending)(w':World):Prop:= ∃A c,e=.returned (.tuple #[.slice A l.length c,.bool ok])∧OJ w.heap.size w' A c l∧Below w.heap.size w w'
theorem qgr(n:Int)(d:Nat)(hd:d≠0):(mkRat n d).num=n/((n.natAbs.gcd d:Nat):Int):=by
 rw[←Ydn hd,Rat.normalize_eq]
theorem qgs(n:Int)(d:Nat)(hd:d≠0):(mkRat n d).den=d/n.natAbs.gcd d:=by
 rw[←Ydn hd,Rat.normalize_eq]
theorem qgt{r:Rat}(h:0≤r):0≤r.num:=Rat.num_nonneg.2 h
theorem qj9{n:Int}(hn:0≤n)(d:Nat)(hd:d≠0):0≤mkRat n d:=by
 rw[←Rat.num_nonneg,qgr n d hd];exact Ydv hn (by omega)
theorem qbx(n:Int)(d:Nat)(hd:d≠0):(mkRat n d).den∣d:=by
 rw[qgs n d hd];exact Nat.div_dvd_of_dvd (Nat.gcd_dvd_right _ _)
theorem qwt(a b:Nat):Nat.gcd b (a % b)=Nat.gcd a b:=by rw[Ydu b,←Nat.gcd_rec,Ydu]
theorem qzn(a b:Rat):mkRat (a.num*b.den+b.num*a.den) (a.den*b.den)=a+b:=by
 rw[Rat.add_def,Ydn]
theorem q42(a b:Rat):mkRat (a.num*b.num) (a.den*b.den)=a*b:=by
 rw[Rat.mul_def,Ydn]
def shr(high:Bool)(t:Tk):Rat:=mkRat (if high then t.high else t.low) t.every.toNat
def Qu(crit high:Bool):List Tk→Rat
 |[]=>0
 |t::l=>(if t.crit=crit then shr high t else 0)+Qu crit high l
theorem qq4(crit high:Bool)(l m:List Tk):Qu crit high (l++m)=Qu crit high l+Qu crit high m:=by
 induction l with
 |nil=>simp[Qu,Rat.zero_add]
 |cons t l ih=>simp only[Ybw,Qu,ih,Rat.add_assoc]
theorem qhp(crit high:Bool)(l:List Tk)(k:Nat)(hk:k<l.length):
  Qu crit high (l.take (k+1))=Qu crit high (l.take k)+(if l[k].crit=crit then shr high l[k] else 0):=by
 rw[Yad hk,qq4];simp[Qu,Rat.add_zero]
theorem quu(a b:Rat):(a+b).den∣a.den*b.den:=by
 rw[←qzn];exact qbx _ _ (Nat.mul_ne_zero a.den_nz b.den_nz)
theorem qao{t:Tk}(h:vld t=true):1≤t.low∧t.low≤t.high∧t.high≤t.due∧t.due≤t.every∧t.every≤20:=by
 simp only[vld,Yac,Yae] at h;exact h.1
theorem qzo{high:Bool}{t:Tk}(h:vld t=true):(shr high t).den≤20:=by
 have:=qao h;exact zll (Ycm (by omega) (qbx _ _ (by omega))) (by omega)
theorem qx7(crit high:Bool)(l:List Tk)(h: ∀t∈l,vld t=true):(Qu crit high l).den≤20^l.length:=by
 induction l with
 |nil=>simp[Qu]
 |cons t l ih=>
  have h1:=ih (fun s hs=>h s (Ybn _ hs));have h2:=h t (by simp);simp only[Qu,Yau,Ydt]
  have hx:(if t.crit=crit then shr high t else 0).den≤20:=by
   split
   ·exact qzo h2
   ·simp
  generalize(if t.crit=crit then shr high t else 0)=x at hx;refine zll (Ycm (Nat.mul_pos x.den_pos (Rat.den_pos _)) (quu _ _)) ?_;rw[Yct];exact Ycu h1 hx
theorem q43{high:Bool}{t:Tk}(h:vld t=true):0≤shr high t∧shr high t≤1:=by
 have hb:=qao h;have hn:0≤(if high=true then t.high else t.low)∧(if high=true then t.high else t.low)≤t.every:=by split<;>omega
 unfold shr;generalize(if high=true then t.high else t.low)=n at hn;refine⟨qj9 hn.1 _ (by omega),?_⟩;rw[Rat.le_iff,qgr _ _ (by omega),qgs _ _ (by omega)];simp only[Rat.num_ofNat,Rat.den_ofNat,Int.mul_one,Int.one_mul,Int.natCast_one,Int.natCast_ediv]
 have hg:(0:Int)<((n.natAbs.gcd t.every.toNat:Nat):Int):=by
  have:=Nat.gcd_pos_of_pos_right n.natAbs (show 0<t.every.toNat by omega);omega
 exact Int.ediv_le_ediv hg (by omega)
theorem qff(crit high:Bool)(l:List Tk)(h: ∀t∈l,vld t=true):0≤Qu crit high l∧Qu crit high l≤(l.length:Rat):=by
 induction l with
 |nil=>simp[Qu]
 |cons t l ih=>
  have h1:=ih (fun s hs=>h s (Ybn _ hs));have h2:=q43 (high:=high) (h t (by simp))
  have hx:0≤(if t.crit=crit then shr high t else 0)∧(if t.crit=crit then shr high t else 0)≤1:=by
   split
   ·exact h2
   ·grind
  simp only[Qu,Yau];generalize(if t.crit=crit then shr high t else 0)=x at hx;have e:((l.length+1:Nat):Rat)=(l.length:Rat)+1:=by simp
  rw[e];grind
theorem qf4{r:Rat}{n:Nat}(h:r≤(n:Rat)):r.num≤(n:Int)*(r.den:Int):=by
 rw[Rat.le_iff] at h;simpa using h
abbrev sv(n d:Int):Value:=.agg #[.int .i64 n,.int .i64 d]
abbrev rv(r:Rat):Value:=.agg #[.int .i64 r.num,.int .i64 (r.den:Int)]
theorem quv(a b:Nat)(w:World)(ha:a≤4611686018427387904)(hb:b≤4611686018427387904):
  Calls Tryz.prog 105 #[.int .i64 (a:Int),.int .i64 (b:Int)] w fun e w'=>e=.returned (.int .i64 ((Nat.gcd a b:Nat):Int))∧Below w.heap.size w w':=by
 go_enter Tryz.func105,Tryz.ntmps105;go_wp2
 go_loopw [0,1] (fun u v wr=> ∃x y:Nat,u=.int .i64 (x:Int)∧v=.int .i64 (y:Int)∧Hid (Nat.gcd x y=Nat.gcd a b)∧x≤4611686018427387904∧y≤4611686018427387904∧Below w.heap.size w wr) (fun _ v _=>(intOf v).toNat)
 case atStart=>exact⟨a,b,rfl,rfl,rfl,ha,hb,br⟩
 case round=>
  obtain⟨x,y,rfl,rfl,hg,hx,hy,hbl⟩:=hrel;by_cases h0:y=0
  ·subst h0;go_wp2
   go_ret;have:=hg.out;rw[Nat.gcd_zero_right] at this;exact⟨by rw[←this];rfl,hbl⟩
  ·have hne:((y:Int) !=0)=true:=by rw[Ydm];omega
   have hlt:=Nat.mod_lt x (show 0<y by omega);have hz:((y:Int)==0)=false:=beq_eq_false_iff_ne.2 (by omega);have h0':0<y:=by omega
   go_wp2
   go_quiet (fail)
   go_wp2
   go_roundw
   case rel=>exact⟨y,x % y,rfl,by go_num,by rw[Hid,qwt];exact hg,hy,by omega,bdr hbl _⟩
   case measure=>simp[intOf];omega
theorem ql7(n d:Nat)(w:World)(hd:1≤d)(hn:n≤4611686018427387904)(hdm:d≤4611686018427387904):
  Calls Tryz.prog 65 #[.int .i64 (n:Int),.int .i64 (d:Int)] w fun e w'=>e=.returned (rv (mkRat (n:Int) d))∧Below w.heap.size w w':=by
 have hgpos:0<Nat.gcd n d:=Nat.gcd_pos_of_pos_right _ (by omega);have hgle:Nat.gcd n d≤d:=Ycm (by omega) (Nat.gcd_dvd_right _ _);have e1:(mkRat (n:Int) d).num=(n:Int)/((Nat.gcd n d:Nat):Int):=by rw[qgr _ _ (by omega)];simp
 have e2:(((mkRat (n:Int) d).den:Nat):Int)=(d:Int)/((Nat.gcd n d:Nat):Int):=by rw[qgs _ _ (by omega)];simp
 have hne:(((Nat.gcd n d:Nat):Int)==0)=false:=beq_eq_false_iff_ne.2 (by omega);have E1:=zhi e1;have E2:=zhi e2;clear e1 e2;go_enter Tryz.func65,Tryz.ntmps65;go_wp2_with fail;refine(quv n d _ hn hdm).mono ?_;rintro e w1 ⟨rfl,b1⟩;generalize Nat.gcd n d=c at*;have hB:w1.heap[w.heap.size]? =some (.cells #[.int .i64 0,.int .i64 0] 54 (0,0)):=(b1.block _ (by simp)).trans (zha w _);have k0:w1.cell? ⟨w.heap.size,0,none⟩=some (.int .i64 0):=by rw[Ybf w1 _ 0 _ _ _ hB];rfl
 have k1:w1.cell? ⟨w.heap.size,1,none⟩=some (.int .i64 0):=by rw[Ybf w1 _ 1 _ _ _ hB];rfl
 have kf: ∀i,w1.frozen? ⟨w.heap.size,i,none⟩=false:=fun i=>frozen_of_row w1 _ i _ _ hB
 clear hB;have hq1:IntKind.i64.wrap ((n:Int).tdiv (c:Int))=(n:Int)/(c:Int):=IntWalk.i64_quo _ _ (by omega);have hq2:IntKind.i64.wrap ((d:Int).tdiv (c:Int))=(d:Int)/(c:Int):=IntWalk.i64_quo _ _ (by omega);go_wp2_with fail;go_region
 go_wp2_with fail;have q1:0≤(n:Int)/(c:Int)∧(n:Int)/(c:Int)≤n:=⟨Ydv (by omega) (by omega),Int.ediv_le_self _ (by omega)⟩;have q2:0≤(d:Int)/(c:Int)∧(d:Int)/(c:Int)≤d:=⟨Ydv (by omega) (by omega),Int.ediv_le_self _ (by omega)⟩;have p1:wrap64 ((n:Int)/(c:Int))=(n:Int)/(c:Int):=Ycf _ (by omega);have p2:wrap64 ((d:Int)/(c:Int))=(d:Int)/(c:Int):=Ycf _ (by omega);refine bodyPost_ret (v:=sv ((n:Int)/(c:Int)) ((d:Int)/(c:Int))) (by simp[results,Tryz.results65,go_sem,k0,k1,p1,p2]) rfl ⟨?_,?_⟩
 ·rw[←E1.out,←E2.out]
 ·exact(bst (bst (Qa (bal br _) b1) (zlr _) _) (zlr _) _).drew
def qsn(n d:Int):Bool:=decide (0≤n∧n≤1000000000∧1≤d∧d≤1000000000)
def qwu(n d:Int)(w:World)(e:Ending)(w':World):Prop:=
 (qsn n d=true∧e=.returned (.tuple #[rv (mkRat n d.toNat),.bool true])∧Below w.heap.size w w')∨(qsn n d=false∧e=.returned (.tuple #[sv 0 0,.bool false])∧Below w.heap.size w w')
theorem qow(n d:Int)(w:World):
  Calls Tryz.prog 229 #[.int .i64 n,.int .i64 d] w (qwu n d w):=by
 by_cases h0:0≤n
 case neg=>
  go_enter Tryz.func229,Tryz.ntmps229;go_wp2_with fail;exact bodyPost_ret (v:=.tuple #[sv 0 0,.bool false]) (by simp[results,Tryz.results229,go_sem]) rfl (.inr ⟨by simp[qsn];omega,rfl,bal br _⟩)
 by_cases h1:n≤1000000000
 case neg=>
  go_enter Tryz.func229,Tryz.ntmps229;go_wp2_with fail;exact bodyPost_ret (v:=.tuple #[sv 0 0,.bool false]) (by simp[results,Tryz.results229,go_sem]) rfl (.inr ⟨by simp[qsn];omega,rfl,bal br _⟩)
 by_cases h2:1≤d
 case neg=>
  go_enter Tryz.func229,Tryz.ntmps229;go_wp2_with fail;exact bodyPost_ret (v:=.tuple #[sv 0 0,.bool false]) (by simp[results,Tryz.results229,go_sem]) rfl (.inr ⟨by simp[qsn];omega,rfl,bal br _⟩)
 by_cases h3:d≤1000000000
 case neg=>
  go_enter Tryz.func229,Tryz.ntmps229;go_wp2_with fail;exact bodyPost_ret (v:=.tuple #[sv 0 0,.bool false]) (by simp[results,Tryz.results229,go_sem]) rfl (.inr ⟨by simp[qsn];omega,rfl,bal br _⟩)
 obtain⟨n,rfl⟩: ∃k:Nat,n=(k:Int):=⟨n.toNat,(Yay h0).symm⟩;obtain⟨d,rfl⟩: ∃k:Nat,d=(k:Int):=⟨d.toNat,(Yay (by omega)).symm⟩;go_enter Tryz.func229,Tryz.ntmps229;go_wp2_with fail;refine(ql7 n d _ (by omega) (by omega) (by omega)).mono ?_;rintro e w1 ⟨rfl,b1⟩;have hB:w1.heap[w.heap.size]? =some (.cells #[.int .i64 0,.int .i64 0] 54 (0,0)):=(b1.block _ (by simp)).trans (zha w _);have k0:w1.cell? ⟨w.heap.size,0,none⟩=some (.int .i64 0):=by rw[Ybf w1 _ 0 _ _ _ hB];rfl
 have k1:w1.cell? ⟨w.heap.size,1,none⟩=some (.int .i64 0):=by rw[Ybf w1 _ 1 _ _ _ hB];rfl
 have kf: ∀i,w1.frozen? ⟨w.heap.size,i,none⟩=false:=fun i=>frozen_of_row w1 _ i _ _ hB
 clear hB;generalize hr:mkRat (n:Int) d=r;go_wp2_with fail;refine bodyPost_ret (v:=.tuple #[rv r,.bool true]) (by simp[results,Tryz.results229,go_sem,k0,k1]) rfl (.inl ⟨by simp[qsn];omega,by rw[←hr];rfl,?_⟩);exact bst (bst (Qa (bal br _) b1) (zlr _) _) (zlr _) _
theorem qka(a b:Int)(w:World):(binOp .eql 54 (sv a b) (sv a b)).run Tryz.prog w=.ok (.bool true) w:=by
 simp[go_sem]
def RIn(r:Rat):Prop:=0≤r.num∧r.num≤1000000000∧r.den≤1000000000
theorem qq5{r:Rat}(h:RIn r):qsn r.num (r.den:Int)=true:=by
 have:=r.den_pos;unfold RIn at h;simp only[qsn,Yae];omega
theorem qfg(r:Rat)(w:World)(h:RIn r):
  Calls Tryz.prog 186 #[rv r] w fun e w'=>e=.returned (.bool true)∧Below w.heap.size w w':=by
 have hq:=fun(w:World)=>qka r.num r.den w
 go_enter Tryz.func186,Tryz.ntmps186;go_wp2_with fail;refine(qow r.num r.den _).mono ?_;rintro e w1 (⟨_,rfl,b1⟩|⟨hf,_,_⟩)
 ·rw[Yam,Rat.mkRat_self];have hB:w1.heap[w.heap.size]? =some (.cells #[.int .i64 r.num,.int .i64 (r.den:Int)] 54 (0,0)):=(b1.block _ (by simp)).trans (zha w _);have hs:w.heap.size<w1.heap.size:=by have:=b1.size;simp at this;omega
  have k0:w1.cell? ⟨w.heap.size,0,none⟩=some (.int .i64 r.num):=by rw[Ybf w1 _ 0 _ _ _ hB];rfl
  have k1:w1.cell? ⟨w.heap.size,1,none⟩=some (.int .i64 (r.den:Int)):=by rw[Ybf w1 _ 1 _ _ _ hB];rfl
  clear hB;go_wp2_with fail;go_ret;exact⟨rfl,bal (Qa (bal br _) b1) _⟩
 ·rw[qq5 h] at hf;cases hf
theorem qe2(x y:Int)(w:World)(hx:0≤x)(hy:1≤y)(hxm:x≤4611686018427387904)(hym:y≤4611686018427387904):
  Calls Tryz.prog 65 #[.int .i64 x,.int .i64 y] w fun e w'=>e=.returned (rv (mkRat x y.toNat))∧Below w.heap.size w w':=by
 obtain⟨n,rfl⟩: ∃k:Nat,x=(k:Int):=⟨x.toNat,(Yay hx).symm⟩;obtain⟨d,rfl⟩: ∃k:Nat,y=(k:Int):=⟨y.toNat,(Yay (by omega)).symm⟩;rw[Yam];exact ql7 n d w (by omega) (by omega) (by omega)
theorem qbp{x y a b:Int}(hx:0≤x)(hxa:x≤a)(hy:0≤y)(hyb:y≤b)(ha:0≤a):0≤x*y∧x*y≤a*b:=
 ⟨Int.mul_nonneg hx hy,Int.mul_le_mul hxa hyb hy ha⟩
theorem q61(a b:Rat):mkRat (a.num*(b.den:Int)+b.num*(a.den:Int)) ((a.den:Int)*(b.den:Int)).toNat=a+b:=by
 rw[←Ybr,Yam,qzn]
theorem q62(a b:Rat):mkRat (a.num*b.num) ((a.den:Int)*(b.den:Int)).toNat=a*b:=by
 rw[←Ybr,Yam,q42]
theorem Qk{w:World}{b:Nat}{v0 v1:Value}{t:TypeId}(h:w.heap[b]? =some (.cells #[v0,v1] t (0,0))):
  w.cell? ⟨b,0,none⟩=some v0∧w.cell? ⟨b,1,none⟩=some v1∧ ∀i,w.frozen? ⟨b,i,none⟩=false:=
 ⟨by rw[Ybf w b 0 _ _ _ h];rfl,by rw[Ybf w b 1 _ _ _ h];rfl,fun i=>frozen_of_row w b i _ _ h⟩
theorem q5g(w:World)(A B C:Obj):(((w.alloc A).alloc B).alloc C).heap[w.heap.size]? =some A∧(((w.alloc A).alloc B).alloc C).heap[w.heap.size+1]? =some B∧(((w.alloc A).alloc B).alloc C).heap[w.heap.size+1+1]? =some C:=by
 refine⟨?_,?_,?_⟩
 ·show(((w.heap.push A).push B).push C)[_]? =_;rw[Ycd,Yaq (by simp;omega),Ycd,Yaq (by simp),Ycd,Yav rfl]
 ·show(((w.heap.push A).push B).push C)[_]? =_;rw[Ycd,Yaq (by simp),Ycd,Yav (by simp)]
 ·show(((w.heap.push A).push B).push C)[_]? =_;rw[Ycd,Yav (by simp)]
def qfh(t:Tk)(w:Int):Int:=(w+t.every-1)/t.every
def qkb(t:Tk)(high:Bool):Int:=if high then t.high else t.low
def qmo(t:Tk)(w:Int)(high:Bool):Int:=qfh t w*qkb t high
def qgu(f:Nat→Int):Nat→Int
 |0=>0
 |n+1=>qgu f n+f n
theorem qac{t:Tk}(h:vld t=true):1≤t.low∧t.low≤t.high∧t.high≤t.due∧t.due≤t.every∧t.every≤20:=by
 have:=qao h;omega
theorem qso{t:Tk}(h:vld t=true)(b:Bool):1≤qkb t b∧qkb t b≤20:=by
 have:=qac h;cases b<;>simp[qkb]<;>omega
theorem qkc{t:Tk}(h:vld t=true){w:Int}(hw:0≤w):0≤qfh t w∧qfh t w≤w:=by
 have:=qac h;unfold qfh;refine⟨Ydv (by omega) (by omega),?_⟩
 have h1:(w+t.every-1)/t.every<w+1:=by
  rw[Int.ediv_lt_iff_lt_mul (by omega)];have:(w+1)*t.every=w*t.every+t.every:=by rw[Int.add_mul,Int.one_mul]
  have h2:w*1≤w*t.every:=Ydl (by omega) hw;omega
 omega
theorem quw{t:Tk}(h:vld t=true){v w:Int}(hw:v≤w):qfh t v≤qfh t w:=by
 have:=qac h;exact Int.ediv_le_ediv (by omega) (by omega)
theorem qgh{t:Tk}(h:vld t=true)(b:Bool){w:Int}(hw:0≤w):0≤qmo t w b∧qmo t w b≤w*20:=by
 have h1:=qkc h hw;have h2:=qso h b;exact⟨Int.mul_nonneg h1.1 (by omega),Int.mul_le_mul h1.2 h2.2 (by omega) (by omega)⟩
theorem qsp{t:Tk}(h:vld t=true)(b:Bool){v w:Int}(hw:v≤w):qmo t v b≤qmo t w b:=by
 have h2:=qso h b;exact Ycq (quw h hw) (by omega)
theorem qwv{f g:Nat→Int}{n:Nat}(h: ∀k,k<n→f k≤g k):qgu f n≤qgu g n:=by
 induction n with
 |zero=>simp[qgu]
 |succ n ih=>
  have h1:=ih (fun k hk=>h k (by omega));have h2:=h n (by omega);simp only[qgu];omega
theorem ql8{f:Nat→Int}{n:Nat}(h: ∀k,k<n→0≤f k):0≤qgu f n:=by
 induction n with
 |zero=>simp[qgu]
 |succ n ih=>
  have h1:=ih (fun k hk=>h k (by omega));have h2:=h n (by omega);simp only[qgu];omega
theorem qww{f:Nat→Int}{n:Nat}{c:Int}(h: ∀k,k<n→f k≤c):qgu f n≤n*c:=by
 induction n with
 |zero=>simp[qgu]
 |succ n ih=>
  have h1:=ih (fun k hk=>h k (by omega));have h2:=h n (by omega);simp only[qgu];have:((n+1:Nat):Int)*c=n*c+c:=by simp[Int.add_mul]
  omega
def q22(next:Int→Int)(most:Int):Nat→Int→Option Int
 |0,_=>none
 |n+1,w=>if w≤most then(if next w=w then some w else q22 next most n (next w)) else none
def qdu(next:Int→Int)(start most:Int):Option Int:=q22 next most (most+1-start).toNat start
theorem qhy{next:Int→Int}{most w:Int}(h:most<w)(n:Nat):q22 next most n w=none:=by
 cases n with
 |zero=>rfl
 |succ n=>simp only[q22];rw[Yaq (by omega)]
theorem qgv{next:Int→Int}{w most:Int}(hw:w≤most)(hn:w<next w)(hm: ∀v u,v≤u→next v≤next u):qdu next w most=qdu next (next w) most:=by
 have key: ∀(n m:Nat) (v:Int),v≤next v→most+1-v≤n→most+1-v≤m→q22 next most n v=q22 next most m v:=by
  intro n;induction n with
  |zero=>
   intro m v _ h1 _;rw[qhy (by omega),qhy (by omega)]
  |succ n ih=>
   intro m v hv h1 h2;by_cases hvm:v≤most
   ·obtain⟨m,rfl⟩: ∃j,m=j+1:=⟨m-1,by omega⟩;simp only[q22];rw[Yav hvm,Yav hvm];by_cases e:next v=v
    ·rw[Yav e,Yav e]
    ·rw[Yaq e,Yaq e];exact ih m (next v) (hm _ _ hv) (by omega) (by omega)
   ·rw[qhy (by omega),qhy (by omega)]
 unfold qdu;obtain⟨n,hn'⟩: ∃n,(most+1-w).toNat=n+1:=⟨(most+1-w).toNat-1,by omega⟩;rw[hn'];simp only[q22];rw[Yav hw,Yaq (by omega)];exact key _ _ _ (hm _ _ (by omega)) (by omega) (by omega)
theorem qgw{next:Int→Int}{w most:Int}(hw:most<w):qdu next w most=none:=qhy hw _
theorem qhz{next:Int→Int}{w most:Int}(hw:w≤most)(hn:next w=w):qdu next w most=some w:=by
 unfold qdu;obtain⟨n,hn'⟩: ∃n,(most+1-w).toNat=n+1:=⟨(most+1-w).toNat-1,by omega⟩;rw[hn'];simp only[q22];rw[Yav hw,Yav hn]
theorem qpx{next:Int→Int}{start most:Int}(hm: ∀v u,v≤u→next v≤next u)(h0:start≤next start)(r:Int):
  qdu next start most=some r↔(start≤r∧r≤most∧next r≤r∧ ∀v,start≤v→next v≤v→r≤v):=by
 have main: ∀(k:Nat) (w:Int),(most+1-w).toNat=k→start≤w→w≤next w→(∀v,start≤v→next v≤v→w≤v)→(qdu next w most=some r↔(start≤r∧r≤most∧next r≤r∧ ∀v,start≤v→next v≤v→r≤v)):=by
  intro k;induction k using Nat.strongRecOn with
  |_ k ih=>
   intro w hk hs hw hl;by_cases hwm:w≤most
   ·by_cases e:next w=w
    ·rw[qhz hwm e];constructor
     ·intro h;cases h
      exact⟨hs,hwm,by omega,hl⟩
     ·rintro⟨a,b,c,d⟩;have h1:=hl r a c;have h2:=d w hs (by omega);rw[show w=r by omega]
    ·rw[qgv hwm (by omega) hm];exact ih (most+1-next w).toNat (by omega) (next w) rfl (by omega) (hm _ _ hw) (fun v a c=>by have:=hm _ _ (hl v a c);omega)
   ·rw[qgw (by omega)];constructor
    ·intro h;cases h
    ·rintro⟨a,b,c,d⟩;have:=hl r a c;omega
 exact main _ start rfl (Ycs _) h0 (fun v h _=>h)
theorem Vc(t:Tk)(w:World):
  Calls Tryz.prog 71 #[t.val] w fun e w'=>e=.returned (.bool (vld t))∧Below w.heap.size w w':=by
 obtain⟨low,high,due,every,crit⟩:=t;go_enter Tryz.func71,Tryz.ntmps71;go_wp2
 all_goals go_ret
 all_goals refine⟨?_,(Below.refl _ _).alloc (zlr _) _⟩
 all_goals(simp[vld, *];try omega)
theorem qb1(t:Tk)(w:World):
  Calls Tryz.prog 99 #[t.val] w fun e w'=>e=.returned (.bool (vld t))∧Below w.heap.size w w':=by
 obtain⟨low,high,due,every,crit⟩:=t;go_enter Tryz.func99,Tryz.ntmps99;go_wp2
 all_goals go_ret
 all_goals refine⟨?_,(Below.refl _ _).alloc (zlr _) _⟩
 all_goals(simp[vld, *];try omega)
theorem qkd(l:List Tk)(k:Nat)(hk:k<l.length):(l.take (k+1)).all vld=((l.take k).all vld&&vld l[k]):=by
 rw[Yad hk,List.all_append];simp
theorem Qf(A:ZA)(l:List Tk)(c:Nat)(w:World)(h:TS w A l):
  Calls Tryz.prog 34 #[.slice A l.length c] w fun e w'=>e=.returned (.bool (Qe l))∧Below w.heap.size w w':=by
 by_cases h5:l.length≤5
 ·go_enter Tryz.func34,Tryz.ntmps34;go_wp2
  go_loopw [10] (fun i wr=> ∃k:Nat,k≤l.length∧i=.int .i64 k∧Hid ((l.take k).all vld=true)∧Below w.heap.size w wr) (fun i _=>l.length-(intOf i).toNat)
  case atStart=>exact⟨0,Nat.zero_le _,rfl,by simp[Hid],br⟩
  case round=>
   obtain⟨k,hk,rfl,hall,hb⟩:=hrel;by_cases hlt:k<l.length
   ·obtain⟨b,off,rfl,hbl,hc⟩:=h.keep hb (by omega);obtain⟨c0,c1,c2,c3,c4⟩:=qaa hc k hlt;clear hc;go_wp2_with (go_at_call 71;refine(Vc _ _).mono ?_;rintro e w' ⟨rfl,hb2⟩)
    ·have hv:(!vld l[k])=true:=by assumption
     go_ret;refine⟨?_,Qa (bal hb _) hb2⟩;have:l.all vld=false:=List.all_eq_false.2 ⟨l[k],Yao _,by simpa using hv⟩;simp[Qe,this]
    ·have hv:(!vld l[k])=false:=by assumption
     go_roundw
     case rel=>exact⟨k+1,by omega,by go_num,by rw[Hid,qkd l k hlt,hall.out];simpa using hv,Qa (bal hb _) hb2⟩
     case measure=>simp[intOf];omega
   ·go_wp2
    go_ret;have:k=l.length:=by omega
    subst this;exact⟨by simpa [Qe,h5] using hall.out,hb⟩
 ·go_enter Tryz.func34,Tryz.ntmps34;go_wp2
  go_ret;exact⟨by simp[Qe,h5],br⟩
def qhv(l:List Tk)(crit high:Bool):Value:=if Qe l then rv (Qu crit high l) else sv 0 0
theorem Qj{l:List Tk}(h:Qe l=true):l.length≤5∧ ∀t∈l,vld t=true:=by
 simp only[Qe,Yac,Yae,Yaz] at h;exact h
theorem ql9{l:List Tk}(h: ∀t∈l,vld t=true)(hl:l.length≤5)(crit high:Bool):
  0≤(Qu crit high l).num∧(Qu crit high l).num≤16000000∧(Qu crit high l).den≤3200000:=by
 have h1:=qff crit high l h;have h2:=qx7 crit high l h;have h3:=qf4 h1.2;have h4:20^l.length≤20^5:=Nat.pow_le_pow_right (by omega) hl;have h5:(l.length:Int)*((Qu crit high l).den:Int)≤5*((Qu crit high l).den:Int):=Ycq (by omega) (by omega);refine⟨qgt h1.1,?_,?_⟩<;>omega
theorem qcz{w:World}{b:Nat}{v0 v1:Value}{t:TypeId}(h:w.heap[b]? =some (.cells #[v0,v1] t (0,0)))(u0 u1:Value):((w.setCell ⟨b,0,none⟩ u0).setCell ⟨b,1,none⟩ u1).heap[b]? =some (.cells #[u0,u1] t (0,0)):=by
 have h1:=Yan w b 0 #[v0,v1] t u0 h;have h2:=Yan _ b 1 _ t u1 h1;simpa using h2
theorem q63(r:Rat)(n e:Int)(he:1≤e):mkRat (r.num*e+n*(r.den:Int)) ((r.den:Int)*e).toNat=r+mkRat n e.toNat:=by
 obtain⟨m,rfl⟩: ∃m:Nat,e=(m:Int):=⟨e.toNat,(Yay (by omega)).symm⟩;have h:=Rat.mkRat_add_mkRat r.num n (d₁:=r.den) (d₂:=m) r.den_nz (by omega);rw[Rat.mkRat_self] at h;rw[Yam,h,←Ybr,Yam]
theorem qpy(A:ZA)(l:List Tk)(c:Nat)(crit high:Bool)(w:World)(h:TS w A l):
  Calls Tryz.prog 104 #[.slice A l.length c,.bool crit,.bool high] w fun e w'=>e=.returned (qhv l crit high)∧Below w.heap.size w w':=by
 cases hS:Qe l with
 |false=>
  have hv:qhv l crit high=sv 0 0:=by simp[qhv,hS]
  rw[hv];clear hv;go_enter Tryz.func104,Tryz.ntmps104;go_wp2_with fail;refine(Qf A l c _ (h.keep (bal br _))).mono ?_;rw[hS];rintro e w1 ⟨rfl,b1⟩;have hB:=(b1.block w.heap.size (by simp)).trans (zha w _);obtain⟨x0,x1,xf⟩:=Qk hB;clear hB;go_wp2_with fail;refine bodyPost_ret (v:=sv 0 0) (by simp[results,Tryz.results104,go_sem,x0,x1]) rfl ⟨rfl,?_⟩;exact bst (bst (Qa (bal br _) b1) (p:=⟨w.heap.size,0,none⟩) (zlr _) _) (p:=⟨w.heap.size,1,none⟩) (zlr _) _
 |true=>
  obtain⟨hl5,hall⟩:=Qj hS;have hv:qhv l crit high=rv (Qu crit high l):=by simp[qhv,hS]
  rw[hv];have Hall:=zhi hall;clear hv hall;go_enter Tryz.func104,Tryz.ntmps104;go_wp2_with fail;refine(Qf A l c _ (h.keep (bal br _))).mono ?_;rw[hS];clear hS;rintro e w1 ⟨rfl,b1⟩;have hB:=zhi ((b1.block w.heap.size (by simp)).trans (zha w _));have hz1:=b1.size;simp only[Yah] at hz1;have hb1:=Qa (bal br _) b1;go_wp2_with fail;have hBl:w.heap.size<w1.heap.size:=by omega
  go_loopw [18] (fun i wr=> ∃k:Nat,i=.int .i64 (k:Int)∧k≤l.length∧Below w.heap.size w wr∧w1.heap.size<wr.heap.size∧Hid (wr.heap[w.heap.size]? =some (.cells #[.int .i64 0,.int .i64 0] 54 (0,0)))∧
   Hid (wr.heap[w1.heap.size]? =some (.cells #[.int .i64 (Qu crit high (l.take k)).num,.int .i64 ((Qu crit high (l.take k)).den:Int)] 54 (0,0)))) (fun i _=>l.length-(intOf i).toNat)
  case atStart=>exact⟨0,rfl,by omega,bal hb1 _,by simp,(Yaj _ _ _ hBl).trans hB.out,zha w1 _⟩
  case round=>
   clear hB;obtain⟨k,rfl,hk,hb,hSl,hB,hS⟩:=hrel;by_cases hlt:k<l.length
   ·obtain⟨b,off,rfl,hbl,hc⟩:=h.keep hb (by omega);obtain⟨c0,c1,c2,c3,c4⟩:=qaa hc k hlt;clear hc;have hvk:=qao (Hall.out _ (Yao hlt));obtain⟨v0,v1,v2,v3,v4⟩:=hvk;have hsm:=ql9 (l:=l.take k) (fun t ht=>Hall.out t (Ydd ht)) (by simp;omega) crit high;have hts:=zhi (qhp crit high l k hlt);obtain⟨z0,z1,z2⟩:=hsm;obtain⟨s0,s1,sf⟩:=Qk hS.out;have hd:=(Qu crit high (l.take k)).den_pos;generalize Qu crit high (l.take k)=r at*;by_cases hcr:l[k].crit=crit
    ·have hcb:(l[k].crit==crit)=true:=by simp[hcr]
     have Hcr:=zhi hcr;clear hcr;have m1:=qbp z0 z1 (show 0≤l[k].every by omega) v4 (by omega);have m2:=qbp (show 0≤(r.den:Int) by omega) (show(r.den:Int)≤3200000 by omega) (show 0≤l[k].every by omega) v4 (by omega);have m3:=qbp (show 0≤l[k].low by omega) (show l[k].low≤20 by omega) (show 0≤(r.den:Int) by omega) (show(r.den:Int)≤3200000 by omega) (by omega);have m4:=qbp (show 0≤l[k].high by omega) (show l[k].high≤20 by omega) (show 0≤(r.den:Int) by omega) (show(r.den:Int)≤3200000 by omega) (by omega);have m5:1≤(r.den:Int)*l[k].every:=by have:=Int.mul_pos (show(0:Int)<r.den by omega) (show 0<l[k].every by omega);omega
     obtain⟨m10,m11⟩:=m1;obtain⟨m20,m21⟩:=m2;obtain⟨m30,m31⟩:=m3;obtain⟨m40,m41⟩:=m4;cases high
     all_goals
      go_wp2_with fail;refine(qe2 _ _ _ (by omega) (by omega) (by omega) (by omega)).mono ?_;rw[q63 r _ _ (by omega)];rintro e w2 ⟨rfl,b2⟩;have hS2:=(b2.block _ (by simp;omega)).trans ((Yaj _ _ _ hSl).trans hS.out);have hB2:=zhi ((b2.block _ (by simp;omega)).trans ((Yaj _ _ _ (by omega)).trans hB.out));have HS2:=zhi hS2;have hz2:=b2.size;simp only[Yah] at hz2;obtain⟨p0,p1,pf⟩:=Qk hS2;clear s0 s1 sf hS2;go_wp2_with fail;go_roundw
      case rel=>
       refine⟨k+1,by go_num,by omega,bst (bst (Qa (bal hb _) b2) (p:=⟨w1.heap.size,0,none⟩) (Nat.le_of_lt hBl) _) (p:=⟨w1.heap.size,1,none⟩) (Nat.le_of_lt hBl) _,by simp;omega,?_,?_⟩
       ·exact(Yal _ _ _ _ (by simp;omega)).trans ((Yal _ _ _ _ (by simp;omega)).trans hB2.out)
       ·rw[Hid,hts.out,Yav Hcr.out];exact qcz HS2.out _ _
      case measure=>simp[intOf];omega
    ·have hcb:(l[k].crit==crit)=false:=by simp[hcr]
     have Hcr:=zhi hcr;clear hcr;go_wp2_with fail;go_roundw
     case rel=>
      refine⟨k+1,by go_num,by omega,bal hb _,by simp;omega,(Yaj _ _ _ (by omega)).trans hB.out,?_⟩;rw[Hid,hts.out,Yaq Hcr.out,Rat.add_zero];exact(Yaj _ _ _ hSl).trans hS.out
     case measure=>simp[intOf];omega
   ·have ek:k=l.length:=by omega
    have hS':=hS.out;rw[Yar (by omega)] at hS';obtain⟨s0,s1,sf⟩:=Qk hS';obtain⟨z0,z1,zf⟩:=Qk hB.out;clear hS';go_wp2_with fail;refine bodyPost_ret (v:=rv (Qu crit high l)) (by simp[results,Tryz.results104,go_sem,z0,z1]) rfl ⟨rfl,?_⟩;exact bst (bst hb (p:=⟨w.heap.size,0,none⟩) (zlr _) _) (p:=⟨w.heap.size,1,none⟩) (zlr _) _
theorem qcj(A:ZA)(l:List Tk)(c:Nat)(crit:Bool)(w:World)(h:TS w A l):
  Calls Tryz.prog 62 #[.slice A l.length c,.bool crit] w fun e w'=>e=.returned (qhv l crit false)∧Below w.heap.size w w':=by
 obtain⟨a,b,hv⟩: ∃a b,qhv l crit false=sv a b:=by
  unfold qhv;split
  ·exact⟨_,_,rfl⟩
  ·exact⟨_,_,rfl⟩
 go_enter Tryz.func62,Tryz.ntmps62;go_wp2_with fail;refine(qpy A l c crit false _ (h.keep (bal br _))).mono ?_;rw[hv];rintro e w1 ⟨rfl,b1⟩;have hB:=(b1.block w.heap.size (by simp)).trans (zha w _);obtain⟨x0,x1,xf⟩:=Qk hB;have Hv:=zhi hv;clear hB hv;go_wp2_with fail;refine bodyPost_ret (v:=sv a b) (by simp[results,Tryz.results62,go_sem,x0,x1]) rfl ⟨by rw[Hv.out],?_⟩;exact bst (bst (Qa (bal br _) b1) (p:=⟨w.heap.size,0,none⟩) (zlr _) _) (p:=⟨w.heap.size,1,none⟩) (zlr _) _
theorem qgi(A:ZA)(l:List Tk)(c:Nat)(w:World)(h:TS w A l):
  Calls Tryz.prog 103 #[.slice A l.length c] w fun e w'=>e=.returned (qhv l true true)∧Below w.heap.size w w':=by
 obtain⟨a,b,hv⟩: ∃a b,qhv l true true=sv a b:=by
  unfold qhv;split
  ·exact⟨_,_,rfl⟩
  ·exact⟨_,_,rfl⟩
 go_enter Tryz.func103,Tryz.ntmps103;go_wp2_with fail;refine(qpy A l c true true _ (h.keep (bal br _))).mono ?_;rw[hv];rintro e w1 ⟨rfl,b1⟩;have hB:=(b1.block w.heap.size (by simp)).trans (zha w _);obtain⟨x0,x1,xf⟩:=Qk hB;have Hv:=zhi hv;clear hB hv;go_wp2_with fail;refine bodyPost_ret (v:=sv a b) (by simp[results,Tryz.results103,go_sem,x0,x1]) rfl ⟨by rw[Hv.out],?_⟩;exact bst (bst (Qa (bal br _) b1) (p:=⟨w.heap.size,0,none⟩) (zlr _) _) (p:=⟨w.heap.size,1,none⟩) (zlr _) _
theorem qsq{t:Tk}(h:vld t=true){x:Int}(hx:0≤x):(x+t.every-1).tdiv t.every=qfh t x:=by
 have:=qac h;unfold qfh;rw[Yby (by omega)]
theorem qjl(t:Tk)(x:Int)(b:Bool)(w:World)(h:vld t=true)(hx:0≤x)(hxm:x≤2000000):
  Calls Tryz.prog 184 #[t.val,.int .i64 x,.bool b] w fun e w'=>e=.returned (.int .i64 (qmo t x b))∧Below w.heap.size w w':=by
 have hn:=qac h;obtain⟨n1,n2,n3,n4,n5⟩:=hn;have hJ:=qsq h hx;have hb:=qkc h hx;have hd:qmo t x b=qfh t x*qkb t b:=rfl;have Hd:=zhi hd;clear hd;obtain⟨J,hJJ⟩: ∃J,qfh t x=J:=⟨_,rfl⟩;rw[hJJ] at hJ hb;obtain⟨b1,b2⟩:=hb;have m1:=qbp b1 b2 (show 0≤t.low by omega) (show t.low≤20 by omega) hx;have m2:=qbp b1 b2 (show 0≤t.high by omega) (show t.high≤20 by omega) hx;obtain⟨m10,m11⟩:=m1;obtain⟨m20,m21⟩:=m2;have hne:(t.every==0)=false:=beq_eq_false_iff_ne.2 (by omega);have HJ:=zhi hJJ;clear hJJ;cases b
 all_goals
  go_enter Tryz.func184,Tryz.ntmps184;go_wp2_with fail
 all_goals go_ret
 all_goals refine⟨?_,bal br _⟩
 all_goals(rw[Hd.out,HJ.out];simp[qkb, *])
theorem qhb(t:Tk)(x:Int)(b:Bool)(w:World)(h:vld t=true)(hx:0≤x)(hxm:x≤2000000):
  Calls Tryz.prog 201 #[t.val,.int .i64 x,.bool b] w fun e w'=>e=.returned (.int .i64 (qmo t x b))∧Below w.heap.size w w':=by
 have hn:=qac h;obtain⟨n1,n2,n3,n4,n5⟩:=hn;have hJ:=qsq h hx;have hb:=qkc h hx;have hd:qmo t x b=qfh t x*qkb t b:=rfl;have Hd:=zhi hd;clear hd;obtain⟨J,hJJ⟩: ∃J,qfh t x=J:=⟨_,rfl⟩;rw[hJJ] at hJ hb;obtain⟨b1,b2⟩:=hb;have m1:=qbp b1 b2 (show 0≤t.low by omega) (show t.low≤20 by omega) hx;have m2:=qbp b1 b2 (show 0≤t.high by omega) (show t.high≤20 by omega) hx;obtain⟨m10,m11⟩:=m1;obtain⟨m20,m21⟩:=m2;have hne:(t.every==0)=false:=beq_eq_false_iff_ne.2 (by omega);have HJ:=zhi hJJ;clear hJJ;cases b
 all_goals
  go_enter Tryz.func201,Tryz.ntmps201;go_wp2_with fail
 all_goals go_ret
 all_goals refine⟨?_,bal br _⟩
 all_goals(rw[Hd.out,HJ.out];simp[qkb, *])
def Qg(l:List Tk)(k:Nat):Tk:=l.getD k ⟨0,0,0,0,false⟩
theorem qbi(l:List Tk)(k:Nat)(h:k<l.length):Qg l k=l[k]:=by simp[Qg,h]
theorem Qs{l:List Tk}(h:Qe l=true){k:Nat}(hk:k<l.length):vld (Qg l k)=true:=by
 rw[qbi l k hk];exact(Qj h).2 _ (Yao hk)
def qey(l:List Tk)(n:Nat)(w:Int):Int:=qgu (fun k=>qmo (Qg l k) w false) n
def Vn(l:List Tk)(at_:Nat)(w:Int):Int:=(Qg l at_).low+qey l at_ w
def qbj(l:List Tk)(at_:Nat):Option Int:=qdu (Vn l at_) (Qg l at_).low (Qg l at_).due
def qeq(t:Tk)(low w:Int):Int:=if t.crit then qmo t w true else qmo t low false
def qi4(l:List Tk)(low:Int)(n:Nat)(w:Int):Int:=qgu (fun k=>qeq (Qg l k) low w) n
def Vu(l:List Tk)(low:Int)(at_:Nat)(w:Int):Int:=(Qg l at_).high+qi4 l low at_ w
def qpz(l:List Tk)(at_:Nat):Option Int:=
 match qbj l at_ with
 |none=>none
 |some low=>if(Qg l at_).crit then qdu (Vu l low at_) (Qg l at_).high (Qg l at_).due else none
def plc(l:List Tk)(x:Int):Bool:=Qe l&&decide (0≤x)&&decide (x<l.length)
def qk7(l:List Tk)(x:Int):Option Int:=if plc l x then qbj l x.toNat else none
def rSw(l:List Tk)(x:Int):Option Int:=if plc l x then qpz l x.toNat else none
def qc7(l:List Tk)(k:Nat):Bool:=if(Qg l k).crit then(qpz l k).isSome else(qbj l k).isSome
def qi7(l:List Tk)(x:Int):Bool:=plc l x&&qc7 l x.toNat
def qer(l:List Tk):Bool:=Qe l&&(List.range l.length).all (qc7 l)
theorem qux{l:List Tk}(h:Qe l=true){n:Nat}(hn:n≤l.length){v w:Int}(hw:v≤w):qey l n v≤qey l n w:=
 qwv fun k hk=>qsp (Qs h (by omega)) _ hw
theorem qeg{l:List Tk}(h:Qe l=true){n:Nat}(hn:n≤l.length){v w:Int}(hw:v≤w):Vn l n v≤Vn l n w:=by
 have:=qux h hn hw;simp only[Vn];omega
theorem qx8{t:Tk}(h:vld t=true)(low:Int){v w:Int}(hw:v≤w):qeq t low v≤qeq t low w:=by
 unfold qeq;split
 ·exact qsp h _ hw
 ·omega
theorem qx9{l:List Tk}(h:Qe l=true)(low:Int){n:Nat}(hn:n≤l.length){v w:Int}(hw:v≤w):qi4 l low n v≤qi4 l low n w:=
 qwv fun k hk=>qx8 (Qs h (by omega)) _ hw
theorem qfi{l:List Tk}(h:Qe l=true)(low:Int){n:Nat}(hn:n≤l.length){v w:Int}(hw:v≤w):Vu l low n v≤Vu l low n w:=by
 have:=qx9 h low hn hw;simp only[Vu];omega
theorem qgx{l:List Tk}(h:Qe l=true){n:Nat}(hn:n≤l.length){w:Int}(h0:0≤w)(h1:w≤20):0≤qey l n w∧qey l n w≤n*400:=
 ⟨ql8 fun k hk=>(qgh (Qs h (by omega)) _ h0).1,qww fun k hk=>by have:=(qgh (Qs h (show k<l.length by omega)) false h0).2;omega⟩
theorem qwx{t:Tk}(h:vld t=true){low w:Int}(hl:0≤low)(hl1:low≤20)(h0:0≤w)(h1:w≤20):0≤qeq t low w∧qeq t low w≤400:=by
 have a:=qgh h true h0;have b:=qgh h false hl;unfold qeq;split<;>omega
theorem qiq{l:List Tk}(h:Qe l=true){low:Int}(hl:0≤low)(hl1:low≤20){n:Nat}(hn:n≤l.length){w:Int}(h0:0≤w)(h1:w≤20):0≤qi4 l low n w∧qi4 l low n w≤n*400:=
 ⟨ql8 fun k hk=>(qwx (Qs h (by omega)) hl hl1 h0 h1).1,qww fun k hk=>(qwx (Qs h (by omega)) hl hl1 h0 h1).2⟩
def Qt(l:List Jb)(k:Nat):Jb:=l.getD k ⟨0,0,0⟩
theorem Vx(l:List Jb)(k:Nat)(h:k<l.length):Qt l k=l[k]:=by simp[Qt,h]
def Vy(l:List Tk)(j:Jb):Bool:=plc l j.task&&decide (0≤j.at_)&&decide (j.at_≤200)&&decide (1≤j.need)&&decide (j.need≤(Qg l j.task.toNat).high)
def qox(a b:Jb):Bool:=decide (a.at_<b.at_)||(decide (a.at_=b.at_)&&decide (a.task<b.task))
def qya(l:List Tk)(j k:Jb):Bool:= !(decide (k.task=j.task)&&decide (j.at_-k.at_<(Qg l j.task.toNat).every))
def qco(l:List Tk)(js:List Jb)(i:Nat):Bool:=Vy l (Qt js i)&&(js.take i).all (qya l (Qt js i))&&(decide (i=0)||qox (Qt js (i-1)) (Qt js i))
def Q9(l:List Tk)(js:List Jb):Bool:=Qe l&&decide (js.length≤60)&&(List.range js.length).all (qco l js)
def qf5(xs:List Jb)(t:Int):Int:=xs.foldl (fun a k=>if k.task=t then k.at_ else a) (-20)
def qke(l:List Tk)(js:List Jb)(i:Nat):Bool:=Vy l (Qt js i)&&(decide (i=0)||qox (Qt js (i-1)) (Qt js i))&& !decide ((Qt js i).at_-qf5 (js.take i) (Qt js i).task<(Qg l (Qt js i).task.toNat).every)
theorem quy{α:Type}{P:List α→Prop}(h0:P [])(h1: ∀xs x,P xs→P (xs++[x]))(l:List α):P l:=by
 rw[←l.reverse_reverse];induction l.reverse with
 |nil=>exact h0
 |cons a r ih=>
  rw[List.reverse_cons];exact h1 _ _ ih
theorem qjm(xs:List Jb)(k:Jb)(t:Int):qf5 (xs++[k]) t=if k.task=t then k.at_ else qf5 xs t:=by simp[qf5,List.foldl_append]
theorem qsr(xs:List Jb)(t:Int):qf5 xs t= -20∨ ∃k∈xs,k.task=t∧k.at_=qf5 xs t:=by
 induction xs using quy with
 |h0=>exact .inl rfl
 |h1 xs k ih=>
  rw[qjm];by_cases h:k.task=t
  ·rw[Yav h];exact .inr ⟨k,by simp,h,rfl⟩
  ·rw[Yaq h];rcases ih with ih|⟨q,hq,h1,h2⟩
   ·exact .inl ih
   ·exact .inr ⟨q,by simp[hq],h1,h2⟩
theorem qzp(xs:List Jb)(t:Int)(hs:xs.Pairwise (fun a b=>a.at_≤b.at_)): ∀k∈xs,k.task=t→k.at_≤qf5 xs t:=by
 induction xs using quy with
 |h0=>simp
 |h1 xs q ih=>
  rw[Yea] at hs;intro k hk hkt;rw[qjm];rw[Ybq,Yaw] at hk;rcases hk with hk|rfl
  ·split
   ·exact hs.2.2 k hk q (by simp)
   ·exact ih hs.1 k hk hkt
  ·rw[Yav hkt];exact Ycs _
theorem quz{js:List Jb}{n:Nat}(hn:n≤js.length)(h: ∀i,i<n→i=0∨qox (Qt js (i-1)) (Qt js i)=true):(js.take n).Pairwise (fun a b=>a.at_≤b.at_):=by
 induction n with
 |zero=>simp
 |succ n ih=>
  have hlt:n<js.length:=by omega
  have ihh:=ih (by omega) (fun i hi=>h i (by omega));rw[Yad hlt,Yea];refine⟨ihh,by simp,?_⟩;intro a ha b hb;rw[Yaw] at hb;subst hb;cases n with
  |zero=>simp at ha
  |succ m=>
   have hm:m<js.length:=by omega
   have hb:=h (m+1) (by omega);rcases hb with hb|hb
   ·omega
   ·have e1:Qt js (m+1-1)=js[m]:=by rw[Vx js _ (by omega)];rfl
    rw[e1,Vx js _ hlt] at hb
    have hle:js[m].at_≤js[m+1].at_:=by
     simp only[qox,Ydw,Yac,Yae] at hb;omega
    rw[Yad hm,Yea] at ihh;rw[Yad hm,Ybq,Yaw] at ha;rcases ha with ha|rfl
    ·exact Int.le_trans (ihh.2.2 a ha _ (by simp)) hle
    ·exact hle
theorem qss{l:List Tk}{js:List Jb}{i:Nat}(hi:i<js.length)(hall: ∀j,j<i→qco l js j=true):qco l js i=qke l js i:=by
 have hs:(js.take i).Pairwise (fun a b=>a.at_≤b.at_):=quz (by omega) (fun j hj=>by
  have:=hall j hj;simp only[qco,Yac,Ydw,Yae] at this;exact this.2)
 generalize hj:Qt js i=j;unfold qco qke;rw[hj];cases hO:Vy l j with
 |false=>simp
 |true=>
  have hO':=hO;simp only[Vy,Yac,Yae] at hO';obtain⟨⟨⟨⟨hp,h0⟩,h1⟩,h2⟩,h3⟩:=hO'
  have hev:(Qg l j.task.toNat).every≤20:=by
   simp only[plc,Yac,Yae] at hp;have hv:=Qs hp.1.1 (k:=j.task.toNat) (by omega);simp only[vld,Yac,Yae] at hv;omega
  have key:(js.take i).all (qya l j)= !decide (j.at_-qf5 (js.take i) j.task<(Qg l j.task.toNat).every):=by
   rw[Bool.eq_iff_iff,Yaz];simp only[qya,Ycn,Ydx,decide_eq_false_iff_not];constructor
   ·intro h;rcases qsr (js.take i) j.task with e|⟨k,hk,e1,e2⟩
    ·omega
    ·have:=h k hk;omega
   ·intro h k hk;by_cases e:k.task=j.task
    ·have:=qzp _ _ hs k hk e;omega
    ·exact .inl e
  rw[key];simp only[Ycy,Bool.and_comm]
def qov(l:List Tk)(at_:Int)(high:Bool):Nat→List Jb
 |0=>[]
 |k+1=>qov l at_ high k++(if at_ % (Qg l k).every=0 then [⟨(k:Int),at_,if high then(Qg l k).high else(Qg l k).low⟩] else [])
def qeh(l:List Tk)(high:Bool):Nat→List Jb
 |0=>[]
 |n+1=>qeh l high n++qov l (n:Int) high l.length
def qay(l:List Tk)(n:Int)(high:Bool):Option (List Jb):=
 if Qe l&&decide (0≤n)&&decide (n≤200)&&decide ((qeh l high n.toNat).length≤60) then some (qeh l high n.toNat) else none
def qcl(l:List Tk)(n:Int)(high:Bool):List Jb:=(qay l n high).getD []
theorem q5h(l:List Tk)(a:Int)(high:Bool){k n:Nat}(h:k≤n):(qov l a high k).length≤(qov l a high n).length:=by
 induction n with
 |zero=>rw[show k=0 by omega];exact zlr _
 |succ n ih=>
  by_cases e:k=n+1
  ·rw[e];exact zlr _
  ·have:=ih (by omega);simp only[qov,Yaa];omega
theorem q23(l:List Tk)(high:Bool){k n:Nat}(h:k≤n):(qeh l high k).length≤(qeh l high n).length:=by
 induction n with
 |zero=>rw[show k=0 by omega];exact zlr _
 |succ n ih=>
  by_cases e:k=n+1
  ·rw[e];exact zlr _
  ·have:=ih (by omega);simp only[qeh,Yaa];omega
end Go.Proofs.YtmkjmancmiphfaaGreatDoor

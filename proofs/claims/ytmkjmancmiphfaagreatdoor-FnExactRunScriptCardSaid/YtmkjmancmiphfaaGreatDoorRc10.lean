/-
  RunJobs' memory: the run's block, five rows of integers, the boxes that its closures read.
-/
import Derived.Test.YtmkjmancmiphfaaGreatDoorRc08
import Derived.Test.YtmkjmancmiphfaaGreatDoorRc09
namespace Go.Proofs.YtmkjmancmiphfaaGreatDoor
open Go.RowKit
def qsi(l:List Tk):Bool:=Vj l||(qcp l&& !qe4 l)
def qgp(l:List Tk):Int:=if qsi l then(q7v l).num else 0
def qgq(l:List Tk):Int:=if qsi l then((q7v l).den:Int) else 0
theorem qva(l:List Tk):qkn l=.tuple #[sv (qgp l) (qgq l),.bool (qsi l)]:=by
 unfold qkn qgp qgq qsi q7v;cases h1:Vj l with
 |true=>rfl
 |false=>
  cases h2:(qcp l&& !qe4 l) with
  |true=>simp
  |false=>simp
theorem q7a(l:List Tk):0≤qgp l∧qgp l≤1000000000∧0≤qgq l∧qgq l≤1000000000:=by
 unfold qgp qgq;cases hB:qsi l with
 |false=>simp
 |true=>
  simp only[if_true];unfold q7v;cases h1:Vj l with
  |true=>
   rw[Yav rfl];exact⟨by decide,by decide,by decide,by decide⟩
  |false=>
   simp only[qsi,h1,Bool.false_or,Yac,Ycn] at hB;have:=(qyg (qe5 hB.1) hB.2).facIn;obtain⟨a,b,c⟩:=this;simp only[Yci,Ydh];omega
theorem qnj{l:List Tk}{js:List Jb}(h:Q9 l js=true):JobsIn l js (qgp l) (qgq l):=by
 obtain⟨f0,f1,f2,f3⟩:=q7a l;simp only[Q9,Yac,Yaz,Ybu,Yae] at h;obtain⟨⟨hS,h60⟩,hall⟩:=h;refine⟨hS,fun i hi=>?_,f0,f1,f2,f3⟩;have h1:=hall i hi;simp only[qco,Vy,plc,Yac,Yae] at h1;obtain⟨⟨⟨⟨⟨⟨⟨⟨_,h2⟩,h3⟩,h4⟩,h5⟩,h6⟩,h7⟩,_⟩,_⟩:=h1;have hb:=qao (Qs hS (k:=(Qt js i).task.toNat) (by omega));unfold jK;omega
theorem qg1(o:List Nat)(k:Nat):(Vv o).getD k 0=((o.getD k 0:Nat):Int):=by
 simp only[Vv,Ydz,Ycv];cases o[k]? <;>rfl
abbrev RT:TypeId:=29
abbrev sl(g n c:Nat):Value:=.slice (some ⟨g,0,none⟩) n c
abbrev fv(L J R X:Nat):Value:=.func (.func 29) #[] #[.pointer (some ⟨L,0,none⟩),.pointer (some ⟨J,0,none⟩),.pointer (some ⟨R,0,none⟩),.pointer (some ⟨X,0,none⟩)]
theorem rt1:RT≠3:=by decide
theorem rt2:(23:TypeId)≠3:=by decide
theorem rt3:(24:TypeId)≠3:=by decide
theorem rt4:(54:TypeId)≠3:=by decide
theorem rt5:(51:TypeId)≠3:=by decide
structure MR (base:Nat) (w0:World) (R:Nat) (wr:World) (Pp:Nat) (pol:Int) (ge ce:Nat) (en:List Int) (gt ct:Nat) (tr:List Int) (gs cs:Nat) (sw:List Int) (gd cd:Nat) (dn:List Int) (gl cl:Nat) (lf:List Int) (hi:Bool) (X:List Rw):Prop where
 rows:IRows base wr ((Pp,1,[pol])::(ge,ce,en)::(gt,ct,tr)::(gs,cs,sw)::(gd,cd,dn)::(gl,cl,lf)::X)
 blk:wr.heap[R]? =some (.cells #[sl ge en.length ce,sl gt tr.length ct,sl gs sw.length cs,.bool hi] RT (0,0))
 oth:Lib.OthersKept 3 (some R) w0 wr
 bel:Below base w0 wr
 le:base≤R
section
variable {base:Nat} {w0:World} {R:Nat} {wr w':World} {Pp:Nat} {pol:Int} {ge ce:Nat} {en:List Int} {gt ct:Nat} {tr:List Int} {gs cs:Nat} {sw:List Int} {gd cd:Nat} {dn:List Int} {gl cl:Nat} {lf:List Int} {hi:Bool} {X:List Rw}
theorem MR.keep(h:MR base w0 R wr Pp pol ge ce en gt ct tr gs cs sw gd cd dn gl cl lf hi X)(hb:Below wr.heap.size wr w')(hs:base≤wr.heap.size):MR base w0 R w' Pp pol ge ce en gt ct tr gs cs sw gd cd dn gl cl lf hi X:=
 ⟨h.rows.keep hb,bh hb h.blk,h.oth.trans (fun _ _ hk _ _=>bh hb hk),h.bel.trans (hb.mono hs),h.le⟩
theorem MR.size(h:MR base w0 R wr Pp pol ge ce en gt ct tr gs cs sw gd cd dn gl cl lf hi X):w0.heap.size≤wr.heap.size:=h.bel.size
theorem MR.cells(h:MR base w0 R wr Pp pol ge ce en gt ct tr gs cs sw gd cd dn gl cl lf hi X):wr.cell? ⟨R,0,none⟩=some (sl ge en.length ce)∧wr.cell? ⟨R,1,none⟩=some (sl gt tr.length ct)∧wr.cell? ⟨R,2,none⟩=some (sl gs sw.length cs)∧wr.cell? ⟨R,3,none⟩=some (.bool hi)∧
  wr.frozen? ⟨R,1,none⟩=false∧wr.frozen? ⟨R,2,none⟩=false∧wr.frozen? ⟨R,3,none⟩=false:=
 ⟨by rw[Yak h.blk];rfl,by rw[Yak h.blk];rfl,by rw[Yak h.blk];rfl,by rw[Yak h.blk];rfl,zfz h.blk 1,zfz h.blk 2,zfz h.blk 3⟩
theorem MR.ne(h:MR base w0 R wr Pp pol ge ce en gt ct tr gs cs sw gd cd dn gl cl lf hi X){r:Rw}(hr:r∈(Pp,1,[pol])::(ge,ce,en)::(gt,ct,tr)::(gs,cs,sw)::(gd,cd,dn)::(gl,cl,lf)::X):some R≠some r.1:=by
 intro e;have e:R=r.1:=by simpa using e
 rcases(h.rows.own r hr).2 with⟨hv,_⟩|⟨g,cap,cur,hv,_,hh,_⟩
 ·cases hv
 ·cases hv
  rw[←e,h.blk] at hh;injection hh with hh
  injection hh with _ ht _
  exact rt1 ht
theorem MR.kind(h:MR base w0 R wr Pp pol ge ce en gt ct tr gs cs sw gd cd dn gl cl lf hi X){r:Rw}(hr:r∈(Pp,1,[pol])::(ge,ce,en)::(gt,ct,tr)::(gs,cs,sw)::(gd,cd,dn)::(gl,cl,lf)::X): ∃c fz,wr.heap[r.1]? =some (.cells c 3 fz):=by
 rcases(h.rows.own r hr).2 with⟨hv,_⟩|⟨g,cap,cur,hv,_,hh,_⟩
 ·cases hv
 ·cases hv
  exact⟨cur,(0,0),hh⟩
theorem MR.turn(h:MR base w0 R wr Pp pol ge ce en gt ct tr gs cs sw gd cd dn gl cl lf hi X){r:Rw}(hr:r∈(Pp,1,[pol])::(ge,ce,en)::(gt,ct,tr)::(gs,cs,sw)::(gd,cd,dn)::(gl,cl,lf)::X)(hg:wr.grownBy w' (some r.1))(hs:base≤wr.heap.size):
  w'.heap[R]? =some (.cells #[sl ge en.length ce,sl gt tr.length ct,sl gs sw.length cs,.bool hi] RT (0,0))∧Lib.OthersKept 3 (some R) w0 w'∧Below base w0 w':=by
 refine⟨(hg.block R (Array.getElem?_eq_some_iff.1 h.blk).1 (h.ne hr)).trans h.blk,h.oth.grown hg (fun g hg'=>?_),h.bel.grown hg hs (fun k hk=>?_)⟩
 ·cases hg'
  exact h.kind hr
 ·cases hk
  exact(h.rows.lt hr).1
theorem MR.turnR(h:MR base w0 R wr Pp pol ge ce en gt ct tr gs cs sw gd cd dn gl cl lf hi X)(i:Nat)(v:Value):
  IRows base (wr.setCell ⟨R,i,none⟩ v) ((Pp,1,[pol])::(ge,ce,en)::(gt,ct,tr)::(gs,cs,sw)::(gd,cd,dn)::(gl,cl,lf)::X)∧(wr.setCell ⟨R,i,none⟩ v).heap[R]? =some (.cells ((#[sl ge en.length ce,sl gt tr.length ct,sl gs sw.length cs,.bool hi]:Array Value).setIfInBounds i v) RT (0,0))∧Lib.OthersKept 3 (some R) w0 (wr.setCell ⟨R,i,none⟩ v)∧Below base w0 (wr.setCell ⟨R,i,none⟩ v):=
 ⟨h.rows.other (Qx wr R i v) (fun b hb=>by cases hb;exact⟨_,_,_,h.blk,rt1⟩),Yan wr R i _ RT v h.blk,h.oth.setCell ⟨R,i,none⟩ rfl v,h.bel.setCell (p:=⟨R,i,none⟩) h.le v⟩
theorem MR.setHi(h:MR base w0 R wr Pp pol ge ce en gt ct tr gs cs sw gd cd dn gl cl lf hi X)(b:Bool):MR base w0 R (wr.setCell ⟨R,3,none⟩ (.bool b)) Pp pol ge ce en gt ct tr gs cs sw gd cd dn gl cl lf b X:=by
 obtain⟨h1,h2,h3,h4⟩:=h.turnR 3 (.bool b);exact⟨h1,h2,h3,h4,h.le⟩
theorem MR.setEn(h:MR base w0 R wr Pp pol ge ce en gt ct tr gs cs sw gd cd dn gl cl lf hi X)(hs:base≤wr.heap.size)(i:Nat)(x:Int):MR base w0 R (wr.setCell ⟨ge,i,none⟩ (.int .i64 x)) Pp pol ge ce (en.set i x) gt ct tr gs cs sw gd cd dn gl cl lf hi X:=by
 obtain⟨h1,h2,h3⟩:=h.turn (r:=(ge,ce,en)) (by simp) (Qx wr ge i (.int .i64 x)) hs;exact⟨h.rows.store 1 rfl i x,by rw[Ybc];exact h1,h2,h3,h.le⟩
theorem MR.setDn(h:MR base w0 R wr Pp pol ge ce en gt ct tr gs cs sw gd cd dn gl cl lf hi X)(hs:base≤wr.heap.size)(i:Nat)(x:Int):MR base w0 R (wr.setCell ⟨gd,i,none⟩ (.int .i64 x)) Pp pol ge ce en gt ct tr gs cs sw gd cd (dn.set i x) gl cl lf hi X:=by
 obtain⟨h1,h2,h3⟩:=h.turn (r:=(gd,cd,dn)) (by simp) (Qx wr gd i (.int .i64 x)) hs;exact⟨h.rows.store 4 rfl i x,h1,h2,h3,h.le⟩
theorem MR.appLf(h:MR base w0 R wr Pp pol ge ce en gt ct tr gs cs sw gd cd dn gl cl lf hi X)(hs:base≤wr.heap.size){g' c':Nat}{lf':List Int}(hO:OI base w' (some ⟨g',0,none⟩) c' lf')(hg:wr.grownBy w' (some gl))(hat:gl=g'∨g'=wr.heap.size):MR base w0 R w' Pp pol ge ce en gt ct tr gs cs sw gd cd dn g' c' lf' hi X:=by
 obtain⟨h1,h2,h3⟩:=h.turn (r:=(gl,cl,lf)) (by simp) hg hs;exact⟨h.rows.one 5 rfl hO hg hat,h1,h2,h3,h.le⟩
theorem MR.appTr(h:MR base w0 R wr Pp pol ge ce en gt ct tr gs cs sw gd cd dn gl cl lf hi X)(hs:base≤wr.heap.size){g' c':Nat}{tr':List Int}(hO:OI base w' (some ⟨g',0,none⟩) c' tr')(hg:wr.grownBy w' (some gt))(hat:gt=g'∨g'=wr.heap.size):MR base w0 R (w'.setCell ⟨R,1,none⟩ (sl g' tr'.length c')) Pp pol ge ce en g' c' tr' gs cs sw gd cd dn gl cl lf hi X:=by
 obtain⟨h1,h2,h3⟩:=h.turn (r:=(gt,ct,tr)) (by simp) hg hs;exact⟨(h.rows.one 2 rfl hO hg hat).other (Qx w' R 1 _) (fun b hb=>by cases hb;exact⟨_,_,_,h1,rt1⟩),Yan w' R 1 _ RT _ h1,h2.setCell ⟨R,1,none⟩ rfl _,h3.setCell (p:=⟨R,1,none⟩) h.le _,h.le⟩
theorem MR.appSw(h:MR base w0 R wr Pp pol ge ce en gt ct tr gs cs sw gd cd dn gl cl lf hi X)(hs:base≤wr.heap.size){g' c':Nat}{sw':List Int}(hO:OI base w' (some ⟨g',0,none⟩) c' sw')(hg:wr.grownBy w' (some gs))(hat:gs=g'∨g'=wr.heap.size):MR base w0 R (w'.setCell ⟨R,2,none⟩ (sl g' sw'.length c')) Pp pol ge ce en gt ct tr g' c' sw' gd cd dn gl cl lf hi X:=by
 obtain⟨h1,h2,h3⟩:=h.turn (r:=(gs,cs,sw)) (by simp) hg hs;exact⟨(h.rows.one 3 rfl hO hg hat).other (Qx w' R 2 _) (fun b hb=>by cases hb;exact⟨_,_,_,h1,rt1⟩),Yan w' R 2 _ RT _ h1,h2.setCell ⟨R,2,none⟩ rfl _,h3.setCell (p:=⟨R,2,none⟩) h.le _,h.le⟩
theorem MR.blank(h:MR base w0 R wr Pp pol ge ce en gt ct tr gs cs sw gd cd dn gl cl lf hi [])(hs:base≤wr.heap.size):MR base w0 R (wr.alloc (.cells #[] 3)) Pp pol ge ce en gt ct tr gs cs sw gd cd dn gl cl lf hi [(wr.heap.size,0,[])]:=by
 have h1:=h.keep (bal (Below.refl wr.heap.size wr) (.cells #[] 3)) hs;exact⟨h.rows.new (Vh wr base hs) (bal br _),h1.blk,h1.oth,h1.bel,h.le⟩
theorem MR.appX{g c:Nat}{xs:List Int}(h:MR base w0 R wr Pp pol ge ce en gt ct tr gs cs sw gd cd dn gl cl lf hi [(g,c,xs)])(hs:base≤wr.heap.size){g' c':Nat}{xs':List Int}(hO:OI base w' (some ⟨g',0,none⟩) c' xs')(hg:wr.grownBy w' (some g))(hat:g=g'∨g'=wr.heap.size):MR base w0 R w' Pp pol ge ce en gt ct tr gs cs sw gd cd dn gl cl lf hi [(g',c',xs')]:=by
 obtain⟨h1,h2,h3⟩:=h.turn (r:=(g,c,xs)) (by simp) hg hs;exact⟨h.rows.one 6 rfl hO hg hat,h1,h2,h3,h.le⟩
theorem MR.take{g c:Nat}{xs:List Int}(h:MR base w0 R wr Pp pol ge ce en gt ct tr gs cs sw gd cd dn gl cl lf hi [(g,c,xs)]):MR base w0 R wr Pp pol ge ce en gt ct tr gs cs sw gd cd dn g c xs hi []:=
 ⟨h.rows.sub (by
  refine .cons_cons _ (.cons_cons _ (.cons_cons _ (.cons_cons _ (.cons_cons _ (.cons _ (.refl _))))))),h.blk,h.oth,h.bel,h.le⟩
theorem MR.enO(h:MR base w0 R wr Pp pol ge ce en gt ct tr gs cs sw gd cd dn gl cl lf hi X):OI base wr (some ⟨ge,0,none⟩) ce en:=h.rows.at 1 rfl
theorem MR.trO(h:MR base w0 R wr Pp pol ge ce en gt ct tr gs cs sw gd cd dn gl cl lf hi X):OI base wr (some ⟨gt,0,none⟩) ct tr:=h.rows.at 2 rfl
theorem MR.swO(h:MR base w0 R wr Pp pol ge ce en gt ct tr gs cs sw gd cd dn gl cl lf hi X):OI base wr (some ⟨gs,0,none⟩) cs sw:=h.rows.at 3 rfl
theorem MR.dnO(h:MR base w0 R wr Pp pol ge ce en gt ct tr gs cs sw gd cd dn gl cl lf hi X):OI base wr (some ⟨gd,0,none⟩) cd dn:=h.rows.at 4 rfl
theorem MR.lfO(h:MR base w0 R wr Pp pol ge ce en gt ct tr gs cs sw gd cd dn gl cl lf hi X):OI base wr (some ⟨gl,0,none⟩) cl lf:=h.rows.at 5 rfl
theorem MR.xO{g c:Nat}{xs:List Int}(h:MR base w0 R wr Pp pol ge ce en gt ct tr gs cs sw gd cd dn gl cl lf hi [(g,c,xs)]):OI base wr (some ⟨g,0,none⟩) c xs:=h.rows.at 6 rfl
theorem MR.polO(h:MR base w0 R wr Pp pol ge ce en gt ct tr gs cs sw gd cd dn gl cl lf hi X):wr.cell? ⟨Pp,0,none⟩=some (.int .i64 pol)∧Pp<wr.heap.size:=
 ⟨(qdd (h.rows.at 0 rfl) 0 (by simp)).1,(h.rows.lt (r:=(Pp,1,[pol])) (by simp)).2⟩
structure Bxs (w0:World) (A:ZA) (l:List Tk) (c:Nat) (B:ZA) (js:List Jb) (d:Nat) (num den:Int) (L J R Xb F:Nat):Prop where
 bL:w0.heap[L]? =some (.cells #[.slice A l.length c] 23 (0,0))
 bJ:w0.heap[J]? =some (.cells #[.slice B js.length d] 24 (0,0))
 bX:w0.heap[Xb]? =some (.cells #[.int .i64 num,.int .i64 den] 54 (0,0))
 bF:w0.heap[F]? =some (.cells #[fv L J R Xb] 51 (0,0))
 nL:L≠R
 nJ:J≠R
 nX:Xb≠R
 nF:F≠R
theorem MR.boxes{A:ZA}{l:List Tk}{c:Nat}{B:ZA}{js:List Jb}{d:Nat}{num den:Int}{L J Xb F:Nat}(h:MR base w0 R wr Pp pol ge ce en gt ct tr gs cs sw gd cd dn gl cl lf hi X)(b:Bxs w0 A l c B js d num den L J R Xb F):
  wr.heap[L]? =some (.cells #[.slice A l.length c] 23 (0,0))∧wr.heap[J]? =some (.cells #[.slice B js.length d] 24 (0,0))∧wr.heap[Xb]? =some (.cells #[.int .i64 num,.int .i64 den] 54 (0,0))∧wr.heap[F]? =some (.cells #[fv L J R Xb] 51 (0,0)):=by
 refine⟨h.oth _ _ b.bL ?_ ?_,h.oth _ _ b.bJ ?_ ?_,h.oth _ _ b.bX ?_ ?_,h.oth _ _ b.bF ?_ ?_⟩
 ·simpa using b.nL
 ·rintro c fz e;injection e with _ e _
  exact rt2 e
 ·simpa using b.nJ
 ·rintro c fz e;injection e with _ e _
  exact rt3 e
 ·simpa using b.nX
 ·rintro c fz e;injection e with _ e _
  exact rt4 e
 ·simpa using b.nF
 ·rintro c fz e;injection e with _ e _
  exact rt5 e
theorem MR.env{A:ZA}{l:List Tk}{c:Nat}{B:ZA}{js:List Jb}{d:Nat}{num den:Int}{L J Xb F:Nat}(h:MR base w0 R wr Pp pol ge ce en gt ct tr gs cs sw gd cd dn gl cl lf hi X)(b:Bxs w0 A l c B js d num den L J R Xb F)(ht:TS wr A l)(hj:JS wr B js):
  DueEnv A l c B js d num den L J R Xb hi wr∧wr.cell? ⟨F,0,none⟩=some (fv L J R Xb)∧F<wr.heap.size:=by
 obtain⟨h1,h2,h3,h4⟩:=h.boxes b;obtain⟨_,_,_,r3,_⟩:=h.cells
 exact⟨⟨ht,hj,by rw[Yak h1];rfl,by rw[Yak h2];rfl,r3,by rw[Yak h3];rfl,by rw[Yak h3];rfl,(bl h1),(bl h2),(Array.getElem?_eq_some_iff.1 h.blk).1,(bl h3)⟩,
  by rw[Yak h4];rfl,(bl h4)⟩
end
end Go.Proofs.YtmkjmancmiphfaaGreatDoor

/-
  The interpreter in plain Lean: what a word does, what a line does, what a text does; the output of the first lines.
  Tasks put by the reference.
  Sets of tasks read: the reference's ParseSet.
  Jobs read by the reference: a job, and jobs.
  Jobs read by the reference.
  Words of the reference with a text: tasks.
-/
import Derived.Test.YtmkjmancmiphfaaGreatDoorRb33
import Derived.Test.YtmkjmancmiphfaaGreatDoorRb31
namespace Go.Proofs.YtmkjmancmiphfaaGreatDoor
set_option maxHeartbeats 8000000
set_option maxRecDepth 1000000
open Go.RowKit
structure Ss where
 l:List Tk
 js:List Jb
 pol:Int
def noT:List UInt8:=[110,111,10]
def okT:List UInt8:=[111,107,10]
def qef:List UInt8:=[119,104,97,116,10]
def qhl:List UInt8:=[110,111,110,101,10]
def qew(s:Ss)(l:List Tk):Ss×List UInt8:=(⟨l,[],s.pol⟩,qa9 l++[10])
def qxd(l:List Tk)(k:Nat):List UInt8:=
 num (k:Int)++((match qmh l k with
  |some v=>[32,108,111,119,32]++num v
  |none=>[])++((match rSw l k with
  |some v=>[32,115,119,105,116,99,104,32]++num v
  |none=>[])++[10]))
def qbn(l:List Tk):Nat→List UInt8
 |0=>[]
 |k+1=>qbn l k++qxd l k
def qlc(l:List Tk):List UInt8:=(((([115,104,97,114,101,115,32]++qbi (qau false false l))++[32])++qbi (qau true false l))++[32])++qbi (qau true true l)
def q2d(l:List Tk):Option Rat:=if qbh l then some 1 else if qec l&& !qgn l then some (qn9 l) else none
def qld(s:Ss)(x:List UInt8):Option (Ss×List UInt8):=
 if x=[115,111,114,116] then some (qew s (qin s.l))
 else if x=[97,115,115,105,103,110] then some (match qbb s.l with
  |some o=>qew s (qds s.l o)
  |none=>(s,noT))
 else if x=[112,108,97,99,101,115] then some (⟨s.l,s.js,0⟩,okT)
 else if x=[100,101,97,100,108,105,110,101,115] then some (⟨s.l,s.js,1⟩,okT)
 else if x=[115,104,111,119] then some (s,(qa9 s.l++[10])++(qbc s.js++[10]))
 else if x=[104,111,108,100,115] then some (s,if qb2 s.l s.pol then [104,111,108,100,115,32,121,101,115,10] else [104,111,108,100,115,32,110,111,10])
 else if x=[114,101,115,112,111,110,115,101,115] then some (s,qbn s.l s.l.length++[101,110,100,10])
 else if x=[115,104,97,114,101,115] then some (s,qlc s.l++[10])
 else if x=[102,97,99,116,111,114] then some (s,match q2d s.l with
  |some r=>([102,97,99,116,111,114,32]++qbi r)++[10]
  |none=>qhl)
 else if x=[102,101,119,101,115,116] then some (s,match qsz s.l s.pol with
  |some n=>([102,101,119,101,115,116,32]++num n)++[10]
  |none=>qhl)
 else none
def upL(l:List Tk)(n:Int):List Tk:=l.map (fun t=>⟨t.low+n,t.high+n,t.due,t.every,t.crit⟩)
def qb8(l:List Tk)(n:Int):Option (List Tk):=if qad l&&decide (-20≤n)&&decide (n≤20)&&qad (upL l n) then some (upL l n) else none
def qqm(s:Ss)(o:Option (List Jb)):Ss×List UInt8:=match o with
 |some js=>(⟨s.l,js,s.pol⟩,okT)
 |none=>(s,qef)
def qle(s:Ss)(x:List UInt8)(n:Int):Option (Ss×List UInt8):=
 if x=[108,101,97,118,101] then some (if plc s.l n then qew s (lvT s.l n) else(s,noT))
 else if x=[114,97,105,115,101] then some (match qb8 s.l n with
  |some l=>qew s l
  |none=>(s,noT))
 else if x=[114,117,108,101] then some (qqm s (qcj s.l n false))
 else if x=[119,111,114,115,116] then some (qqm s (qcj s.l n true))
 else if x=[114,117,110] then(if qsl s.l s.js s.pol n then some (s,q1b s.l s.js s.pol n.toNat) else none)
 else if x=[104,105,103,104] then some (s,match qbk s.l n s.pol with
  |some k=>([104,105,103,104,32]++num k)++[10]
  |none=>qhl)
 else if x=[112,97,99,107] then some (s,match qjc s.l n s.pol with
  |some ws=>qcf s.l ws++[101,110,100,10]
  |none=>qhl)
 else none
def qs0(s:Ss)(x r:List UInt8):Option (Ss×List UInt8):=
 if x=[116,97,115,107,115] then(qjb r).map (fun l=>qew s l)
 else if x=[97,100,109,105,116] then(tkO r).map (fun t=>match qci s.l t s.pol with
  |some l=>qew s l
  |none=>(s,noT))
 else if x=[106,111,98,115] then some (qqm s (match qfa r with
  |some js=>if qa6 s.l js then some js else none
  |none=>none))
 else none
def qlf(s:Ss)(o:Option (Ss×List UInt8)):Ss×List UInt8:=o.getD (s,qef)
def qlg(s:Ss)(x r:List UInt8):Ss×List UInt8:=match qs0 s x r with
 |some q=>q
 |none=>match qez r with
  |some n=>qlf s (qle s x n)
  |none=>(s,qef)
def qhj(s:Ss)(x:List UInt8):Ss×List UInt8:=if(Lib.cut x [32]).2.2 then qlg s (Lib.cut x [32]).1 (Lib.cut x [32]).2.1 else qlf s (qld s (Lib.cut x [32]).1)
def q6t:List UInt8:=[102,117,108,108,10]
def qp3:List (List UInt8)→Nat→Ss→List UInt8→List UInt8
 |[],_,_,out=>out
 |x::r,i,s,out=>if x=[] then qp3 r (i+1) s out else if 200≤i∨40000<out.length then out++q6t else qp3 r (i+1) (qhj s x).1 (out++(qhj s x).2)
def ss0:Ss:=⟨[],[],0⟩
def q4r(text:List UInt8):List UInt8:=if 20000<text.length then [108,111,110,103,10] else qp3 (qar [10] text) 0 ss0 []
structure Good (s:Ss):Prop where
 v:qad s.l=true
 t:qe0 s.js=true
 p:s.pol=0∨s.pol=1
theorem good0:Good ss0:=⟨rfl,rfl,.inl rfl⟩
theorem q4s:qe0 []=true:=rfl
theorem Good.took{s:Ss}(h:Good s){l:List Tk}(hl:qad l=true):Good (qew s l).1:=⟨hl,q4s,h.p⟩
theorem qzv{l:List Tk}(h:qad l=true):qad (qin l)=true:=by
 obtain⟨h1,h2⟩:=qaj h;unfold qin;rw[if_pos h];exact qj0 (by rw[qhf];exact h1) (fun t ht=>h2 t ((qrs l).mem_iff.1 ht))
theorem q2e{l:List Tk}{o:List Nat}(h:qbb l=some o):qad (qds l o)=true:=by
 obtain⟨hv,hp,_⟩:=qff h;obtain⟨h5,ha⟩:=qaj hv;refine qj0 (by unfold qds;rw[List.length_map,hp.length_eq,List.length_range];exact h5) ?_;intro t ht;unfold qds at ht;obtain⟨i,hi,rfl⟩:=List.mem_map.1 ht;have:=hp.mem_iff.1 hi;rw[List.mem_range] at this;exact qaq hv this
theorem q4t{l:List Tk}{n:Int}(h:plc l n=true):qad (lvT l n)=true:=by
 obtain⟨hv,h5,hlt,_⟩:=qc6 h;obtain⟨_,ha⟩:=qaj hv;unfold lvT;rw[if_pos h];refine qj0 ?_ (fun t ht=>ha t (List.mem_of_mem_eraseIdx ht));have:=List.length_eraseIdx_le l n.toNat;omega
theorem qpf{l x:List Tk}{n:Int}(h:qb8 l n=some x):qad x=true∧x=upL l n∧qad l=true∧ -20≤n∧n≤20:=by
 unfold qb8 at h;split at h
 ·rename_i hc
  simp only[Bool.and_eq_true,decide_eq_true_eq] at hc;injection h with h
  subst h;exact⟨hc.2,rfl,hc.1.1.1,hc.1.1.2,hc.1.2⟩
 ·cases h
theorem qpg{s:Ss}(h:Good s){o:Option (List Jb)}(ho: ∀js,o=some js→qe0 js=true):Good (qqm s o).1:=by
 cases o with
 |none=>exact h
 |some js=>exact⟨h.v,ho js rfl,h.p⟩
theorem qa5{α:Type}{c:Prop} [Decidable c] {a q:α}{o:Option α}(h:(if c then some a else o)=some q):q=a∨o=some q:=by
 by_cases hc:c
 ·rw[if_pos hc] at h;injection h with h
  exact .inl h.symm
 ·rw[if_neg hc] at h;exact .inr h
theorem qm0{α:Type}{c:Prop} [Decidable c] {q:α}{a o:Option α}(h:(if c then a else o)=some q):a=some q∨o=some q:=by
 by_cases hc:c
 ·rw[if_pos hc] at h;exact .inl h
 ·rw[if_neg hc] at h;exact .inr h
theorem q2f{s:Ss}(h:Good s){x:List UInt8}{q:Ss×List UInt8}(hq:qld s x=some q):Good q.1:=by
 unfold qld at hq;rcases qa5 hq with rfl|hq
 ·exact h.took (qzv h.v)
 rcases qa5 hq with rfl|hq
 ·cases ha:qbb s.l with
  |none=>exact h
  |some o=>exact h.took (q2e ha)
 rcases qa5 hq with rfl|hq
 ·exact⟨h.v,h.t,.inl rfl⟩
 rcases qa5 hq with rfl|hq
 ·exact⟨h.v,h.t,.inr rfl⟩
 rcases qa5 hq with rfl|hq
 ·exact h
 rcases qa5 hq with rfl|hq
 ·exact h
 rcases qa5 hq with rfl|hq
 ·exact h
 rcases qa5 hq with rfl|hq
 ·exact h
 rcases qa5 hq with rfl|hq
 ·exact h
 rcases qa5 hq with rfl|hq
 ·exact h
 cases hq
theorem q2g{s:Ss}(h:Good s){x:List UInt8}{n:Int}{q:Ss×List UInt8}(hq:qle s x n=some q):Good q.1:=by
 unfold qle at hq;rcases qa5 hq with rfl|hq
 ·by_cases hp:plc s.l n=true
  ·rw[if_pos hp];exact h.took (q4t hp)
  ·rw[if_neg hp];exact h
 rcases qa5 hq with rfl|hq
 ·cases hr:qb8 s.l n with
  |none=>exact h
  |some l=>exact h.took (qpf hr).1
 rcases qa5 hq with rfl|hq
 ·exact qpg h (fun js hj=>(qru hj).2.2.2)
 rcases qa5 hq with rfl|hq
 ·exact qpg h (fun js hj=>(qru hj).2.2.2)
 rcases qm0 hq with hq|hq
 ·by_cases hr:qsl s.l s.js s.pol n=true
  ·rw[if_pos hr] at hq;injection hq with hq
   subst hq;exact h
  ·rw[if_neg hr] at hq;cases hq
 rcases qa5 hq with rfl|hq
 ·exact h
 rcases qa5 hq with rfl|hq
 ·exact h
 cases hq
theorem q2h{s:Ss}(h:Good s){x r:List UInt8}{q:Ss×List UInt8}(hq:qs0 s x r=some q):Good q.1:=by
 unfold qs0 at hq;rcases qm0 hq with hq|hq
 ·cases hl:qjb r with
  |none=>rw[hl] at hq;cases hq
  |some l=>
   rw[hl] at hq;injection hq with hq
   subst hq;exact h.took (ql6 hl).1
 rcases qm0 hq with hq|hq
 ·cases hl:tkO r with
  |none=>rw[hl] at hq;cases hq
  |some t=>
   rw[hl] at hq;injection hq with hq
   subst hq;dsimp only;cases ha:qci s.l t s.pol with
   |none=>exact h
   |some l=>exact h.took (qop (qpa ha).2.2.2)
 rcases qa5 hq with rfl|hq
 ·refine qpg h (fun js hj=>?_);cases hl:qfa r with
  |none=>rw[hl] at hj;cases hj
  |some js'=>
   rw[hl] at hj;dsimp only at hj;by_cases hv:qa6 s.l js'=true
   ·rw[if_pos hv] at hj;injection hj with hj
    subst hj;exact qrq hv
   ·rw[if_neg hv] at hj;cases hj
 cases hq
theorem qu4{s:Ss}(h:Good s){o:Option (Ss×List UInt8)}(ho: ∀q,o=some q→Good q.1):Good (qlf s o).1:=by
 cases o with
 |none=>exact h
 |some q=>exact ho q rfl
theorem qrz{s:Ss}(h:Good s)(x:List UInt8):Good (qhj s x).1:=by
 unfold qhj;split
 ·unfold qlg;cases ht:qs0 s (Lib.cut x [32]).1 (Lib.cut x [32]).2.1 with
  |some q=>exact q2h h ht
  |none=>
   dsimp only;cases hn:qez (Lib.cut x [32]).2.1 with
   |some n=>exact qu4 h (fun q hq=>q2g h hq)
   |none=>exact h
 ·exact qu4 h (fun q hq=>q2f h hq)
theorem qgf(A:ZA)(n c:Nat)(J:ZA)(m d:Nat)(pol:Int)(A2:ZA)(n2 c2:Nat)(w:World):
  Calls Tryz.prog 82 #[ssV A n c J m d pol,.slice A2 n2 c2,.bool false] w fun e w'=>e=.returned (.tuple #[ssV A n c J m d pol,.string ⟨noT.toArray⟩])∧Below w.heap.size w w':=by
 have hg0:=zha w (ssC A n c J m d pol);have hr0:=zha (w.alloc (ssC A n c J m d pol)) (ssC none 0 0 none 0 0 0);have bg:=bal (Below.refl (w.alloc (ssC A n c J m d pol)).heap.size (w.alloc (ssC A n c J m d pol))) (ssC none 0 0 none 0 0 0);have hg1:=(bg.block w.heap.size (by simp)).trans hg0;have B0:=bal (bal (Below.refl w.heap.size w) (ssC A n c J m d pol)) (ssC none 0 0 none 0 0 0);go_enter Tryz.func82,Tryz.ntmps82;go_upto_region 1 with fail;rw[World.size_alloc] at hr0;generalize World.alloc (World.alloc w _) _=w0 at hr0 hg1 B0⊢;clear hg0 bg;obtain⟨g,hg⟩: ∃g,w.heap.size=g:=⟨_,rfl⟩;rw[hg] at hr0 hg1⊢;have hgw:w.heap.size≤g+1:=by omega
 clear hg;obtain⟨x0,x1,x2⟩:=qab hg1;obtain⟨z0,z1,z2⟩:=qab hr0;have zf:=fun i=>zfz hr0 i
 go_wp2_with fail;refine bodyPost_ret (v:=.tuple #[ssV A n c J m d pol,.string ⟨noT.toArray⟩]) (by simp[results,Tryz.results82,go_sem,z0,z1,z2];rfl) rfl ⟨rfl,bst (bst (bst B0 (p:=⟨g+1,0,none⟩) hgw _) (p:=⟨g+1,1,none⟩) hgw _) (p:=⟨g+1,2,none⟩) hgw _⟩
theorem qcl(A:ZA)(n c:Nat)(J:ZA)(m d:Nat)(pol:Int)(A2:ZA)(l2:List Tk)(c2:Nat)(w:World)(h2:TS w A2 l2)(hl:l2.length≤1000000):
  Calls Tryz.prog 82 #[ssV A n c J m d pol,.slice A2 l2.length c2,.bool true] w fun e w'=> ∃J',e=.returned (.tuple #[ssV A2 l2.length c2 J' 0 0 pol,.string ⟨(qa9 l2++[10]).toArray⟩])∧Below w.heap.size w w':=by
 have hg0:=zha w (ssC A n c J m d pol);have hr0:=zha (w.alloc (ssC A n c J m d pol)) (ssC none 0 0 none 0 0 0);have bg:=bal (Below.refl (w.alloc (ssC A n c J m d pol)).heap.size (w.alloc (ssC A n c J m d pol))) (ssC none 0 0 none 0 0 0);have hg1:=(bg.block w.heap.size (by simp)).trans hg0;have B0:=bal (bal (Below.refl w.heap.size w) (ssC A n c J m d pol)) (ssC none 0 0 none 0 0 0);have hfl:(qa9 l2).length≤510:=qe6 l2;go_enter Tryz.func82,Tryz.ntmps82;go_upto_region 1 with fail;rw[World.size_alloc] at hr0;generalize World.alloc (World.alloc w _) _=w0 at hr0 hg1 B0⊢;clear hg0 bg;replace h2:=h2.keep B0;obtain⟨g,hg⟩: ∃g,w.heap.size=g:=⟨_,rfl⟩;rw[hg] at hr0 hg1⊢;obtain⟨r,hrE⟩: ∃r,g+1=r:=⟨_,rfl⟩;rw[hrE] at hr0⊢;have hgw:w.heap.size≤r:=by omega
 have hgr:g≠r:=by omega
 have HG:=zhi hg;clear hg hrE;have hr:=hr0;have hrl:=(bl hr);clear hr0;go_upto_region 3 with fail;refine wp_region_held (S:=fun w'=>w'.heap[g]? =some (ssC A n c J m d pol)) (by kernel_rfl) ?_;change wpAnyH _ _ _ _ _ _ _ _ (World.drew _);have K0:Below w0.heap.size w0 (World.drew w0):=zdr br;have hSk: ∀{v:World},Below w0.heap.size w0 v→v.heap[g]? =some (ssC A n c J m d pol):=fun h=>bh h hg1
 generalize World.drew w0=v0 at K0⊢;have hS0:=hSk K0;refine tq 0 11 (.slice A2 l2.length c2) rfl (fun _ _=>rfl) hS0 ?_;refine tq 2 13 (.pointer (some ⟨g,2,none⟩)) rfl (fun w _=>by go_simp) hS0 ?_;refine tq 3 14 (.int .i64 pol) rfl (fun w hS=>by obtain⟨x0,x1,x2⟩:=qab hS;go_simp) hS0 ?_;refine tq 5 16 (.slice A2 l2.length c2) rfl (fun _ _=>rfl) hS0 ?_;refine wpAnyH_all (rs:=[1,6]) (by kernel_rfl) (by simp) ?_;intro j hj;simp only[List.mem_cons,List.not_mem_nil,or_false] at hj;rcases hj with rfl|rfl
 ·refine qbs 1 12 rfl (by rfl) ?_;intro K hK;go_simp
  have K1:=bal K0 (.cells #[] 60);have hS1:=hSk K1;refine hK (.slice (some ⟨v0.heap.size,0,none⟩) 0 0) _ hS1 ?_;clear hK;simp only[lsS,lsZ];obtain⟨nb,hnb⟩: ∃nb,v0.heap.size=nb:=⟨_,rfl⟩;rw[hnb];clear hnb;generalize World.alloc v0 _=v1 at K1 hS1⊢;refine tq 4 15 (.agg #[.slice A2 l2.length c2,.slice (some ⟨nb,0,none⟩) 0 0,.int .i64 pol]) rfl (fun w _=>by go_simp) hS1 ?_;refine tw 6 ?_;refine co 6 17 rfl 48 Tryz.func48 #[.slice A2 l2.length c2] (qfs A2 l2 c2 _ (h2.keep K1) (by omega)) ?_;rintro e v2 ⟨rfl,bz2⟩;have K2:=qaa K1 bz2;have hS2:=hSk K2;refine⟨_,rfl,hS2,?_⟩;simp only[lsS,lsZ];refine tq 7 18 (.string ⟨(qa9 l2++[10]).toArray⟩) rfl (fun w _=>by go_simp;rw[if_neg (by omega)];simp[qan]) hS2 ?_;refine tw 8 ?_;refine qbp 8 rfl (by rfl) ?_;intro K hK;have rN:=(K2.block r hrl).trans hr;obtain⟨z0,z1,z2⟩:=qab rN;have zf:=fun i=>zfz rN i
  go_simp
  have hSz:=hS2;rw[←heap_setCell_other _ ⟨r,0,none⟩ g (.slice A2 l2.length c2) hgr,←heap_setCell_other _ ⟨r,1,none⟩ g (.slice (some ⟨nb,0,none⟩) 0 0) hgr,←heap_setCell_other _ ⟨r,2,none⟩ g (.int .i64 pol) hgr] at hSz;refine hK _ hSz ?_;refine tq 9 7 (.string ⟨(qa9 l2++[10]).toArray⟩) rfl (fun _ _=>rfl) hSz ?_;refine wpAnyH_done (by kernel_rfl) ?_ _;go_wp2_with fail;refine bodyPost_ret (v:=.tuple #[ssV A2 l2.length c2 (some ⟨nb,0,none⟩) 0 0 pol,.string ⟨(qa9 l2++[10]).toArray⟩]) (by simp[results,Tryz.results82,go_sem,z0,z1,z2]) rfl ⟨some ⟨nb,0,none⟩,rfl,bst (bst (bst (qaa B0 K2) (p:=⟨r,0,none⟩) hgw _) (p:=⟨r,1,none⟩) hgw _) (p:=⟨r,2,none⟩) hgw _⟩
 ·refine co 6 17 rfl 48 Tryz.func48 #[.slice A2 l2.length c2] (qfs A2 l2 c2 _ (h2.keep K0) (by omega)) ?_;rintro e v1 ⟨rfl,bz1⟩;have K1:=qaa K0 bz1;have hS1:=hSk K1;refine⟨_,rfl,hS1,?_⟩;simp only[lsS,lsZ];refine tq 7 18 (.string ⟨(qa9 l2++[10]).toArray⟩) rfl (fun w _=>by go_simp;rw[if_neg (by omega)];simp[qan]) hS1 ?_;refine tw 1 ?_;refine qbs 1 12 rfl (by rfl) ?_;intro K hK;go_simp
  have K2:=bal K1 (.cells #[] 60);have hS2:=hSk K2;refine hK (.slice (some ⟨v1.heap.size,0,none⟩) 0 0) _ hS2 ?_;clear hK;simp only[lsS,lsZ];obtain⟨nb,hnb⟩: ∃nb,v1.heap.size=nb:=⟨_,rfl⟩;rw[hnb];clear hnb;generalize World.alloc v1 _=v2 at K2 hS2⊢;refine tq 4 15 (.agg #[.slice A2 l2.length c2,.slice (some ⟨nb,0,none⟩) 0 0,.int .i64 pol]) rfl (fun w _=>by go_simp) hS2 ?_;refine tw 8 ?_;refine qbp 8 rfl (by rfl) ?_;intro K hK;have rN:=(K2.block r hrl).trans hr;obtain⟨z0,z1,z2⟩:=qab rN;have zf:=fun i=>zfz rN i
  go_simp
  have hSz:=hS2;rw[←heap_setCell_other _ ⟨r,0,none⟩ g (.slice A2 l2.length c2) hgr,←heap_setCell_other _ ⟨r,1,none⟩ g (.slice (some ⟨nb,0,none⟩) 0 0) hgr,←heap_setCell_other _ ⟨r,2,none⟩ g (.int .i64 pol) hgr] at hSz;refine hK _ hSz ?_;refine tq 9 7 (.string ⟨(qa9 l2++[10]).toArray⟩) rfl (fun _ _=>rfl) hSz ?_;refine wpAnyH_done (by kernel_rfl) ?_ _;go_wp2_with fail;refine bodyPost_ret (v:=.tuple #[ssV A2 l2.length c2 (some ⟨nb,0,none⟩) 0 0 pol,.string ⟨(qa9 l2++[10]).toArray⟩]) (by simp[results,Tryz.results82,go_sem,z0,z1,z2]) rfl ⟨some ⟨nb,0,none⟩,rfl,bst (bst (bst (qaa B0 K2) (p:=⟨r,0,none⟩) hgw _) (p:=⟨r,1,none⟩) hgw _) (p:=⟨r,2,none⟩) hgw _⟩
def qit(k:Nat)(t:Tk):List UInt8:=if k=0 then qbm t else 32::qbm t
def qhm:List Tk→List (List UInt8)
 |[]=>[]
 |t::r=>qbm t::r.map (fun u=>32::qbm u)
theorem qma(l:List Tk):(qhm l).length=l.length:=by cases l<;>simp[qhm]
theorem qr0(l:List Tk)(t:Tk):qhm (l++[t])=qhm l++[qit l.length t]:=by
 cases l with
 |nil=>rfl
 |cons a r=>simp[qhm,qit]
theorem q4u(l:List Tk)(k:Nat)(hk:k<l.length):(qhm l)[k]'(by rw[qma];exact hk)=qit k l[k]:=by
 cases l with
 |nil=>simp at hk
 |cons a r=>
  cases k with
  |zero=>rfl
  |succ k=>simp[qhm,qit]
theorem qxe(r:List Tk):Lib.joinTail [59,32] (r.map qbm)=Lib.joinTail [59] (r.map (fun u=>32::qbm u)):=by
 simp[Lib.joinTail,Function.comp_def]
theorem qu5{l:List Tk}(hv: ∀t∈l,vld t=true):qrl l=Lib.join (qhm l) [59]:=by
 have e:l.map qas=l.map qbm:=List.map_congr_left (fun t ht=>qcz (hv t ht));unfold qrl;rw[e];cases l with
 |nil=>rfl
 |cons a r=>
  simp only[qhm,List.map_cons];rw[Lib.join_cons,Lib.join_cons,qxe]
theorem qzw{s:List UInt8}{l:List Tk}(h:qjb s=some l)(h0:s≠[]):qar [59] s=qhm l:=by
 obtain⟨hv,hs⟩:=ql6 h;obtain⟨h5,ha⟩:=qcs hv;rw[qu5 ha] at hs;rw[←hs];refine qk8 59 [] _ ?_ ?_
 ·intro x hx;cases l with
  |nil=>simp[qhm] at hx
  |cons a r=>
   simp only[qhm,List.mem_cons,List.mem_map] at hx;rcases hx with rfl|⟨u,_,rfl⟩
   ·exact qss 59 a (.inl rfl)
   ·intro hm;rcases List.mem_cons.1 hm with hm|hm
    ·revert hm;decide
    ·exact qss 59 u (.inl rfl) hm
 ·intro e;rw[e] at hs;exact h0 (by rw[←hs];rfl)
theorem q2i{s:List UInt8}{l:List Tk}(h:qar [59] s=qhm l)(h5:l.length≤5)(hv: ∀t∈l,vld t=true):qjb s=some l:=by
 have hb:=qfk 59 [] _ s (zlr _);rw[h,←qu5 hv] at hb;rw[←hb];exact q6q (qj0 h5 hv)
theorem q4v{s:List UInt8}(h0:s≠[])(h: ∀l,qar [59] s=qhm l→(∀t∈l,vld t=true)→l.length≤5→False):qjb s=none:=by
 cases hs:qjb s with
 |none=>rfl
 |some l=>
  obtain⟨h5,hv⟩:=qcs (ql6 hs).1;exact absurd (qzw hs h0) (fun e=>h l e hv h5)
theorem q2k{l m:List Tk}{ps:List (List UInt8)}{k:Nat}(hk:k<ps.length)(_h:ps.take k=qhm m)(hl:ps=qhm l): ∃u,u∈l∧ps[k]=qit k u:=by
 have hkl:k<l.length:=by rw[←qma,←hl];exact hk
 refine⟨l[k],List.getElem_mem hkl,?_⟩;have:=q4u l k hkl;rw[←this];simp[hl]
theorem q2l{base base2:Nat}{w w':World}{A B:ZA}{c d n:Nat}{l:List (List UInt8)}{r:List Tk}(h:OS base w A c l)(k:OT base2 w B d r)(hg:w.grownBy w' (Value.slice B n d).ownBlock):OS base w' A c l:=by
 refine World.ownsRow.kept h hg ?_;rcases h.2 with⟨hv,_⟩|⟨g,cap,cur,hv,_,hh,_⟩
 ·exact .inl (by rw[hv];rfl)
 ·refine .inr ?_;intro e;rw[hv] at e;rcases k.2 with⟨hu,_⟩|⟨g2,cap2,cur2,hu,_,hh2,_⟩
  ·injection hu with hu _ _
   rw[hu] at e;cases e
  ·injection hu with hu _ _
   rw[hu] at e;injection e with e
   simp only at e;rw[e,hh2] at hh;injection hh with hh
   injection hh with _ hh _
   revert hh
   decide
def q6u(w:World)(o:Option (List Tk))(e:Ending)(w':World):Prop:=qr9 w (o.getD []) o.isSome e w'
theorem qhy(w:World){o:Option (List Tk)}(h:o=none){A:ZA}{c:Nat}{w':World}(hO:OT w.heap.size w' A c [])(hb:Below w.heap.size w w'):q6u w o (.returned (.tuple #[.slice A 0 c,.bool false])) w':=by
 subst h;exact⟨A,c,rfl,hO,hb⟩
theorem qmb(s:List UInt8)(w:World)(hl:s.length≤1000000):
  Calls Tryz.prog 92 #[.string ⟨s.toArray⟩] w (q6u w (qjb s)):=by
 by_cases h0:s=[]
 ·subst h0;have HS:Hid (qjb []=some []):=rfl;go_enter Tryz.func92,Tryz.ntmps92;go_wp2_with fail;go_ret2;rw[HS.out];exact⟨_,0,rfl,qa7 w _ (zlr _),bal br _⟩
 have hse:s.isEmpty=false:=by simpa using h0
 have hle:=qhh 59 _ s (zlr _);have hlen:=qf6 59 s;have HN:=zhi (fun h=>q4v (s:=s) h0 h);have HBk:=zhi (fun(l:List Tk)=>q2i (s:=s) (l:=l));clear h0;go_enter Tryz.func92,Tryz.ntmps92;go_wp2_with fail;have O0:=qa7 w w.heap.size (zlr _);have b0:=bal (Below.refl w.heap.size w) (.cells #[] 58);refine(qev s 59 _ hl).mono ?_;rintro e w1 ⟨A,cap,rfl,hO,b1⟩;have O1:=qa3 O0 b1;have B1:=qaa b0 b1;clear O0 b0 b1;generalize qar [59] s=ps at*;go_wp2_with fail;go_loopg [4,6,7,8,9] ps.length (fun gg v i x8 y8 z8 wr=> ∃(k:Nat) (Ao:ZA) (co:Nat) (ts:List Tk),gg+k=ps.length∧i=.int .i64 (k:Int)∧v=.slice Ao ts.length co∧k≤6∧OT w.heap.size wr Ao co ts∧Hid (ts.length=k)∧Hid (ps.take k=qhm ts∧ ∀t∈ts,vld t=true)∧OS (w.heap.size+1) wr A cap ps∧Below w.heap.size w wr)
 case atStart=>exact⟨0,_,0,[],by omega,rfl,rfl,by omega,O1,rfl,⟨by simp[qhm],fun t ht=>by cases ht⟩,(by rw[World.size_alloc] at hO;exact hO),B1⟩
 case round=>
  clear O1;clear hO B1;obtain⟨k,Ao,co,ts,hgk,rfl,rfl,hk6,hT,hTl,hI,hO,hBw⟩:=hrel;have hsw:w.heap.size≤wr.heap.size:=hBw.size;have eB:=bal (Below.refl wr.heap.size wr) (.cells #[] 58);have oB:=qa7 wr w.heap.size hsw;have BN:=qaa hBw eB;by_cases hkl:k<ps.length∧k≤5
  ·obtain⟨hkl,hk5⟩:=hkl;have e0:decide ((k:Int)<(ps.length:Int))=true:=decide_eq_true (by omega);have e1:decide ((k:Int)≤5)=true:=decide_eq_true (by omega);have hkI:(k:Int)<(ps.length:Int):=by omega
   obtain⟨b,rfl,hbl,hc⟩:=qi4 hO (by omega);have ck:=hc k hkl;have hxl:=hle ps[k] (List.getElem_mem hkl);have HH:=zhi (fun(l:List Tk) (hl:ps=qhm l)=>q2k (l:=l) hkl hI.out.1 hl);have HTk:Hid (ps.take (k+1)=qhm ts++[ps[k]]):=by rw[Hid,List.take_succ_eq_append_getElem hkl,hI.out.1]
   have HI2:=zhi hI.out.2;have HTk2:=zhi hTl.out;clear hc hI;generalize ps[k]=x at ck hxl HH HTk;by_cases hk0:k=0
   ·have HX:Hid (∀t,qbm t=x→qit ts.length t=x):=by
     intro t ht;rw[HTk2.out,hk0];exact ht
    have HX2:Hid (∀u,qit k u=x→qbm u=x):=by
     intro u hu;rw[hk0] at hu;exact hu
    subst hk0;go_wp2_with fail;refine(qh6 x _ (by omega)).mono ?_;rcases ht:tkO x with _|t
    ·rw[show qmk (none:Option Tk)=.tuple #[.agg #[.int .i64 0,.int .i64 0,.int .i64 0,.int .i64 0,.bool false],.bool false] from rfl]
     have HF:Hid (qjb s=none):=HN.out (fun l hl hv _=>by
      obtain⟨u,hu,he⟩:=HH.out l hl;exact qi2 ht u (hv u hu) (HX2.out u he.symm))
     rintro e w2 ⟨rfl,b2⟩;have b2:=b2.trans ((bal (Below.refl w2.heap.size w2) (.cells #[.int .i64 0,.int .i64 0,.int .i64 0,.int .i64 0,.bool false] 58 (0,0))).mono b2.size);have B2:=qaa hBw b2;clear ht;go_upto_region 14 with fail;generalize World.alloc w2 _=w3 at b2 B2⊢;have oC:=qa7 w3 w.heap.size B2.size;have BC:=qaa B2 (bal (Below.refl w3.heap.size w3) (.cells #[] 58));go_wp2_with fail;go_ret2;exact qhy w HF.out oC BC
    ·rw[show qmk (some t)=.tuple #[.agg #[.int .i64 t.low,.int .i64 t.high,.int .i64 t.due,.int .i64 t.every,.bool t.crit],.bool true] from rfl];obtain⟨hvt,htx⟩:=qi1 ht
     have HV:Hid (∀u∈ts++[t],vld u=true):=by
      intro u hu;rcases List.mem_append.1 hu with hu|hu
      ·exact HI2.out u hu
      ·rw[List.mem_singleton] at hu;rw[hu];exact hvt
     have HD:Hid (ps.take (0+1)=qhm (ts++[t])):=by rw[Hid,HTk.out,qr0,HX.out t htx]
     rintro e w2 ⟨rfl,b2⟩;have t3:=zha w2 (.cells #[.int .i64 t.low,.int .i64 t.high,.int .i64 t.due,.int .i64 t.every,.bool t.crit] 58 (0,0));have b3:=bal b2 (.cells #[.int .i64 t.low,.int .i64 t.high,.int .i64 t.due,.int .i64 t.every,.bool t.crit] 58 (0,0));have hT3:=qa3 hT b3;have B3:=qaa hBw b3;have hO3:=qos hO b3;clear ht htx hvt b2 hT b3 hBw BN eB oB hsw hO;go_upto_region 14 with fail;obtain⟨g3,hg3⟩: ∃g3,w2.heap.size=g3:=⟨_,rfl⟩;rw[hg3] at t3⊢;generalize World.alloc w2 _=w3 at t3 hT3 B3 hO3⊢;clear hg3;obtain⟨t0,t1,t2,t3',t4',tf⟩:=qaf t3;have hw3:w.heap.size≤w3.heap.size:=B3.size;go_wp2_with (at_builtin;go_loud (refine qcd _ rfl _ _ rfl w.heap.size Ao ts ts.length co rfl rfl (qbf hT3 _) w3.heap.size 1 t _ 58 rfl (zha w3 _) rfl (by rw[HTk2.out];omega) (zll hw3 (by rw[World.size_alloc];exact Nat.le_succ _)) ?_);intro A4 c4 w4 o4 g4 b4)
     go_roundg (gk-1)
     case measure=>omega
     case rel=>exact⟨0+1,A4,c4,ts++[t],by omega,by go_num,by rw[List.length_append];rfl,by omega,o4,by rw[Hid,List.length_append,HTk2.out];rfl,⟨HD.out,HV.out⟩,q2l (qht hO3 _) (qbf hT3 _) g4,(bal B3 _).trans b4⟩
   ·have e2:decide ((k:Int)>0)=true:=decide_eq_true (by omega);have e3:(0:Int)<(k:Int):=by omega
    cases x with
    |nil=>
     have HF:Hid (qjb s=none):=HN.out (fun l hl _ _=>by
      obtain⟨u,_,hu⟩:=HH.out l hl;unfold qit at hu;rw[if_neg hk0] at hu;cases hu)
     clear hk0;go_wp2_with fail;go_ret2;exact qhy w HF.out oB BN
    |cons c y=>
     have hidx:=qi3 (c::y) 0 (by simp) (by rw[Go.Lib.size_eq];simp);simp only[List.getElem_cons_zero] at hidx;have hyl:(0:Int)<(y.length:Int)+1:=by omega
     by_cases hc32:c=32
     ·have e4:((c.toNat:Int) !=32)=false:=by rw[hc32];rfl
      have hcut:=qj1 (c::y) 1 (y.length+1);have hr:((c::y).drop 1).take (y.length+1-1)=y:=by simp
      rw[hr] at hcut;have h1I:(1:Int)≤(y.length:Int)+1:=by omega
      have hy:y.length≤1000000:=by simp at hxl;omega
      have HX:Hid (∀t,qbm t=y→qit ts.length t=c::y):=by
       intro t ht;unfold qit;rw[HTk2.out,if_neg hk0,ht,hc32]
      have HX2:Hid (∀u,qit k u=c::y→qbm u=y):=by
       intro u hu;unfold qit at hu;rw[if_neg hk0] at hu;injection hu
      clear hr hk0 hc32;go_wp2_with fail;refine(qh6 y _ (by omega)).mono ?_;rcases ht:tkO y with _|t
      ·rw[show qmk (none:Option Tk)=.tuple #[.agg #[.int .i64 0,.int .i64 0,.int .i64 0,.int .i64 0,.bool false],.bool false] from rfl]
       have HF:Hid (qjb s=none):=HN.out (fun l hl hv _=>by
        obtain⟨u,hu,he⟩:=HH.out l hl;exact qi2 ht u (hv u hu) (HX2.out u he.symm))
       rintro e w2 ⟨rfl,b2⟩;have b2:=b2.trans ((bal (Below.refl w2.heap.size w2) (.cells #[.int .i64 0,.int .i64 0,.int .i64 0,.int .i64 0,.bool false] 58 (0,0))).mono b2.size);have B2:=qaa hBw b2;clear ht;go_upto_region 14 with fail;generalize World.alloc w2 _=w3 at b2 B2⊢;have oC:=qa7 w3 w.heap.size B2.size;have BC:=qaa B2 (bal (Below.refl w3.heap.size w3) (.cells #[] 58));go_wp2_with fail;go_ret2;exact qhy w HF.out oC BC
      ·rw[show qmk (some t)=.tuple #[.agg #[.int .i64 t.low,.int .i64 t.high,.int .i64 t.due,.int .i64 t.every,.bool t.crit],.bool true] from rfl];obtain⟨hvt,htx⟩:=qi1 ht
       have HV:Hid (∀u∈ts++[t],vld u=true):=by
        intro u hu;rcases List.mem_append.1 hu with hu|hu
        ·exact HI2.out u hu
        ·rw[List.mem_singleton] at hu;rw[hu];exact hvt
       have HD:Hid (ps.take (k+1)=qhm (ts++[t])):=by rw[Hid,HTk.out,qr0,HX.out t htx]
       rintro e w2 ⟨rfl,b2⟩;have t3:=zha w2 (.cells #[.int .i64 t.low,.int .i64 t.high,.int .i64 t.due,.int .i64 t.every,.bool t.crit] 58 (0,0));have b3:=bal b2 (.cells #[.int .i64 t.low,.int .i64 t.high,.int .i64 t.due,.int .i64 t.every,.bool t.crit] 58 (0,0));have hT3:=qa3 hT b3;have B3:=qaa hBw b3;have hO3:=qos hO b3;clear ht htx hvt b2 hT b3 hBw BN eB oB hsw hO;go_upto_region 14 with fail;obtain⟨g3,hg3⟩: ∃g3,w2.heap.size=g3:=⟨_,rfl⟩;rw[hg3] at t3⊢;generalize World.alloc w2 _=w3 at t3 hT3 B3 hO3⊢;clear hg3;obtain⟨t0,t1,t2,t3',t4',tf⟩:=qaf t3;have hw3:w.heap.size≤w3.heap.size:=B3.size;go_wp2_with (at_builtin;go_loud (refine qcd _ rfl _ _ rfl w.heap.size Ao ts ts.length co rfl rfl (qbf hT3 _) w3.heap.size 1 t _ 58 rfl (zha w3 _) rfl (by rw[HTk2.out];omega) (zll hw3 (by rw[World.size_alloc];exact Nat.le_succ _)) ?_);intro A4 c4 w4 o4 g4 b4)
       go_roundg (gk-1)
       case measure=>omega
       case rel=>exact⟨k+1,A4,c4,ts++[t],by omega,by go_num,by rw[List.length_append];rfl,by omega,o4,by rw[Hid,List.length_append,HTk2.out];rfl,⟨HD.out,HV.out⟩,q2l (qht hO3 _) (qbf hT3 _) g4,(bal B3 _).trans b4⟩
     ·have e4:((c.toNat:Int) !=32)=true:=by
       rw[bne_iff_ne];intro e
       exact hc32 (UInt8.toNat_inj.1 (by
        have:(32:UInt8).toNat=32:=rfl;omega))
      have HF:Hid (qjb s=none):=HN.out (fun l hl _ _=>by
       obtain⟨u,_,hu⟩:=HH.out l hl;unfold qit at hu;rw[if_neg hk0] at hu;injection hu with hu
       exact hc32 hu)
      clear hk0 hc32;go_wp2_with fail;go_ret2;exact qhy w HF.out oB BN
  ·have hk5: ¬(k<ps.length)∨(k<ps.length∧ ¬k≤5):=by omega
   by_cases h6:5<ps.length
   ·have HF:Hid (qjb s=none):=HN.out (fun l hl _ h5=>by
     have:=congrArg List.length hl;rw[qma] at this;omega)
    have e5:decide ((ps.length:Int)>5)=true:=decide_eq_true (by omega);have e6:(5:Int)<(ps.length:Int):=by omega
    rcases hk5 with h|⟨h,h'⟩
    ·have e0:decide ((k:Int)<(ps.length:Int))=false:=decide_eq_false (by omega);go_wp2_with fail;go_ret2;exact qhy w HF.out oB BN
    ·have e0:decide ((k:Int)<(ps.length:Int))=true:=decide_eq_true (by omega);have e1:decide ((k:Int)≤5)=false:=decide_eq_false (by omega);go_wp2_with fail;go_ret2;exact qhy w HF.out oB BN
   ·have hkl2:k=ps.length:=by
     have:=congrArg List.length hI.out.1;rw[List.length_take,qma,hTl.out] at this;omega
    have e0:decide ((k:Int)<(ps.length:Int))=false:=decide_eq_false (by omega);have e6: ¬(5:Int)<(ps.length:Int):=by omega
    have HF:Hid (qjb s=some ts):=by
     have h1:=hI.out.1;rw[hkl2,List.take_length] at h1;exact HBk.out ts h1 (by rw[hTl.out];omega) hI.out.2
    have hkn: ¬k<ps.length:=by omega
    clear hk5 hkl hkl2;go_wp2_with fail;go_ret2;rw[HF.out];exact⟨Ao,co,rfl,hT,hBw⟩
theorem qu6(j:Jb):qar [64] (qgu j)=[num j.task,num j.at_++(58::[])++num j.need]:=by
 unfold qgu;have h2:=qcr 64 [] (num j.task) (num j.at_++(58::[])++num j.need) (qd3 64 _ (by decide));rw[h2,qdm];intro h;simp only[List.mem_append,List.mem_cons,List.not_mem_nil,or_false] at h;rcases h with(h|h)|h
 ·exact qd3 64 _ (by decide) h
 ·revert h;decide
 ·exact qd3 64 _ (by decide) h
theorem qr1(j:Jb):qar [58] (num j.at_++(58::[])++num j.need)=[num j.at_,num j.need]:=by
 have h2:=qcr 58 [] (num j.at_) (num j.need) (qd3 58 _ (by decide));rw[h2,qdm];exact qd3 58 _ (by decide)
theorem qr2{s:List UInt8}(h: ∀u,qdh u=true→qgu u=s→False):jbO s=none:=by
 cases ht:jbO s with
 |none=>rfl
 |some u=>exact absurd (ql7 ht).2 (fun e=>h u (ql7 ht).1 e)
theorem q2m{s a b c d:List UInt8}(h1:qar [64] s=[a,b])(h2:qar [58] b=[c,d])(u:Jb)(hu:qdh u=true)(hs:qgu u=s):qez a=some u.task∧qez c=some u.at_∧qez d=some u.need:=by
 obtain⟨v1,v2,v3,v4,v5,v6⟩:=(qda u).1 hu;rw[←hs,qu6] at h1;injection h1 with e1 e2
 injection e2 with e2 _
 rw[←e2,qr1] at h2;injection h2 with e3 e4
 injection e4 with e4 _
 rw[←e1,←e3,←e4];exact⟨qhv v1 (by omega),qhv v3 (by omega),qhv (by omega) (by omega)⟩
theorem q2n{n:Int}(h:0≤n):Lib.itoa n=num n:=by
 rw[Lib.itoa,if_neg (by omega)];rfl
theorem q4w{s a b c d:List UInt8}(h1:qar [64] s=[a,b])(h2:qar [58] b=[c,d]){q m n:Int}(ha:qez a=some q)(hc:qez c=some m)(hd:qez d=some n)(ht:qdh ⟨q,m,n⟩=true):jbO s=some ⟨q,m,n⟩:=by
 obtain⟨v1,v2,v3,v4,v5,v6⟩:=(qda _).1 ht;dsimp only at v1 v2 v3 v4 v5 v6;have i1:=(qoj ha).1;have i2:=(qoj hc).1;have i3:=(qoj hd).1;rw[q2n v1] at i1;rw[q2n v3] at i2;rw[q2n (by omega)] at i3;have b1:=qfk 64 [] _ s (zlr _);have b2:=qfk 58 [] _ b (zlr _);rw[h1] at b1;rw[h2] at b2
 have e:qgu ⟨q,m,n⟩=s:=by
  rw[←b1,←b2,←i1,←i2,←i3];simp[qgu,Lib.join_cons,Lib.joinTail]
 rw[←e];exact q5q ht
def JbPost(s:List UInt8)(w:World)(e:Ending)(w':World):Prop:= ∃j:Jb,e=.returned (.tuple #[j.val,.bool (jbO s).isSome])∧(∀u,jbO s=some u→j=u)∧Below w.heap.size w w'
theorem qu7(s:List UInt8)(w:World)(hl:s.length≤1000000):
  Calls Tryz.prog 155 #[.string ⟨s.toArray⟩] w (JbPost s w):=by
 have hle:=qhh 64 _ s (zlr _);have HJ:=zhi (fun(u:Jb) (h:qgu u=s)=>(by rw[←h];exact qu6 u:qar [64] s=[num u.task,num u.at_++(58::[])++num u.need]));have HP:=zhi (fun a b c d=>q2m (s:=s) (a:=a) (b:=b) (c:=c) (d:=d));have HQ:=zhi (fun a b c d q m n=>q4w (s:=s) (a:=a) (b:=b) (c:=c) (d:=d) (q:=q) (m:=m) (n:=n));go_enter Tryz.func155,Tryz.ntmps155;go_wp2_with fail;refine(qev s 64 _ hl).mono ?_;rintro e w1 ⟨A,cap,rfl,hO,b1⟩;have r1:=(b1.block _ (by simp)).trans (zha w (.cells #[.int .i64 0,.int .i64 0,.int .i64 0] 60 (0,0)));have B1:=qaa (bal (Below.refl w.heap.size w) _) b1;clear b1;obtain⟨g,hgE⟩: ∃g,w.heap.size=g:=⟨_,rfl⟩;rw[hgE] at r1⊢;have hgw:w.heap.size≤g:=by omega
 clear hgE;generalize qar [64] s=ps at*;by_cases h2:ps.length=2
 case neg=>
  have HN:Hid (jbO s=none):=qr2 (fun u _ hs=>h2 (by rw[HJ.out u hs];rfl));have e1:((ps.length:Int) !=2)=true:=by simp;omega
  obtain⟨z0,z1,z2⟩:=qab r1;have zf:=fun i=>zfz r1 i
  have HBz:=zhi (show Below w.heap.size w _ from bst (bst (bst B1 (p:=⟨g,0,none⟩) hgw (.int .i64 0)) (p:=⟨g,1,none⟩) hgw (.int .i64 0)) (p:=⟨g,2,none⟩) hgw (.int .i64 0));clear hle h2;go_wp2_with fail;refine bodyPost_ret (v:=.tuple #[Jb.val ⟨0,0,0⟩,.bool false]) (by simp[results,Tryz.results155,go_sem,z0,z1,z2]) rfl ⟨⟨0,0,0⟩,by rw[HN.out];rfl,(fun u hu=>by rw[HN.out] at hu;cases hu),HBz.out⟩
 match ps,h2 with
 |[a,b],_=>
 obtain⟨pb,rfl,hbl,hc⟩:=qi4 hO (by simp);have ca:=hc 0 (by simp);have cb:=hc 1 (by simp);simp only[List.getElem_cons_zero,List.getElem_cons_succ] at ca cb;have hal:=hle a (by simp);have hbl2:=hle b (by simp);have hle2:=qhh 58 _ b (zlr _);clear hc hle hO;go_wp2_with fail;refine(qev b 58 _ (by omega)).mono ?_;rintro e w2 ⟨A2,cap2,rfl,hO2,b2⟩;have r2:=bh b2 r1;have ca2:=(b2.cell (p:=⟨pb,0,none⟩) hbl).trans ca;have B2:=qaa B1 b2;have HP2:=zhi (fun c d h=>HP.out a b c d rfl h);have HQ2:=zhi (fun c d q m n h=>HQ.out a b c d q m n rfl h)
 have HJ2:Hid (∀u,qgu u=s→(qar [58] b).length=2):=by
  intro u hs;have:=HJ.out u hs;injection this with _ e2
  injection e2 with e2 _
  rw[e2,qr1];rfl
 have hbl3:=zlt hbl b2.size;clear b2 HP HQ HJ r1 B1 ca cb hbl;generalize qar [58] b=qs at*;by_cases h2:qs.length=2
 case neg=>
  have HN:Hid (jbO s=none):=qr2 (fun u _ hs=>h2 (HJ2.out u hs));have e1:((qs.length:Int) !=2)=true:=by simp;omega
  obtain⟨z0,z1,z2⟩:=qab r2;have zf:=fun i=>zfz r2 i
  have HBz:=zhi (show Below w.heap.size w _ from bst (bst (bst B2 (p:=⟨g,0,none⟩) hgw (.int .i64 0)) (p:=⟨g,1,none⟩) hgw (.int .i64 0)) (p:=⟨g,2,none⟩) hgw (.int .i64 0));clear hle2 h2;go_wp2_with fail;refine bodyPost_ret (v:=.tuple #[Jb.val ⟨0,0,0⟩,.bool false]) (by simp[results,Tryz.results155,go_sem,z0,z1,z2]) rfl ⟨⟨0,0,0⟩,by rw[HN.out];rfl,(fun u hu=>by rw[HN.out] at hu;cases hu),HBz.out⟩
 match qs,h2 with
 |[c,d],_=>
 obtain⟨qb,rfl,hql,hc⟩:=qi4 hO2 (by simp);have cc:=hc 0 (by simp);have cd:=hc 1 (by simp);simp only[List.getElem_cons_zero,List.getElem_cons_succ] at cc cd;have hcl:=hle2 c (by simp);have hdl:=hle2 d (by simp);have HP3:=zhi (HP2.out c d rfl);have HQ3:=zhi (fun q m n=>HQ2.out c d q m n rfl);clear hc hle2 hO2 HP2 HQ2 HJ2;go_wp2_with fail;refine(qd4 a _ (by omega)).mono ?_;rintro e w3 ⟨q,rfl,hq,b3⟩;have r3:=bh b3 r2;have cc3:=(b3.cell (p:=⟨qb,0,none⟩) hql).trans cc;have cd3:=(b3.cell (p:=⟨qb,1,none⟩) hql).trans cd;have hql3:=zlt hql b3.size;have B3:=qaa B2 b3;clear b3 r2 cc cd ca2 B2 hbl3 hql;obtain⟨o1,ho1⟩: ∃o1,(qez a).isSome=o1:=⟨_,rfl⟩;rw[ho1];have Ho1:=zhi ho1;have Hq:=zhi hq;clear ho1 hq;go_wp2_with fail;refine(qd4 c _ (by omega)).mono ?_;rintro e w4 ⟨m,rfl,hq,b4⟩;have r4:=bh b4 r3;have cd4:=(b4.cell (p:=⟨qb,1,none⟩) hql3).trans cd3;have B4:=qaa B3 b4;clear b4 r3 cc3 cd3 B3 hql3;obtain⟨o2,ho2⟩: ∃o2,(qez c).isSome=o2:=⟨_,rfl⟩;rw[ho2];have Ho2:=zhi ho2;have Hm:=zhi hq;clear ho2 hq;go_wp2_with fail;refine(qd4 d _ (by omega)).mono ?_;rintro e w5 ⟨n,rfl,hq,b5⟩;have r5:=bh b5 r4;have B5:=qaa B4 b5;clear b5 r4 cd4 B4;obtain⟨o3,ho3⟩: ∃o3,(qez d).isSome=o3:=⟨_,rfl⟩;rw[ho3];have Ho3:=zhi ho3;have Hn:=zhi hq;clear ho3 hq;have t6:=zha w5 (.cells #[.int .i64 q,.int .i64 m,.int .i64 n] 60 (0,0));have b6:=bal (Below.refl w5.heap.size w5) (.cells #[.int .i64 q,.int .i64 m,.int .i64 n] 60 (0,0));have r:=bh b6 r5;have hgt0:g<w5.heap.size:=(bl r5);have B6:=qaa B5 b6;go_upto_region 11 with fail;generalize World.alloc w5 _=w6 at t6 r B6⊢;have HX:Hid (w5.heap.size≠g):=by rw[Hid];omega
 generalize w5.heap.size=t at t6 HX⊢;have hgt:t≠g:=HX.out;clear b6 r5 hgt0 B5 hal hbl2 hcl hdl
 have HY:Hid (∀u,qdh u=true→qgu u=s→(o1&&o2&&o3)=true∧(⟨q,m,n⟩:Jb)=u):=by
  intro u hu hs;obtain⟨p1,p2,p3⟩:=HP3.out u hu hs;rw[←Ho1.out,←Ho2.out,←Ho3.out,p1,p2,p3,Hq.out _ p1,Hm.out _ p2,Hn.out _ p3];exact⟨rfl,rfl⟩
 have HZ:Hid ((o1&&o2&&o3)=true→qdh ⟨q,m,n⟩=true→jbO s=some ⟨q,m,n⟩):=by
  intro ho ht;rw[←Ho1.out,←Ho2.out,←Ho3.out] at ho;simp only[Bool.and_eq_true,Option.isSome_iff_exists] at ho;obtain⟨⟨⟨x,hx⟩,⟨y,hy⟩⟩,⟨z,hz⟩⟩:=ho;have e1:=Hq.out _ hx;have e2:=Hm.out _ hy;have e3:=Hn.out _ hz;subst e1 e2 e3;exact HQ3.out _ _ _ hx hy hz ht
 clear Ho1 Ho2 Ho3 Hq Hm Hn HP3 HQ3
 have HU2:Hid (∀u,jbO s=some u→(⟨q,m,n⟩:Jb)=u):=by
  intro u hu;obtain⟨h1,h3⟩:=ql7 hu;exact(HY.out u h1 h3).2
 cases o1 with
 |false=>
  have HR:Hid ((jbO s).isSome=false):=by
   rw[Hid,qr2 (fun u hu hs=>by have:=(HY.out u hu hs).1;cases this)];rfl
  clear HY HZ;refine wp_region_held (S:=fun w'=>w'.heap[t]? =some (.cells #[.int .i64 q,.int .i64 m,.int .i64 n] 60 (0,0))) (by kernel_rfl) ?_;change wpAnyH _ _ _ _ _ _ _ _ (World.drew _);have K0:Below w6.heap.size w6 (World.drew w6):=zdr br;have hSk: ∀{v:World},Below w6.heap.size w6 v→v.heap[t]? =some (.cells #[.int .i64 q,.int .i64 m,.int .i64 n] 60 (0,0)):=fun h=>bh h t6
  have hS0:=hSk K0;generalize World.drew w6=w7 at K0 hS0⊢;refine tq 0 52 (.agg #[.int .i64 q,.int .i64 m,.int .i64 n]) rfl (fun w hS=>by obtain⟨x0,x1,x2⟩:=qab hS;go_simp) hS0 ?_;refine tq 1 53 (.bool false) rfl (fun _ _=>rfl) hS0 ?_;refine tq 2 54 (.bool false) rfl (fun _ _=>rfl) hS0 ?_;refine tn 3 55 rfl hS0 ?_;refine tq 4 56 (.bool false) rfl (fun w _=>by go_simp) hS0 ?_;refine tq 5 57 (.bool false) rfl (fun _ _=>rfl) hS0 ?_;refine tn 6 58 rfl hS0 ?_;refine tq 7 59 (.bool false) rfl (fun w _=>by go_simp) hS0 ?_;refine tq 8 60 (.bool false) rfl (fun _ _=>rfl) hS0 ?_;refine tn 9 61 rfl hS0 ?_;refine tn 10 62 rfl hS0 ?_;refine tq 11 63 (.bool false) rfl (fun w _=>by go_simp) hS0 ?_;have r0':=bh K0 r;refine tw 12 ?_;refine qbp 12 rfl (by rfl) ?_;intro K hK;obtain⟨z0,z1,z2⟩:=qab r0';have zf:=fun i=>zfz r0' i
  go_simp
  have hSz:=hS0;rw[←heap_setCell_other _ ⟨g,0,none⟩ t (.int .i64 q) hgt,←heap_setCell_other _ ⟨g,1,none⟩ t (.int .i64 m) hgt,←heap_setCell_other _ ⟨g,2,none⟩ t (.int .i64 n) hgt] at hSz;refine hK _ hSz ?_;refine tq 13 3 (.bool (false)) rfl (fun _ _=>rfl) hSz ?_;refine wpAnyH_done (by kernel_rfl) ?_ _;go_wp2_with fail;refine bodyPost_ret (v:=.tuple #[Jb.val ⟨q,m,n⟩,.bool (false)]) (by simp[results,Tryz.results155,go_sem,z0,z1,z2]) rfl ⟨⟨q,m,n⟩,by rw[HR.out],HU2.out,bst (bst (bst (qaa B6 K0) (p:=⟨g,0,none⟩) hgw _) (p:=⟨g,1,none⟩) hgw _) (p:=⟨g,2,none⟩) hgw _⟩
 |true=>
  cases o2 with
  |false=>
   have HR:Hid ((jbO s).isSome=false):=by
    rw[Hid,qr2 (fun u hu hs=>by have:=(HY.out u hu hs).1;cases this)];rfl
   clear HY HZ;refine wp_region_held (S:=fun w'=>w'.heap[t]? =some (.cells #[.int .i64 q,.int .i64 m,.int .i64 n] 60 (0,0))) (by kernel_rfl) ?_;change wpAnyH _ _ _ _ _ _ _ _ (World.drew _);have K0:Below w6.heap.size w6 (World.drew w6):=zdr br;have hSk: ∀{v:World},Below w6.heap.size w6 v→v.heap[t]? =some (.cells #[.int .i64 q,.int .i64 m,.int .i64 n] 60 (0,0)):=fun h=>bh h t6
   have hS0:=hSk K0;generalize World.drew w6=w7 at K0 hS0⊢;refine tq 0 52 (.agg #[.int .i64 q,.int .i64 m,.int .i64 n]) rfl (fun w hS=>by obtain⟨x0,x1,x2⟩:=qab hS;go_simp) hS0 ?_;refine tq 1 53 (.bool true) rfl (fun _ _=>rfl) hS0 ?_;refine tq 2 54 (.bool true) rfl (fun _ _=>rfl) hS0 ?_;refine tq 3 55 (.bool false) rfl (fun _ _=>rfl) hS0 ?_;refine tq 4 56 (.bool false) rfl (fun w _=>by go_simp) hS0 ?_;refine tq 5 57 (.bool false) rfl (fun _ _=>rfl) hS0 ?_;refine tn 6 58 rfl hS0 ?_;refine tq 7 59 (.bool false) rfl (fun w _=>by go_simp) hS0 ?_;refine tq 8 60 (.bool false) rfl (fun _ _=>rfl) hS0 ?_;refine tn 9 61 rfl hS0 ?_;refine tn 10 62 rfl hS0 ?_;refine tq 11 63 (.bool false) rfl (fun w _=>by go_simp) hS0 ?_;have r0':=bh K0 r;refine tw 12 ?_;refine qbp 12 rfl (by rfl) ?_;intro K hK;obtain⟨z0,z1,z2⟩:=qab r0';have zf:=fun i=>zfz r0' i
   go_simp
   have hSz:=hS0;rw[←heap_setCell_other _ ⟨g,0,none⟩ t (.int .i64 q) hgt,←heap_setCell_other _ ⟨g,1,none⟩ t (.int .i64 m) hgt,←heap_setCell_other _ ⟨g,2,none⟩ t (.int .i64 n) hgt] at hSz;refine hK _ hSz ?_;refine tq 13 3 (.bool (false)) rfl (fun _ _=>rfl) hSz ?_;refine wpAnyH_done (by kernel_rfl) ?_ _;go_wp2_with fail;refine bodyPost_ret (v:=.tuple #[Jb.val ⟨q,m,n⟩,.bool (false)]) (by simp[results,Tryz.results155,go_sem,z0,z1,z2]) rfl ⟨⟨q,m,n⟩,by rw[HR.out],HU2.out,bst (bst (bst (qaa B6 K0) (p:=⟨g,0,none⟩) hgw _) (p:=⟨g,1,none⟩) hgw _) (p:=⟨g,2,none⟩) hgw _⟩
  |true=>
   cases o3 with
   |false=>
    have HR:Hid ((jbO s).isSome=false):=by
     rw[Hid,qr2 (fun u hu hs=>by have:=(HY.out u hu hs).1;cases this)];rfl
    clear HY HZ;refine wp_region_held (S:=fun w'=>w'.heap[t]? =some (.cells #[.int .i64 q,.int .i64 m,.int .i64 n] 60 (0,0))) (by kernel_rfl) ?_;change wpAnyH _ _ _ _ _ _ _ _ (World.drew _);have K0:Below w6.heap.size w6 (World.drew w6):=zdr br;have hSk: ∀{v:World},Below w6.heap.size w6 v→v.heap[t]? =some (.cells #[.int .i64 q,.int .i64 m,.int .i64 n] 60 (0,0)):=fun h=>bh h t6
    have hS0:=hSk K0;generalize World.drew w6=w7 at K0 hS0⊢;refine tq 0 52 (.agg #[.int .i64 q,.int .i64 m,.int .i64 n]) rfl (fun w hS=>by obtain⟨x0,x1,x2⟩:=qab hS;go_simp) hS0 ?_;refine tq 1 53 (.bool true) rfl (fun _ _=>rfl) hS0 ?_;refine tq 2 54 (.bool true) rfl (fun _ _=>rfl) hS0 ?_;refine tq 3 55 (.bool true) rfl (fun _ _=>rfl) hS0 ?_;refine tq 4 56 (.bool true) rfl (fun w _=>by go_simp) hS0 ?_;refine tq 5 57 (.bool true) rfl (fun _ _=>rfl) hS0 ?_;refine tq 6 58 (.bool false) rfl (fun _ _=>rfl) hS0 ?_;refine tq 7 59 (.bool false) rfl (fun w _=>by go_simp) hS0 ?_;refine tq 8 60 (.bool false) rfl (fun _ _=>rfl) hS0 ?_;refine tn 9 61 rfl hS0 ?_;refine tn 10 62 rfl hS0 ?_;refine tq 11 63 (.bool false) rfl (fun w _=>by go_simp) hS0 ?_;have r0':=bh K0 r;refine tw 12 ?_;refine qbp 12 rfl (by rfl) ?_;intro K hK;obtain⟨z0,z1,z2⟩:=qab r0';have zf:=fun i=>zfz r0' i
    go_simp
    have hSz:=hS0;rw[←heap_setCell_other _ ⟨g,0,none⟩ t (.int .i64 q) hgt,←heap_setCell_other _ ⟨g,1,none⟩ t (.int .i64 m) hgt,←heap_setCell_other _ ⟨g,2,none⟩ t (.int .i64 n) hgt] at hSz;refine hK _ hSz ?_;refine tq 13 3 (.bool (false)) rfl (fun _ _=>rfl) hSz ?_;refine wpAnyH_done (by kernel_rfl) ?_ _;go_wp2_with fail;refine bodyPost_ret (v:=.tuple #[Jb.val ⟨q,m,n⟩,.bool (false)]) (by simp[results,Tryz.results155,go_sem,z0,z1,z2]) rfl ⟨⟨q,m,n⟩,by rw[HR.out],HU2.out,bst (bst (bst (qaa B6 K0) (p:=⟨g,0,none⟩) hgw _) (p:=⟨g,1,none⟩) hgw _) (p:=⟨g,2,none⟩) hgw _⟩
   |true=>
    have HR:Hid ((jbO s).isSome=qdh ⟨q,m,n⟩):=by
     cases ht:qdh ⟨q,m,n⟩ with
     |true=>rw[Hid,HZ.out rfl ht];rfl
     |false=>
      rw[Hid,qr2 (fun u hu hs=>by have:=(HY.out u hu hs).2;subst this;rw[ht] at hu;cases hu)];rfl
    clear HY HZ;refine wp_region_held (S:=fun w'=>w'.heap[t]? =some (.cells #[.int .i64 q,.int .i64 m,.int .i64 n] 60 (0,0))) (by kernel_rfl) ?_;change wpAnyH _ _ _ _ _ _ _ _ (World.drew _);have K0:Below w6.heap.size w6 (World.drew w6):=zdr br;have hSk: ∀{v:World},Below w6.heap.size w6 v→v.heap[t]? =some (.cells #[.int .i64 q,.int .i64 m,.int .i64 n] 60 (0,0)):=fun h=>bh h t6
    have hS0:=hSk K0;generalize World.drew w6=w7 at K0 hS0⊢;refine tq 0 52 (.agg #[.int .i64 q,.int .i64 m,.int .i64 n]) rfl (fun w hS=>by obtain⟨x0,x1,x2⟩:=qab hS;go_simp) hS0 ?_;refine tq 1 53 (.bool true) rfl (fun _ _=>rfl) hS0 ?_;refine tq 2 54 (.bool true) rfl (fun _ _=>rfl) hS0 ?_;refine tq 3 55 (.bool true) rfl (fun _ _=>rfl) hS0 ?_;refine tq 4 56 (.bool true) rfl (fun w _=>by go_simp) hS0 ?_;refine tq 5 57 (.bool true) rfl (fun _ _=>rfl) hS0 ?_;refine tq 6 58 (.bool true) rfl (fun _ _=>rfl) hS0 ?_;refine tq 7 59 (.bool true) rfl (fun w _=>by go_simp) hS0 ?_;refine tq 8 60 (.bool true) rfl (fun _ _=>rfl) hS0 ?_;refine tq 9 61 (.agg #[.int .i64 q,.int .i64 m,.int .i64 n]) rfl (fun w hS=>by obtain⟨x0,x1,x2⟩:=qab hS;go_simp) hS0 ?_;refine ch 10 62 rfl 145 Tryz.func145 #[(⟨q,m,n⟩:Jb).val] (qo6 ⟨q,m,n⟩ _) ?_;rintro e v1 ⟨rfl,bz1⟩;have K1:=qaa K0 bz1;have hS1:=hSk K1;refine⟨_,rfl,hS1,?_⟩;simp only[lsS,lsZ];refine tq 11 63 (.bool (qdh ⟨q,m,n⟩)) rfl (fun w _=>by go_simp) hS1 ?_;have r1':=bh K1 r;refine tw 12 ?_;refine qbp 12 rfl (by rfl) ?_;intro K hK;obtain⟨z0,z1,z2⟩:=qab r1';have zf:=fun i=>zfz r1' i
    go_simp
    have hSz:=hS1;rw[←heap_setCell_other _ ⟨g,0,none⟩ t (.int .i64 q) hgt,←heap_setCell_other _ ⟨g,1,none⟩ t (.int .i64 m) hgt,←heap_setCell_other _ ⟨g,2,none⟩ t (.int .i64 n) hgt] at hSz;refine hK _ hSz ?_;refine tq 13 3 (.bool (qdh ⟨q,m,n⟩)) rfl (fun _ _=>rfl) hSz ?_;refine wpAnyH_done (by kernel_rfl) ?_ _;go_wp2_with fail;refine bodyPost_ret (v:=.tuple #[Jb.val ⟨q,m,n⟩,.bool (qdh ⟨q,m,n⟩)]) (by simp[results,Tryz.results155,go_sem,z0,z1,z2]) rfl ⟨⟨q,m,n⟩,by rw[HR.out],HU2.out,bst (bst (bst (qaa B6 K1) (p:=⟨g,0,none⟩) hgw _) (p:=⟨g,1,none⟩) hgw _) (p:=⟨g,2,none⟩) hgw _⟩
theorem q4x{base base2:Nat}{w w':World}{A B:ZA}{c d n:Nat}{l:List (List UInt8)}{r:List Jb}(h:OS base w A c l)(k:OJ base2 w B d r)(hg:w.grownBy w' (Value.slice B n d).ownBlock):OS base w' A c l:=by
 refine World.ownsRow.kept h hg ?_;rcases h.2 with⟨hv,_⟩|⟨g,cap,cur,hv,_,hh,_⟩
 ·exact .inl (by rw[hv];rfl)
 ·refine .inr ?_;intro e;rw[hv] at e;rcases k.2 with⟨hu,_⟩|⟨g2,cap2,cur2,hu,_,hh2,_⟩
  ·injection hu with hu _ _
   rw[hu] at e;cases e
  ·injection hu with hu _ _
   rw[hu] at e;injection e with e
   simp only at e;rw[e,hh2] at hh;injection hh with hh
   injection hh with _ hh _
   revert hh
   decide
theorem q2o{s:List UInt8}{l:List Jb}(h0:s≠[])(hl:(qar [32] s).length≤60)(h:qlk jbO (qar [32] s)=some l):qfa s=some l∧qbc l=s:=by
 have h1:qfa s=some l:=by
  unfold qfa;rw[if_neg h0,if_pos hl];exact h
 obtain⟨h2,h3⟩:=qkf h1;exact⟨h1,by rw[qbc,if_pos h2,h3]⟩
theorem q2p{s:List UInt8}(h0:s≠[])(h:qlk jbO (qar [32] s)=none):qfa s=none:=by
 unfold qfa;rw[if_neg h0,h];split<;>rfl
theorem q2q{α:Type}{f:List UInt8→Option α}{ps:List (List UInt8)}{k:Nat}(hk:k<ps.length)(h:f ps[k]=none):qlk f ps=none:=by
 have e:ps=(ps.take k++[ps[k]])++ps.drop (k+1):=by simp
 rw[e];refine q4g ?_;rw[qu0,h];cases qlk f (ps.take k)<;>rfl
theorem qu8{α:Type}{f:List UInt8→Option α}{ps:List (List UInt8)}{k:Nat}(hk:k<ps.length){l:List α}{a:α}(hl:qlk f (ps.take k)=some l)(h:f ps[k]=some a):qlk f (ps.take (k+1))=some (l++[a]):=by
 rw[List.take_succ_eq_append_getElem hk,qu0,hl,h]
def prJs(w:World)(o:Option (List Jb))(e:Ending)(w':World):Prop:=q3l w (o.getD []) o.isSome e w'
theorem qxf(w:World){o:Option (List Jb)}(h:o=none){A:ZA}{c:Nat}{w':World}(hO:OJ w.heap.size w' A c [])(hb:Below w.heap.size w w'):prJs w o (.returned (.tuple #[.slice A 0 c,.bool false])) w':=by
 subst h;exact⟨A,c,rfl,hO,hb⟩
theorem qkr(s:List UInt8)(w:World)(hl:s.length≤1000000):
  Calls Tryz.prog 95 #[.string ⟨s.toArray⟩] w (prJs w (qfa s)):=by
 by_cases h0:s=[]
 ·subst h0;have HS:Hid (qfa []=some []):=rfl;go_enter Tryz.func95,Tryz.ntmps95;go_wp2_with fail;go_ret2;rw[HS.out];exact⟨_,0,rfl,qei w _ (zlr _),bal br _⟩
 have hse:s.isEmpty=false:=by simpa using h0
 have hle:=qhh 32 _ s (zlr _);have hlen:=qf6 32 s;have HN:=zhi (q2p (s:=s) h0)
 have HN60:Hid (¬(qar [32] s).length≤60→qfa s=none):=by
  intro h;unfold qfa;rw[if_neg h0,if_neg h]
 have HE:=zhi (fun l=>q2o (s:=s) (l:=l) h0);clear h0;go_enter Tryz.func95,Tryz.ntmps95;go_wp2_with fail;have O0:=qei w w.heap.size (zlr _);have b0:=bal (Below.refl w.heap.size w) (.cells #[] 60);refine(qev s 32 _ hl).mono ?_;rintro e w1 ⟨A,cap,rfl,hO,b1⟩;have O1:=qe4 O0 b1;have B1:=qaa b0 b1;clear O0 b0 b1;rw[World.size_alloc] at hO;generalize qar [32] s=ps at*;by_cases h60:ps.length≤60
 case neg=>
  have HF:=zhi (HN60.out h60);have e1:decide ((ps.length:Int)>60)=true:=decide_eq_true (by omega);have e2:(60:Int)<(ps.length:Int):=by omega
  clear h60;go_wp2_with fail;go_ret2;exact qxf w HF.out O1 B1
 have e1:decide ((ps.length:Int)>60)=false:=decide_eq_false (by omega);have e2: ¬(60:Int)<(ps.length:Int):=by omega
 go_wp2_with fail;go_loopg [4,6,7,8] ps.length (fun gg v i x7 x8 wr=> ∃(k:Nat) (Ao:ZA) (co:Nat) (ts:List Jb),gg+k=ps.length∧i=.int .i64 (k:Int)∧v=.slice Ao ts.length co∧k≤ps.length∧OJ w.heap.size wr Ao co ts∧Hid (ts.length=k)∧Hid (qlk jbO (ps.take k)=some ts)∧OS (w.heap.size+1) wr A cap ps∧Below w.heap.size w wr)
 case atStart=>exact⟨0,_,0,[],by omega,rfl,rfl,by omega,O1,rfl,rfl,hO,B1⟩
 case round=>
  clear O1 hO B1;obtain⟨k,Ao,co,ts,hgk,rfl,rfl,hk6,hT,hTl,hI,hO,hBw⟩:=hrel;have hsw:w.heap.size≤wr.heap.size:=hBw.size;by_cases hkl:k<ps.length
  ·have e0:decide ((k:Int)<(ps.length:Int))=true:=decide_eq_true (by omega);have hkI:(k:Int)<(ps.length:Int):=by omega
   obtain⟨b,rfl,hbl,hc⟩:=qi4 hO (by omega);have ck:=hc k hkl;have hxl:=hle ps[k] (List.getElem_mem hkl);have HA:=zhi (fun h=>q2q (f:=jbO) hkl h);have HB:=zhi (fun a=>qu8 (f:=jbO) (a:=a) hkl hI.out);clear hc hI;generalize ps[k]=x at ck hxl HA HB;have HTk2:=zhi hTl.out;have hTl2:ts.length≤60:=by rw[hTl.out];omega
   clear hTl;go_wp2_with fail;refine(qu7 x _ (by omega)).mono ?_;cases hj:jbO x with
   |none=>
    have HF:=zhi (HN.out (HA.out hj));rintro e w2 ⟨j,rfl,_,b2⟩;rw[hj];have b2:=b2.trans ((bal (Below.refl w2.heap.size w2) (.cells #[.int .i64 j.task,.int .i64 j.at_,.int .i64 j.need] 60 (0,0))).mono b2.size);have B2:=qaa hBw b2;clear hj;go_upto_region 11 with fail;generalize World.alloc w2 _=w3 at b2 B2⊢;have oC:=qei w3 w.heap.size B2.size;have BC:=qaa B2 (bal (Below.refl w3.heap.size w3) (.cells #[] 60));go_wp2_with fail;go_ret2;exact qxf w HF.out oC BC
   |some t=>
    have HD:=zhi (HB.out t hj);rintro e w2 ⟨j,rfl,hjt,b2⟩;rw[hj];obtain rfl:=hjt t hj;have t3:=zha w2 (.cells #[.int .i64 j.task,.int .i64 j.at_,.int .i64 j.need] 60 (0,0));have b3:=bal b2 (.cells #[.int .i64 j.task,.int .i64 j.at_,.int .i64 j.need] 60 (0,0));have hT3:=qe4 hT b3;have B3:=qaa hBw b3;have hO3:=qos hO b3;clear hj hjt b2 hT b3 hBw hsw hO HA HB HE HN HN60;go_upto_region 11 with fail;obtain⟨g3,hg3⟩: ∃g3,w2.heap.size=g3:=⟨_,rfl⟩;rw[hg3] at t3⊢;generalize World.alloc w2 _=w3 at t3 hT3 B3 hO3⊢;clear hg3;obtain⟨t0,t1,t2⟩:=qab t3;have hw3:w.heap.size≤w3.heap.size:=B3.size;go_wp2_with (at_builtin;go_loud (refine qcy _ rfl _ _ rfl w.heap.size Ao ts ts.length co rfl rfl (qcn hT3 _) w3.heap.size 1 j _ 60 rfl (zha w3 _) rfl (by omega) (zll hw3 (by rw[World.size_alloc];exact Nat.le_succ _)) ?_);intro A4 c4 w4 o4 g4 b4)
    go_roundg (gk-1)
    case measure=>omega
    case rel=>exact⟨k+1,A4,c4,ts++[j],by omega,by go_num,by rw[List.length_append];rfl,by omega,o4,by rw[Hid,List.length_append,HTk2.out];rfl,HD.out,q4x (qht hO3 _) (qcn hT3 _) g4,(bal B3 _).trans b4⟩
  ·obtain rfl:k=ps.length:=by omega
   have e0:decide ((ps.length:Int)<(ps.length:Int))=false:=decide_eq_false (by omega);have hI2:=hI.out;rw[List.take_length] at hI2;obtain⟨hJo,hFm⟩:=HE.out ts h60 hI2;have HJo:=zhi hJo;have HT2:=zhi hTl.out;have hts:ts.length≤60:=by rw[hTl.out];exact h60
   clear hI hI2 hJo HE HN HN60 hTl;go_wp2_with fail;refine(qj2 Ao ts co _ hT.js (by omega)).mono ?_;rintro e w2 ⟨rfl,b2⟩;rw[hFm];have hq:((ByteArray.mk s.toArray).toList==(ByteArray.mk s.toArray).toList)=true:=beq_self_eq_true _;clear hFm;go_wp2_with fail;go_ret2;rw[HJo.out];exact⟨Ao,co,rfl,qe4 hT b2,qaa hBw b2⟩
def qdd(q:Ss×List UInt8)(w:World)(e:Ending)(w':World):Prop:= ∃A c J d,e=.returned (.tuple #[ssV A q.1.l.length c J q.1.js.length d q.1.pol,.string ⟨q.2.toArray⟩])∧((A=none→c=0)∧q.1.l.length≤c)∧TS w' A q.1.l∧JS w' J q.1.js∧Below w.heap.size w w'
theorem qr3{base:Nat}{w:World}{A:ZA}{c:Nat}{l:List Tk}(h:OT base w A c l):(A=none→c=0)∧l.length≤c:=by
 refine⟨?_,(qao h).1⟩;intro hA;subst hA;rcases h.2 with⟨hv,_⟩|⟨g,cap,cur,hv,_⟩
 ·injection hv
 ·injection hv with hv _ _
  cases hv
theorem qph(w:World)(J:ZA):JS w J []:=fun h=>by simp at h
theorem qn4(s:Ss)(A:ZA)(c:Nat)(J:ZA)(d:Nat)(t:List UInt8)(w:World)(h:TS w A s.l)(g:JS w J s.js)(hl:t.length≤1000000)(hA:(A=none→c=0)∧s.l.length≤c):
  Calls Tryz.prog 47 #[ssV A s.l.length c J s.js.length d s.pol,.string ⟨([116,97,115,107,115]:List UInt8).toArray⟩,.string ⟨t.toArray⟩] w (qdd (((qjb t).map (fun l=>qew s l)).getD (s,qef)) w):=by
 have HA:=zhi hA;clear hA;obtain⟨gb,r,hgb,hrE,hr0,hg1,B0,hgw,hgw0,hgr⟩:=qo7 w (ssC A s.l.length c J s.js.length d s.pol) (ssC none 0 0 none 0 0 0);go_enter Tryz.func47,Tryz.ntmps47;go_upto_region 1 with fail;generalize World.alloc (World.alloc w _) _=w0 at hr0 hg1 B0⊢;try simp only[hgb,hrE]
 clear hgb hrE;go_wp2_with fail;cases ho:qjb t with
 |none=>
  have HE:Hid (((qjb t).map (fun l=>qew s l)).getD (s,qef)=(s,qef)):=by rw[Hid,ho];rfl
  have K:=qmb t w0 hl;rw[ho] at K;refine K.mono ?_;rintro e w1 ⟨A2,c2,rfl,o2,b2⟩;have rN:=bh b2 hr0;have gN:=bh b2 hg1;have B1:=qaa B0 b2;obtain⟨x0,x1,x2⟩:=qab gN;obtain⟨z0,z1,z2⟩:=qab rN;have zf:=fun i=>zfz rN i
  clear K ho;have BF:=bst (bst (bst B1 (p:=⟨r,0,none⟩) hgw (.slice A s.l.length c)) (p:=⟨r,1,none⟩) hgw (.slice J s.js.length d)) (p:=⟨r,2,none⟩) hgw (.int .i64 s.pol);have hF:=h.keep BF;have gF:=g.keep BF;go_wp2_with fail;refine bodyPost_ret (v:=.tuple #[ssV A s.l.length c J s.js.length d s.pol,.string ⟨qef.toArray⟩]) (by simp[results,Tryz.results47,go_sem,z0,z1,z2];rfl) rfl (by rw[HE.out];exact⟨A,c,J,d,rfl,HA.out,hF,gF,BF⟩)
 |some l2=>
  have hl5:=(qcs (ql6 ho).1).1;have HE:Hid (((qjb t).map (fun l=>qew s l)).getD (s,qef)=qew s l2):=by rw[Hid,ho];rfl
  have K:=qmb t w0 hl;rw[ho] at K;refine K.mono ?_;rintro e w1 ⟨A2,c2,rfl,o2,b2⟩;have rN:=bh b2 hr0;have gN:=bh b2 hg1;have B1:=qaa B0 b2;obtain⟨x0,x1,x2⟩:=qab gN;clear K ho;go_wp2_with fail;refine(qcl A s.l.length c J s.js.length d s.pol A2 l2 c2 _ o2.ts (by omega)).mono ?_;rintro e w2 ⟨J',rfl,b3⟩;have rM:=bh b3 rN;have B2:=qaa B1 b3;have O3:=qa3 o2 b3;have HC:=zhi (qr3 O3);obtain⟨z0,z1,z2⟩:=qab rM;have zf:=fun i=>zfz rM i
  clear x0 x1 x2;have BF:=bst (bst (bst B2 (p:=⟨r,0,none⟩) hgw (.slice A2 l2.length c2)) (p:=⟨r,1,none⟩) hgw (.slice J' 0 0)) (p:=⟨r,2,none⟩) hgw (.int .i64 s.pol)
  have hlt: ∀(x y z:Value),TS (((w2.setCell ⟨r,0,none⟩ x).setCell ⟨r,1,none⟩ y).setCell ⟨r,2,none⟩ z) A2 l2:=by
   intro x y z hl0;obtain⟨bb,off,hA,hlt,hc⟩:=O3.ts hl0;have hb0:=qf8 O3 hl0;obtain⟨bb',hA',hge,_⟩:=hb0;rw[hA] at hA';injection hA' with hA'
   injection hA' with hA' _ _
   have hrw:=(bl hr0);refine⟨bb,off,hA,by simpa using hlt,fun j u hu=>?_⟩;have hne:bb≠r:=by omega
   have:=hc j u hu;rw[World.cell?_of_block (w:=w2) (a:=⟨bb,off+j,none⟩) (by rw[heap_setCell_other _ _ _ _ hne,heap_setCell_other _ _ _ _ hne,heap_setCell_other _ _ _ _ hne])];exact this
  have hT:=hlt (.slice A2 l2.length c2) (.slice J' 0 0) (.int .i64 s.pol);clear hlt;go_wp2_with fail;refine bodyPost_ret (v:=.tuple #[ssV A2 l2.length c2 J' 0 0 s.pol,.string ⟨(qa9 l2++[10]).toArray⟩]) (by simp[results,Tryz.results47,go_sem,z0,z1,z2]) rfl (by rw[HE.out];exact⟨A2,c2,J',0,rfl,HC.out,hT,qph _ _,BF⟩)
def qu9(s:Ss)(t:List UInt8):Option (List Jb):=match qfa t with|some js=>if qa6 s.l js then some js else none|none=>none
theorem qxg{base:Nat}{w w':World}{A:ZA}{c:Nat}{l:List Jb}(O:OJ base w A c l)(hs:w.heap.size≤w'.heap.size)(hb: ∀b,base≤b→w'.heap[b]? =w.heap[b]?):JS w' A l:=by
 intro hl0;obtain⟨bb,off,hA,hlt,hc⟩:=O.js hl0
 have hge:base≤bb:=by
  rcases O.2 with⟨_,h0⟩|⟨g,cap,cur,hv,hg,hh,_⟩
  ·omega
  ·injection hv with hv _ _
   rw[hA] at hv;injection hv with hv
   injection hv with hv _ _
   omega
 refine⟨bb,off,hA,by omega,fun j u hu=>?_⟩;have:=hc j u hu;rw[World.cell?_of_block (w:=w) (a:=⟨bb,off+j,none⟩) (hb bb hge)];exact this
theorem qpi(s:Ss)(A:ZA)(c:Nat)(J:ZA)(d:Nat)(t:List UInt8)(w:World)(h:TS w A s.l)(g:JS w J s.js)(hl:t.length≤1000000)(hlm:s.l.length≤5)(hA:(A=none→c=0)∧s.l.length≤c):
  Calls Tryz.prog 47 #[ssV A s.l.length c J s.js.length d s.pol,.string ⟨([106,111,98,115]:List UInt8).toArray⟩,.string ⟨t.toArray⟩] w (qdd (qqm s (qu9 s t)) w):=by
 have HA:=zhi hA;clear hA;obtain⟨gb,r,hgb,hrE,hr0,hg1,B0,hgw,hgw0,hgr⟩:=qo7 w (ssC A s.l.length c J s.js.length d s.pol) (ssC none 0 0 none 0 0 0);go_enter Tryz.func47,Tryz.ntmps47;go_upto_region 1 with fail;generalize World.alloc (World.alloc w _) _=w0 at hr0 hg1 B0⊢;try simp only[hgb,hrE]
 clear hgb hrE;go_wp2_with fail;cases ho:qfa t with
 |none=>
  have HE:Hid (qqm s (qu9 s t)=(s,qef)):=by rw[Hid,qu9,ho];rfl
  have K:=qkr t w0 hl;rw[ho] at K;refine K.mono ?_;rintro e w1 ⟨A2,c2,rfl,o2,b2⟩;have rN:=bh b2 hr0;have gN:=bh b2 hg1;have B1:=qaa B0 b2;obtain⟨x0,x1,x2⟩:=qab gN;obtain⟨z0,z1,z2⟩:=qab rN;have zf:=fun i=>zfz rN i
  clear K ho;have BF:=bst (bst (bst B1 (p:=⟨r,0,none⟩) hgw (.slice A s.l.length c)) (p:=⟨r,1,none⟩) hgw (.slice J s.js.length d)) (p:=⟨r,2,none⟩) hgw (.int .i64 s.pol);have hF:=h.keep BF;have gF:=g.keep BF;go_wp2_with fail;refine bodyPost_ret (v:=.tuple #[ssV A s.l.length c J s.js.length d s.pol,.string ⟨qef.toArray⟩]) (by simp[results,Tryz.results47,go_sem,z0,z1,z2];rfl) rfl (by rw[HE.out];exact⟨A,c,J,d,rfl,HA.out,hF,gF,BF⟩)
 |some js=>
  have h60:=(qfv (qkf ho).1).1;have HO:=zhi ho;have K:=qkr t w0 hl;rw[ho] at K;refine K.mono ?_;rintro e w1 ⟨A2,c2,rfl,o2,b2⟩;have rN:=bh b2 hr0;have gN:=bh b2 hg1;have B1:=qaa B0 b2;obtain⟨x0,x1,x2⟩:=qab gN;clear K ho;go_wp2_with fail;refine(qft A s.l c A2 js c2 _ (h.keep B1) o2.js (by unfold maxLen;omega) (by unfold maxLen;omega)).mono ?_;cases hv:qa6 s.l js with
  |false=>
   have HE:Hid (qqm s (qu9 s t)=(s,qef)):=by rw[Hid,qu9,HO.out];simp[hv,qqm]
   rintro e w2 ⟨rfl,b3⟩;have rM:=bh b3 rN;have gM:=bh b3 gN;have B2:=qaa B1 b3;clear x0 x1 x2 hv;obtain⟨x0,x1,x2⟩:=qab gM;obtain⟨z0,z1,z2⟩:=qab rM;have zf:=fun i=>zfz rM i
   have BF:=bst (bst (bst B2 (p:=⟨r,0,none⟩) hgw (.slice A s.l.length c)) (p:=⟨r,1,none⟩) hgw (.slice J s.js.length d)) (p:=⟨r,2,none⟩) hgw (.int .i64 s.pol);have hF:=h.keep BF;have gF:=g.keep BF;go_wp2_with fail;refine bodyPost_ret (v:=.tuple #[ssV A s.l.length c J s.js.length d s.pol,.string ⟨qef.toArray⟩]) (by simp[results,Tryz.results47,go_sem,z0,z1,z2];rfl) rfl (by rw[HE.out];exact⟨A,c,J,d,rfl,HA.out,hF,gF,BF⟩)
  |true=>
   have HE:Hid (qqm s (qu9 s t)=(⟨s.l,js,s.pol⟩,okT)):=by rw[Hid,qu9,HO.out];simp[hv,qqm]
   rintro e w2 ⟨rfl,b3⟩;have rM:=bh b3 rN;have gM:=bh b3 gN;have B2:=qaa B1 b3;have O3:=qe4 o2 b3;have hr1:=(bl hr0);have hg1':=(bl hg1);clear x0 x1 x2 hv;obtain⟨x0,x1,x2⟩:=qab gM;have xf:=fun i=>zfz gM i
   have gS:(w2.setCell ⟨gb,1,none⟩ (.slice A2 js.length c2)).heap[gb]? =some (ssC A s.l.length c A2 js.length c2 s.pol):=qc5 gM (i:=1) _;have rS:(w2.setCell ⟨gb,1,none⟩ (.slice A2 js.length c2)).heap[r]? =some (ssC none 0 0 none 0 0 0):=by rw[heap_setCell_other _ _ _ _ hgr.symm];exact rM
   have BS:=bst B2 (p:=⟨gb,1,none⟩) hgw0 (.slice A2 js.length c2)
   have OS3:=qxg O3 (w':=(((w2.setCell ⟨gb,1,none⟩ (.slice A2 js.length c2)).setCell ⟨r,0,none⟩ (.slice A s.l.length c)).setCell ⟨r,1,none⟩ (.slice A2 js.length c2)).setCell ⟨r,2,none⟩ (.int .i64 s.pol)) (by simp) (by
    intro b hb;rw[heap_setCell_other _ _ _ _ (by show b≠r;omega),heap_setCell_other _ _ _ _ (by show b≠r;omega),heap_setCell_other _ _ _ _ (by show b≠r;omega),heap_setCell_other _ _ _ _ (by show b≠gb;omega)])
   go_upto_region 18 with fail;generalize World.setCell w2 _ _=w3 at gS rS BS OS3⊢;clear x0 x1 x2 xf;obtain⟨x0,x1,x2⟩:=qab gS;obtain⟨z0,z1,z2⟩:=qab rS;have zf:=fun i=>zfz rS i
   have BF:=bst (bst (bst BS (p:=⟨r,0,none⟩) hgw (.slice A s.l.length c)) (p:=⟨r,1,none⟩) hgw (.slice A2 js.length c2)) (p:=⟨r,2,none⟩) hgw (.int .i64 s.pol);have hF:=h.keep BF;go_wp2_with fail;refine bodyPost_ret (v:=.tuple #[ssV A s.l.length c A2 js.length c2 s.pol,.string ⟨okT.toArray⟩]) (by simp[results,Tryz.results47,go_sem,z0,z1,z2];rfl) rfl (by rw[HE.out];exact⟨A,c,A2,c2,rfl,HA.out,hF,OS3,BF⟩)
end Go.Proofs.YtmkjmancmiphfaaGreatDoor

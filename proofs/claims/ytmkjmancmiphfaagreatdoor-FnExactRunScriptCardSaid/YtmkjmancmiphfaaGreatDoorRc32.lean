/-
  The interpreter in plain Lean: what a word does, what a line does, what a text does; the output of the first lines.
  Tasks put by the reference.
  Sets of tasks read: the reference's ParseSet.
  Jobs read by the reference: a job, and jobs.
  Jobs read by the reference.
  Words of the reference with a text: tasks.
  Words of the reference with a text: admit.
  Needs raised by the reference.
  Words of the reference with a number: leave.
  Rows of tasks do not lie in a script's block.
-/
import Derived.Test.YtmkjmancmiphfaaGreatDoorRc29
import Derived.Test.YtmkjmancmiphfaaGreatDoorRc31
namespace Go.Proofs.YtmkjmancmiphfaaGreatDoor
set_option maxHeartbeats 8000000
set_option maxRecDepth 1000000
open Go.RowKit
structure Ss where
 l:List Tk
 js:List Jb
 pol:Int
def noT:List UInt8:=[110,111,10]
def okT:List UInt8:=[111,107,10]
def qcv:List UInt8:=[119,104,97,116,10]
def qf1:List UInt8:=[110,111,110,101,10]
def qdc(s:Ss)(l:List Tk):Ss×List UInt8:=(⟨l,[],s.pol⟩,Va l++[10])
def qv9(l:List Tk)(k:Nat):List UInt8:=
 num (k:Int)++((match qk7 l k with
  |some v=>[32,108,111,119,32]++num v
  |none=>[])++((match rSw l k with
  |some v=>[32,115,119,105,116,99,104,32]++num v
  |none=>[])++[10]))
def Vq(l:List Tk):Nat→List UInt8
 |0=>[]
 |k+1=>Vq l k++qv9 l k
def qj0(l:List Tk):List UInt8:=(((([115,104,97,114,101,115,32]++Vk (Qu false false l))++[32])++Vk (Qu true false l))++[32])++Vk (Qu true true l)
def q1q(l:List Tk):Option Rat:=if Vj l then some 1 else if qcp l&& !qe4 l then some (qm1 l) else none
def qj1(s:Ss)(x:List UInt8):Option (Ss×List UInt8):=
 if x=[115,111,114,116] then some (qdc s (qfv s.l))
 else if x=[97,115,115,105,103,110] then some (match Ve s.l with
  |some o=>qdc s (qb5 s.l o)
  |none=>(s,noT))
 else if x=[112,108,97,99,101,115] then some (⟨s.l,s.js,0⟩,okT)
 else if x=[100,101,97,100,108,105,110,101,115] then some (⟨s.l,s.js,1⟩,okT)
 else if x=[115,104,111,119] then some (s,(Va s.l++[10])++(Vf s.js++[10]))
 else if x=[104,111,108,100,115] then some (s,if qaf s.l s.pol then [104,111,108,100,115,32,121,101,115,10] else [104,111,108,100,115,32,110,111,10])
 else if x=[114,101,115,112,111,110,115,101,115] then some (s,Vq s.l s.l.length++[101,110,100,10])
 else if x=[115,104,97,114,101,115] then some (s,qj0 s.l++[10])
 else if x=[102,97,99,116,111,114] then some (s,match q1q s.l with
  |some r=>([102,97,99,116,111,114,32]++Vk r)++[10]
  |none=>qf1)
 else if x=[102,101,119,101,115,116] then some (s,match qru s.l s.pol with
  |some n=>([102,101,119,101,115,116,32]++num n)++[10]
  |none=>qf1)
 else none
def upL(l:List Tk)(n:Int):List Tk:=l.map (fun t=>⟨t.low+n,t.high+n,t.due,t.every,t.crit⟩)
def qal(l:List Tk)(n:Int):Option (List Tk):=if Qe l&&decide (-20≤n)&&decide (n≤20)&&Qe (upL l n) then some (upL l n) else none
def qpe(s:Ss)(o:Option (List Jb)):Ss×List UInt8:=match o with
 |some js=>(⟨s.l,js,s.pol⟩,okT)
 |none=>(s,qcv)
def qj2(s:Ss)(x:List UInt8)(n:Int):Option (Ss×List UInt8):=
 if x=[108,101,97,118,101] then some (if plc s.l n then qdc s (lvT s.l n) else(s,noT))
 else if x=[114,97,105,115,101] then some (match qal s.l n with
  |some l=>qdc s l
  |none=>(s,noT))
 else if x=[114,117,108,101] then some (qpe s (qay s.l n false))
 else if x=[119,111,114,115,116] then some (qpe s (qay s.l n true))
 else if x=[114,117,110] then(if qrg s.l s.js s.pol n then some (s,q0n s.l s.js s.pol n.toNat) else none)
 else if x=[104,105,103,104] then some (s,match Vm s.l n s.pol with
  |some k=>([104,105,103,104,32]++num k)++[10]
  |none=>qf1)
 else if x=[112,97,99,107] then some (s,match qht s.l n s.pol with
  |some ws=>qas s.l ws++[101,110,100,10]
  |none=>qf1)
 else none
def qrv(s:Ss)(x r:List UInt8):Option (Ss×List UInt8):=
 if x=[116,97,115,107,115] then(qhs r).map (fun l=>qdc s l)
 else if x=[97,100,109,105,116] then(tkO r).map (fun t=>match qax s.l t s.pol with
  |some l=>qdc s l
  |none=>(s,noT))
 else if x=[106,111,98,115] then some (qpe s (match qdr r with
  |some js=>if Q9 s.l js then some js else none
  |none=>none))
 else none
def qj3(s:Ss)(o:Option (Ss×List UInt8)):Ss×List UInt8:=o.getD (s,qcv)
def qj4(s:Ss)(x r:List UInt8):Ss×List UInt8:=match qrv s x r with
 |some q=>q
 |none=>match qdf r with
  |some n=>qj3 s (qj2 s x n)
  |none=>(s,qcv)
def qfz(s:Ss)(x:List UInt8):Ss×List UInt8:=if(Lib.cut x [32]).2.2 then qj4 s (Lib.cut x [32]).1 (Lib.cut x [32]).2.1 else qj3 s (qj1 s (Lib.cut x [32]).1)
def q6d:List UInt8:=[102,117,108,108,10]
def qje:List (List UInt8)→Nat→Ss→List UInt8→List UInt8
 |[],_,_,out=>out
 |x::r,i,s,out=>if x=[] then qje r (i+1) s out else if 200≤i∨40000<out.length then out++q6d else qje r (i+1) (qfz s x).1 (out++(qfz s x).2)
def ss0:Ss:=⟨[],[],0⟩
def qqr(text:List UInt8):List UInt8:=if 20000<text.length then [108,111,110,103,10] else qje (Qq [10] text) 0 ss0 []
theorem q4b(a:List (List UInt8))(i:Nat)(s:Ss)(out:List UInt8):out <+: qje a i s out:=by
 induction a generalizing i s out with
 |nil=>exact List.prefix_rfl
 |cons x r ih=>
  simp only[qje];split
  ·exact ih ..
  ·split
   ·exact List.prefix_append ..
   ·exact(List.prefix_append ..).trans (ih ..)
theorem q4c(a b:List (List UInt8))(i:Nat)(s:Ss)(out:List UInt8):qje a i s out <+: qje (a++b) i s out:=by
 induction a generalizing i s out with
 |nil=>exact q4b ..
 |cons x r ih=>
  rw[Ybw];simp only[qje];split
  ·exact ih ..
  ·split
   ·exact List.prefix_rfl
   ·exact ih ..
theorem qy2(a:List (List UInt8))(i:Nat)(s:Ss)(out:List UInt8):qje (a++[[]]) i s out=qje a i s out:=by
 induction a generalizing i s out with
 |nil=>simp[qje]
 |cons x r ih=>
  rw[Ybw];simp only[qje,ih]
theorem q4d(c:UInt8)(x:List UInt8)(h:c∈x): ∃a b,x=a++(c::[])++b∧c∉a:=by
 induction x with
 |nil=>cases h
 |cons d x ih=>
  by_cases e:d=c
  ·exact⟨[],x,by rw[e];rfl,by simp⟩
  ·obtain⟨a,b,hx,ha⟩:=ih (by
    rcases Ybz.1 h with h|h
    ·exact absurd h.symm e
    ·exact h)
   refine⟨d::a,b,by rw[hx];rfl,?_⟩;rintro h;rcases Ybz.1 h with h|h
   ·exact e h.symm
   ·exact ha h
theorem qn7(c:UInt8): ∀(k:Nat) (x r:List UInt8),x.length≤k→Qq [c] (x++(c::[])++r)=Qq [c] x++Qq [c] r:=by
 intro k;induction k with
 |zero=>
  intro x r hx;obtain rfl:x=[]:=List.length_eq_zero_iff.1 (by omega);rw[qab c [] [] r (by simp),qat c [] [] (by simp)];rfl
 |succ k ih=>
  intro x r hx;by_cases hc:c∈x
  ·obtain⟨a,b,rfl,ha⟩:=q4d c x hc
   have hb:b.length≤k:=by
    simp at hx;omega
   have e:a++(c::[])++b++(c::[])++r=a++(c::[])++(b++(c::[])++r):=by simp
   rw[e,qab c [] a _ ha,ih b r hb,qab c [] a b ha];rfl
  ·rw[qab c [] x r hc,qat c [] x hc];rfl
theorem qy3(x r:List UInt8)(h:(x++(10::[])++r).length≤20000):qqr (x++(10::[])) <+: qqr (x++(10::[])++r):=by
 have h1:(x++(10::[])).length≤20000:=by
  simp at h⊢;omega
 unfold qqr;rw[Yaq (by omega),Yaq (by omega)];have e0:x++(10::[])=x++(10::[])++[]:=by simp
 rw[e0,qn7 10 _ x [] (zlr _),←e0,qn7 10 _ x r (zlr _),qat 10 [] [] (by simp),qy2];exact q4c ..
theorem q4e(r:List UInt8)(h:r.length≤20000):qqr [] <+: qqr r:=by
 unfold qqr;rw[Yaq (by simp),Yaq (by omega),qat 10 [] [] (by simp)];have:qje [[]] 0 ss0 []=[]:=rfl;rw[this];exact List.nil_prefix
structure Good (s:Ss):Prop where
 v:Qe s.l=true
 t:qdg s.js=true
 p:s.pol=0∨s.pol=1
theorem q7k:Good ss0:=⟨rfl,rfl,.inl rfl⟩
theorem q4f:qdg []=true:=rfl
theorem Good.took{s:Ss}(h:Good s){l:List Tk}(hl:Qe l=true):Good (qdc s l).1:=⟨hl,q4f,h.p⟩
theorem qy4{l:List Tk}(h:Qe l=true):Qe (qfv l)=true:=by
 obtain⟨h1,h2⟩:=Qj h;unfold qfv;rw[Yav h];exact qih (by rw[qel];exact h1) (fun t ht=>h2 t ((qqk l).mem_iff.1 ht))
theorem q1r{l:List Tk}{o:List Nat}(h:Ve l=some o):Qe (qb5 l o)=true:=by
 obtain⟨hv,hp,_⟩:=qdw h;obtain⟨h5,ha⟩:=Qj hv;refine qih (by unfold qb5;rw[Ybh,hp.length_eq,List.length_range];exact h5) ?_;intro t ht;unfold qb5 at ht;obtain⟨i,hi,rfl⟩:=List.mem_map.1 ht;have:=hp.mem_iff.1 hi;rw[Ybu] at this;exact Qs hv this
theorem q4g{l:List Tk}{n:Int}(h:plc l n=true):Qe (lvT l n)=true:=by
 obtain⟨hv,h5,hlt,_⟩:=qbk h;obtain⟨_,ha⟩:=Qj hv;unfold lvT;rw[Yav h];refine qih ?_ (fun t ht=>ha t (List.mem_of_mem_eraseIdx ht));have:=List.length_eraseIdx_le l n.toNat;omega
theorem qn8{l x:List Tk}{n:Int}(h:qal l n=some x):Qe x=true∧x=upL l n∧Qe l=true∧ -20≤n∧n≤20:=by
 unfold qal at h;split at h
 ·rename_i hc
  simp only[Yac,Yae] at hc;injection h with h
  subst h;exact⟨hc.2,rfl,hc.1.1.1,hc.1.1.2,hc.1.2⟩
 ·cases h
theorem qn9{s:Ss}(h:Good s){o:Option (List Jb)}(ho: ∀js,o=some js→qdg js=true):Good (qpe s o).1:=by
 cases o with
 |none=>exact h
 |some js=>exact⟨h.v,ho js rfl,h.p⟩
theorem Q7{α:Type}{c:Prop} [Decidable c] {a q:α}{o:Option α}(h:(if c then some a else o)=some q):q=a∨o=some q:=by
 by_cases hc:c
 ·rw[Yav hc] at h;injection h with h
  exact .inl h.symm
 ·rw[Yaq hc] at h;exact .inr h
theorem qlq{α:Type}{c:Prop} [Decidable c] {q:α}{a o:Option α}(h:(if c then a else o)=some q):a=some q∨o=some q:=by
 by_cases hc:c
 ·rw[Yav hc] at h;exact .inl h
 ·rw[Yaq hc] at h;exact .inr h
theorem q1s{s:Ss}(h:Good s){x:List UInt8}{q:Ss×List UInt8}(hq:qj1 s x=some q):Good q.1:=by
 unfold qj1 at hq;rcases Q7 hq with rfl|hq
 ·exact h.took (qy4 h.v)
 rcases Q7 hq with rfl|hq
 ·cases ha:Ve s.l with
  |none=>exact h
  |some o=>exact h.took (q1r ha)
 rcases Q7 hq with rfl|hq
 ·exact⟨h.v,h.t,.inl rfl⟩
 rcases Q7 hq with rfl|hq
 ·exact⟨h.v,h.t,.inr rfl⟩
 rcases Q7 hq with rfl|hq
 ·exact h
 rcases Q7 hq with rfl|hq
 ·exact h
 rcases Q7 hq with rfl|hq
 ·exact h
 rcases Q7 hq with rfl|hq
 ·exact h
 rcases Q7 hq with rfl|hq
 ·exact h
 rcases Q7 hq with rfl|hq
 ·exact h
 cases hq
theorem q1t{s:Ss}(h:Good s){x:List UInt8}{n:Int}{q:Ss×List UInt8}(hq:qj2 s x n=some q):Good q.1:=by
 unfold qj2 at hq;rcases Q7 hq with rfl|hq
 ·by_cases hp:plc s.l n=true
  ·rw[Yav hp];exact h.took (q4g hp)
  ·rw[Yaq hp];exact h
 rcases Q7 hq with rfl|hq
 ·cases hr:qal s.l n with
  |none=>exact h
  |some l=>exact h.took (qn8 hr).1
 rcases Q7 hq with rfl|hq
 ·exact qn9 h (fun js hj=>(qqm hj).2.2.2)
 rcases Q7 hq with rfl|hq
 ·exact qn9 h (fun js hj=>(qqm hj).2.2.2)
 rcases qlq hq with hq|hq
 ·by_cases hr:qrg s.l s.js s.pol n=true
  ·rw[Yav hr] at hq;injection hq with hq
   subst hq;exact h
  ·rw[Yaq hr] at hq;cases hq
 rcases Q7 hq with rfl|hq
 ·exact h
 rcases Q7 hq with rfl|hq
 ·exact h
 cases hq
theorem q1u{s:Ss}(h:Good s){x r:List UInt8}{q:Ss×List UInt8}(hq:qrv s x r=some q):Good q.1:=by
 unfold qrv at hq;rcases qlq hq with hq|hq
 ·cases hl:qhs r with
  |none=>rw[hl] at hq;cases hq
  |some l=>
   rw[hl] at hq;injection hq with hq
   subst hq;exact h.took (qkv hl).1
 rcases qlq hq with hq|hq
 ·cases hl:tkO r with
  |none=>rw[hl] at hq;cases hq
  |some t=>
   rw[hl] at hq;injection hq with hq
   subst hq;dsimp only;cases ha:qax s.l t s.pol with
   |none=>exact h
   |some l=>exact h.took (qnh (qn2 ha).2.2.2)
 rcases Q7 hq with rfl|hq
 ·refine qn9 h (fun js hj=>?_);cases hl:qdr r with
  |none=>rw[hl] at hj;cases hj
  |some js'=>
   rw[hl] at hj;dsimp only at hj;by_cases hv:Q9 s.l js'=true
   ·rw[Yav hv] at hj;injection hj with hj
    subst hj;exact qqi hv
   ·rw[Yaq hv] at hj;cases hj
 cases hq
theorem qt0{s:Ss}(h:Good s){o:Option (Ss×List UInt8)}(ho: ∀q,o=some q→Good q.1):Good (qj3 s o).1:=by
 cases o with
 |none=>exact h
 |some q=>exact ho q rfl
theorem qqs{s:Ss}(h:Good s)(x:List UInt8):Good (qfz s x).1:=by
 unfold qfz;split
 ·unfold qj4;cases ht:qrv s (Lib.cut x [32]).1 (Lib.cut x [32]).2.1 with
  |some q=>exact q1u h ht
  |none=>
   dsimp only;cases hn:qdf (Lib.cut x [32]).2.1 with
   |some n=>exact qt0 h (fun q hq=>q1t h hq)
   |none=>exact h
 ·exact qt0 h (fun q hq=>q1s h hq)
theorem qew(A:ZA)(n c:Nat)(J:ZA)(m d:Nat)(pol:Int)(A2:ZA)(n2 c2:Nat)(w:World):
  Calls Tryz.prog 82 #[ssV A n c J m d pol,.slice A2 n2 c2,.bool false] w fun e w'=>e=.returned (.tuple #[ssV A n c J m d pol,.string ⟨noT.toArray⟩])∧Below w.heap.size w w':=by
 have hg0:=zha w (ssC A n c J m d pol);have hr0:=zha (w.alloc (ssC A n c J m d pol)) (ssC none 0 0 none 0 0 0);have bg:=bal (Below.refl (w.alloc (ssC A n c J m d pol)).heap.size (w.alloc (ssC A n c J m d pol))) (ssC none 0 0 none 0 0 0);have hg1:=(bg.block w.heap.size (by simp)).trans hg0;have B0:=bal (bal (Below.refl w.heap.size w) (ssC A n c J m d pol)) (ssC none 0 0 none 0 0 0);go_enter Tryz.func82,Tryz.ntmps82;go_upto_region 1 with fail;rw[Yah] at hr0;generalize World.alloc (World.alloc w _) _=w0 at hr0 hg1 B0⊢;clear hg0 bg;obtain⟨g,hg⟩: ∃g,w.heap.size=g:=⟨_,rfl⟩;rw[hg] at hr0 hg1⊢;have hgw:w.heap.size≤g+1:=by omega
 clear hg;obtain⟨x0,x1,x2⟩:=Qb hg1;obtain⟨z0,z1,z2⟩:=Qb hr0;have zf:=fun i=>zfz hr0 i
 go_wp2_with fail;refine bodyPost_ret (v:=.tuple #[ssV A n c J m d pol,.string ⟨noT.toArray⟩]) (by simp[results,Tryz.results82,go_sem,z0,z1,z2];rfl) rfl ⟨rfl,bst (bst (bst B0 (p:=⟨g+1,0,none⟩) hgw _) (p:=⟨g+1,1,none⟩) hgw _) (p:=⟨g+1,2,none⟩) hgw _⟩
theorem qa0(A:ZA)(n c:Nat)(J:ZA)(m d:Nat)(pol:Int)(A2:ZA)(l2:List Tk)(c2:Nat)(w:World)(h2:TS w A2 l2)(hl:l2.length≤1000000):
  Calls Tryz.prog 82 #[ssV A n c J m d pol,.slice A2 l2.length c2,.bool true] w fun e w'=> ∃J',e=.returned (.tuple #[ssV A2 l2.length c2 J' 0 0 pol,.string ⟨(Va l2++[10]).toArray⟩])∧Below w.heap.size w w':=by
 have hg0:=zha w (ssC A n c J m d pol);have hr0:=zha (w.alloc (ssC A n c J m d pol)) (ssC none 0 0 none 0 0 0);have bg:=bal (Below.refl (w.alloc (ssC A n c J m d pol)).heap.size (w.alloc (ssC A n c J m d pol))) (ssC none 0 0 none 0 0 0);have hg1:=(bg.block w.heap.size (by simp)).trans hg0;have B0:=bal (bal (Below.refl w.heap.size w) (ssC A n c J m d pol)) (ssC none 0 0 none 0 0 0);have hfl:(Va l2).length≤510:=qcq l2;go_enter Tryz.func82,Tryz.ntmps82;go_upto_region 1 with fail;rw[Yah] at hr0;generalize World.alloc (World.alloc w _) _=w0 at hr0 hg1 B0⊢;clear hg0 bg;replace h2:=h2.keep B0;obtain⟨g,hg⟩: ∃g,w.heap.size=g:=⟨_,rfl⟩;rw[hg] at hr0 hg1⊢;obtain⟨r,hrE⟩: ∃r,g+1=r:=⟨_,rfl⟩;rw[hrE] at hr0⊢;have hgw:w.heap.size≤r:=by omega
 have hgr:g≠r:=by omega
 have HG:=zhi hg;clear hg hrE;have hr:=hr0;have hrl:=(bl hr);clear hr0;go_upto_region 3 with fail;refine wp_region_held (S:=fun w'=>w'.heap[g]? =some (ssC A n c J m d pol)) (by kernel_rfl) ?_;change wpAnyH _ _ _ _ _ _ _ _ (World.drew _);have K0:Below w0.heap.size w0 (World.drew w0):=zdr br;have hSk: ∀{v:World},Below w0.heap.size w0 v→v.heap[g]? =some (ssC A n c J m d pol):=fun h=>bh h hg1
 generalize World.drew w0=v0 at K0⊢;have hS0:=hSk K0;refine tq 0 11 (.slice A2 l2.length c2) rfl (fun _ _=>rfl) hS0 ?_;refine tq 2 13 (.pointer (some ⟨g,2,none⟩)) rfl (fun w _=>by go_simp) hS0 ?_;refine tq 3 14 (.int .i64 pol) rfl (fun w hS=>by obtain⟨x0,x1,x2⟩:=Qb hS;go_simp) hS0 ?_;refine tq 5 16 (.slice A2 l2.length c2) rfl (fun _ _=>rfl) hS0 ?_;refine wpAnyH_all (rs:=[1,6]) (by kernel_rfl) (by simp) ?_;intro j hj;simp only[Ybz,Yca,or_false] at hj;rcases hj with rfl|rfl
 ·refine Vr 1 12 rfl (by rfl) ?_;intro K hK;go_simp
  have K1:=bal K0 (.cells #[] 60);have hS1:=hSk K1;refine hK (.slice (some ⟨v0.heap.size,0,none⟩) 0 0) _ hS1 ?_;clear hK;simp only[lsS,lsZ];obtain⟨nb,hnb⟩: ∃nb,v0.heap.size=nb:=⟨_,rfl⟩;rw[hnb];clear hnb;generalize World.alloc v0 _=v1 at K1 hS1⊢;refine tq 4 15 (.agg #[.slice A2 l2.length c2,.slice (some ⟨nb,0,none⟩) 0 0,.int .i64 pol]) rfl (fun w _=>by go_simp) hS1 ?_;refine tw 6 ?_;refine co 6 17 rfl 48 Tryz.func48 #[.slice A2 l2.length c2] (qcr A2 l2 c2 _ (h2.keep K1) (by omega)) ?_;rintro e v2 ⟨rfl,bz2⟩;have K2:=Qa K1 bz2;have hS2:=hSk K2;refine⟨_,rfl,hS2,?_⟩;simp only[lsS,lsZ];refine tq 7 18 (.string ⟨(Va l2++[10]).toArray⟩) rfl (fun w _=>by go_simp;rw[Yaq (by omega)];simp[Qn]) hS2 ?_;refine tw 8 ?_;refine Vt 8 rfl (by rfl) ?_;intro K hK;have rN:=(K2.block r hrl).trans hr;obtain⟨z0,z1,z2⟩:=Qb rN;have zf:=fun i=>zfz rN i
  go_simp
  have hSz:=hS2;rw[←Yab _ ⟨r,0,none⟩ g (.slice A2 l2.length c2) hgr,←Yab _ ⟨r,1,none⟩ g (.slice (some ⟨nb,0,none⟩) 0 0) hgr,←Yab _ ⟨r,2,none⟩ g (.int .i64 pol) hgr] at hSz;refine hK _ hSz ?_;refine tq 9 7 (.string ⟨(Va l2++[10]).toArray⟩) rfl (fun _ _=>rfl) hSz ?_;refine wpAnyH_done (by kernel_rfl) ?_ _;go_wp2_with fail;refine bodyPost_ret (v:=.tuple #[ssV A2 l2.length c2 (some ⟨nb,0,none⟩) 0 0 pol,.string ⟨(Va l2++[10]).toArray⟩]) (by simp[results,Tryz.results82,go_sem,z0,z1,z2]) rfl ⟨some ⟨nb,0,none⟩,rfl,bst (bst (bst (Qa B0 K2) (p:=⟨r,0,none⟩) hgw _) (p:=⟨r,1,none⟩) hgw _) (p:=⟨r,2,none⟩) hgw _⟩
 ·refine co 6 17 rfl 48 Tryz.func48 #[.slice A2 l2.length c2] (qcr A2 l2 c2 _ (h2.keep K0) (by omega)) ?_;rintro e v1 ⟨rfl,bz1⟩;have K1:=Qa K0 bz1;have hS1:=hSk K1;refine⟨_,rfl,hS1,?_⟩;simp only[lsS,lsZ];refine tq 7 18 (.string ⟨(Va l2++[10]).toArray⟩) rfl (fun w _=>by go_simp;rw[Yaq (by omega)];simp[Qn]) hS1 ?_;refine tw 1 ?_;refine Vr 1 12 rfl (by rfl) ?_;intro K hK;go_simp
  have K2:=bal K1 (.cells #[] 60);have hS2:=hSk K2;refine hK (.slice (some ⟨v1.heap.size,0,none⟩) 0 0) _ hS2 ?_;clear hK;simp only[lsS,lsZ];obtain⟨nb,hnb⟩: ∃nb,v1.heap.size=nb:=⟨_,rfl⟩;rw[hnb];clear hnb;generalize World.alloc v1 _=v2 at K2 hS2⊢;refine tq 4 15 (.agg #[.slice A2 l2.length c2,.slice (some ⟨nb,0,none⟩) 0 0,.int .i64 pol]) rfl (fun w _=>by go_simp) hS2 ?_;refine tw 8 ?_;refine Vt 8 rfl (by rfl) ?_;intro K hK;have rN:=(K2.block r hrl).trans hr;obtain⟨z0,z1,z2⟩:=Qb rN;have zf:=fun i=>zfz rN i
  go_simp
  have hSz:=hS2;rw[←Yab _ ⟨r,0,none⟩ g (.slice A2 l2.length c2) hgr,←Yab _ ⟨r,1,none⟩ g (.slice (some ⟨nb,0,none⟩) 0 0) hgr,←Yab _ ⟨r,2,none⟩ g (.int .i64 pol) hgr] at hSz;refine hK _ hSz ?_;refine tq 9 7 (.string ⟨(Va l2++[10]).toArray⟩) rfl (fun _ _=>rfl) hSz ?_;refine wpAnyH_done (by kernel_rfl) ?_ _;go_wp2_with fail;refine bodyPost_ret (v:=.tuple #[ssV A2 l2.length c2 (some ⟨nb,0,none⟩) 0 0 pol,.string ⟨(Va l2++[10]).toArray⟩]) (by simp[results,Tryz.results82,go_sem,z0,z1,z2]) rfl ⟨some ⟨nb,0,none⟩,rfl,bst (bst (bst (Qa B0 K2) (p:=⟨r,0,none⟩) hgw _) (p:=⟨r,1,none⟩) hgw _) (p:=⟨r,2,none⟩) hgw _⟩
def qha(k:Nat)(t:Tk):List UInt8:=if k=0 then Vp t else 32::Vp t
def qf2:List Tk→List (List UInt8)
 |[]=>[]
 |t::r=>Vp t::r.map (fun u=>32::Vp u)
theorem qkz(l:List Tk):(qf2 l).length=l.length:=by cases l<;>simp[qf2]
theorem qqt(l:List Tk)(t:Tk):qf2 (l++[t])=qf2 l++[qha l.length t]:=by
 cases l with
 |nil=>rfl
 |cons a r=>simp[qf2,qha]
theorem q4h(l:List Tk)(k:Nat)(hk:k<l.length):(qf2 l)[k]'(by rw[qkz];exact hk)=qha k l[k]:=by
 cases l with
 |nil=>simp at hk
 |cons a r=>
  cases k with
  |zero=>rfl
  |succ k=>simp[qf2,qha]
theorem qwa(r:List Tk):Lib.joinTail [59,32] (r.map Vp)=Lib.joinTail [59] (r.map (fun u=>32::Vp u)):=by
 simp[Lib.joinTail,Function.comp_def]
theorem qt1{l:List Tk}(hv: ∀t∈l,vld t=true):qqd l=Lib.join (qf2 l) [59]:=by
 have e:l.map Qr=l.map Vp:=Yee (fun t ht=>qbf (hv t ht));unfold qqd;rw[e];cases l with
 |nil=>rfl
 |cons a r=>
  simp only[qf2,List.map_cons];rw[Lib.join_cons,Lib.join_cons,qwa]
theorem qy5{s:List UInt8}{l:List Tk}(h:qhs s=some l)(h0:s≠[]):Qq [59] s=qf2 l:=by
 obtain⟨hv,hs⟩:=qkv h;obtain⟨h5,ha⟩:=qa7 hv;rw[qt1 ha] at hs;rw[←hs];refine qjw 59 [] _ ?_ ?_
 ·intro x hx;cases l with
  |nil=>simp[qf2] at hx
  |cons a r=>
   simp only[qf2,Ybz,List.mem_map] at hx;rcases hx with rfl|⟨u,_,rfl⟩
   ·exact qrn 59 a (.inl rfl)
   ·intro hm;rcases Ybz.1 hm with hm|hm
    ·revert hm;decide
    ·exact qrn 59 u (.inl rfl) hm
 ·intro e;rw[e] at hs;exact h0 (by rw[←hs];rfl)
theorem q1v{s:List UInt8}{l:List Tk}(h:Qq [59] s=qf2 l)(h5:l.length≤5)(hv: ∀t∈l,vld t=true):qhs s=some l:=by
 have hb:=qd1 59 [] _ s (zlr _);rw[h,←qt1 hv] at hb;rw[←hb];exact q6a (qih h5 hv)
theorem q4i{s:List UInt8}(h0:s≠[])(h: ∀l,Qq [59] s=qf2 l→(∀t∈l,vld t=true)→l.length≤5→False):qhs s=none:=by
 cases hs:qhs s with
 |none=>rfl
 |some l=>
  obtain⟨h5,hv⟩:=qa7 (qkv hs).1;exact absurd (qy5 hs h0) (fun e=>h l e hv h5)
theorem q1w{l m:List Tk}{ps:List (List UInt8)}{k:Nat}(hk:k<ps.length)(_h:ps.take k=qf2 m)(hl:ps=qf2 l): ∃u,u∈l∧ps[k]=qha k u:=by
 have hkl:k<l.length:=by rw[←qkz,←hl];exact hk
 refine⟨l[k],Yao hkl,?_⟩;have:=q4h l k hkl;rw[←this];simp[hl]
theorem q1x{base base2:Nat}{w w':World}{A B:ZA}{c d n:Nat}{l:List (List UInt8)}{r:List Tk}(h:OS base w A c l)(k:OT base2 w B d r)(hg:w.grownBy w' (Value.slice B n d).ownBlock):OS base w' A c l:=by
 refine World.ownsRow.kept h hg ?_;rcases h.2 with⟨hv,_⟩|⟨g,cap,cur,hv,_,hh,_⟩
 ·exact .inl (by rw[hv];rfl)
 ·refine .inr ?_;intro e;rw[hv] at e;rcases k.2 with⟨hu,_⟩|⟨g2,cap2,cur2,hu,_,hh2,_⟩
  ·injection hu with hu _ _
   rw[hu] at e;cases e
  ·injection hu with hu _ _
   rw[hu] at e;injection e with e
   simp only at e;rw[e,hh2] at hh;injection hh with hh
   injection hh with _ hh _
   revert hh
   decide
def q6e(w:World)(o:Option (List Tk))(e:Ending)(w':World):Prop:=qq2 w (o.getD []) o.isSome e w'
theorem qgf(w:World){o:Option (List Tk)}(h:o=none){A:ZA}{c:Nat}{w':World}(hO:OT w.heap.size w' A c [])(hb:Below w.heap.size w w'):q6e w o (.returned (.tuple #[.slice A 0 c,.bool false])) w':=by
 subst h;exact⟨A,c,rfl,hO,hb⟩
theorem qk0(s:List UInt8)(w:World)(hl:s.length≤1000000):
  Calls Tryz.prog 92 #[.string ⟨s.toArray⟩] w (q6e w (qhs s)):=by
 by_cases h0:s=[]
 ·subst h0;have HS:Hid (qhs []=some []):=rfl;go_enter Tryz.func92,Tryz.ntmps92;go_wp2_with fail;go_ret2;rw[HS.out];exact⟨_,0,rfl,Q8 w _ (zlr _),bal br _⟩
 have hse:s.isEmpty=false:=by simpa using h0
 have hle:=qfx 59 _ s (zlr _);have hlen:=qen 59 s;have HN:=zhi (fun h=>q4i (s:=s) h0 h);have HBk:=zhi (fun(l:List Tk)=>q1v (s:=s) (l:=l));clear h0;go_enter Tryz.func92,Tryz.ntmps92;go_wp2_with fail;have O0:=Q8 w w.heap.size (zlr _);have b0:=bal (Below.refl w.heap.size w) (.cells #[] 58);refine(qdb s 59 _ hl).mono ?_;rintro e w1 ⟨A,cap,rfl,hO,b1⟩;have O1:=Q5 O0 b1;have B1:=Qa b0 b1;clear O0 b0 b1;generalize Qq [59] s=ps at*;go_wp2_with fail;go_loopg [4,6,7,8,9] ps.length (fun gg v i x8 y8 z8 wr=> ∃(k:Nat) (Ao:ZA) (co:Nat) (ts:List Tk),gg+k=ps.length∧i=.int .i64 (k:Int)∧v=.slice Ao ts.length co∧k≤6∧OT w.heap.size wr Ao co ts∧Hid (ts.length=k)∧Hid (ps.take k=qf2 ts∧ ∀t∈ts,vld t=true)∧OS (w.heap.size+1) wr A cap ps∧Below w.heap.size w wr)
 case atStart=>exact⟨0,_,0,[],by omega,rfl,rfl,by omega,O1,rfl,⟨by simp[qf2],fun t ht=>by cases ht⟩,(by rw[Yah] at hO;exact hO),B1⟩
 case round=>
  clear O1;clear hO B1;obtain⟨k,Ao,co,ts,hgk,rfl,rfl,hk6,hT,hTl,hI,hO,hBw⟩:=hrel;have hsw:w.heap.size≤wr.heap.size:=hBw.size;have eB:=bal (Below.refl wr.heap.size wr) (.cells #[] 58);have oB:=Q8 wr w.heap.size hsw;have BN:=Qa hBw eB;by_cases hkl:k<ps.length∧k≤5
  ·obtain⟨hkl,hk5⟩:=hkl;have e0:decide ((k:Int)<(ps.length:Int))=true:=Yag (by omega);have e1:decide ((k:Int)≤5)=true:=Yag (by omega);have hkI:(k:Int)<(ps.length:Int):=by omega
   obtain⟨b,rfl,hbl,hc⟩:=qhl hO (by omega);have ck:=hc k hkl;have hxl:=hle ps[k] (Yao hkl);have HH:=zhi (fun(l:List Tk) (hl:ps=qf2 l)=>q1w (l:=l) hkl hI.out.1 hl);have HTk:Hid (ps.take (k+1)=qf2 ts++[ps[k]]):=by rw[Hid,Yad hkl,hI.out.1]
   have HI2:=zhi hI.out.2;have HTk2:=zhi hTl.out;clear hc hI;generalize ps[k]=x at ck hxl HH HTk;by_cases hk0:k=0
   ·have HX:Hid (∀t,Vp t=x→qha ts.length t=x):=by
     intro t ht;rw[HTk2.out,hk0];exact ht
    have HX2:Hid (∀u,qha k u=x→Vp u=x):=by
     intro u hu;rw[hk0] at hu;exact hu
    subst hk0;go_wp2_with fail;refine(qgn x _ (by omega)).mono ?_;rcases ht:tkO x with _|t
    ·rw[show qla (none:Option Tk)=.tuple #[.agg #[.int .i64 0,.int .i64 0,.int .i64 0,.int .i64 0,.bool false],.bool false] from rfl]
     have HF:Hid (qhs s=none):=HN.out (fun l hl hv _=>by
      obtain⟨u,hu,he⟩:=HH.out l hl;exact qhk ht u (hv u hu) (HX2.out u he.symm))
     rintro e w2 ⟨rfl,b2⟩;have b2:=b2.trans ((bal (Below.refl w2.heap.size w2) (.cells #[.int .i64 0,.int .i64 0,.int .i64 0,.int .i64 0,.bool false] 58 (0,0))).mono b2.size);have B2:=Qa hBw b2;clear ht;go_upto_region 14 with fail;generalize World.alloc w2 _=w3 at b2 B2⊢;have oC:=Q8 w3 w.heap.size B2.size;have BC:=Qa B2 (bal (Below.refl w3.heap.size w3) (.cells #[] 58));go_wp2_with fail;go_ret2;exact qgf w HF.out oC BC
    ·rw[show qla (some t)=.tuple #[.agg #[.int .i64 t.low,.int .i64 t.high,.int .i64 t.due,.int .i64 t.every,.bool t.crit],.bool true] from rfl];obtain⟨hvt,htx⟩:=qhj ht
     have HV:Hid (∀u∈ts++[t],vld u=true):=by
      intro u hu;rcases Ybq.1 hu with hu|hu
      ·exact HI2.out u hu
      ·rw[Yaw] at hu;rw[hu];exact hvt
     have HD:Hid (ps.take (0+1)=qf2 (ts++[t])):=by rw[Hid,HTk.out,qqt,HX.out t htx]
     rintro e w2 ⟨rfl,b2⟩;have t3:=zha w2 (.cells #[.int .i64 t.low,.int .i64 t.high,.int .i64 t.due,.int .i64 t.every,.bool t.crit] 58 (0,0));have b3:=bal b2 (.cells #[.int .i64 t.low,.int .i64 t.high,.int .i64 t.due,.int .i64 t.every,.bool t.crit] 58 (0,0));have hT3:=Q5 hT b3;have B3:=Qa hBw b3;have hO3:=qnk hO b3;clear ht htx hvt b2 hT b3 hBw BN eB oB hsw hO;go_upto_region 14 with fail;obtain⟨g3,hg3⟩: ∃g3,w2.heap.size=g3:=⟨_,rfl⟩;rw[hg3] at t3⊢;generalize World.alloc w2 _=w3 at t3 hT3 B3 hO3⊢;clear hg3;obtain⟨t0,t1,t2,t3',t4',tf⟩:=Qc t3;have hw3:w.heap.size≤w3.heap.size:=B3.size;go_wp2_with (at_builtin;go_loud (refine qaq _ rfl _ _ rfl w.heap.size Ao ts ts.length co rfl rfl (Vb hT3 _) w3.heap.size 1 t _ 58 rfl (zha w3 _) rfl (by rw[HTk2.out];omega) (zll hw3 (by rw[Yah];exact Ydr _)) ?_);intro A4 c4 w4 o4 g4 b4)
     go_roundg (gk-1)
     case measure=>omega
     case rel=>exact⟨0+1,A4,c4,ts++[t],by omega,by go_num,by rw[Yaa];rfl,by omega,o4,by rw[Hid,Yaa,HTk2.out];rfl,⟨HD.out,HV.out⟩,q1x (qf9 hO3 _) (Vb hT3 _) g4,(bal B3 _).trans b4⟩
   ·have e2:decide ((k:Int)>0)=true:=Yag (by omega);have e3:(0:Int)<(k:Int):=by omega
    cases x with
    |nil=>
     have HF:Hid (qhs s=none):=HN.out (fun l hl _ _=>by
      obtain⟨u,_,hu⟩:=HH.out l hl;unfold qha at hu;rw[Yaq hk0] at hu;cases hu)
     clear hk0;go_wp2_with fail;go_ret2;exact qgf w HF.out oB BN
    |cons c y=>
     have hidx:=qgc (c::y) 0 (by simp) (by rw[Go.Lib.size_eq];simp);simp only[Ycb] at hidx;have hyl:(0:Int)<(y.length:Int)+1:=by omega
     by_cases hc32:c=32
     ·have e4:((c.toNat:Int) !=32)=false:=by rw[hc32];rfl
      have hcut:=qcu (c::y) 1 (y.length+1);have hr:((c::y).drop 1).take (y.length+1-1)=y:=by simp
      rw[hr] at hcut;have h1I:(1:Int)≤(y.length:Int)+1:=by omega
      have hy:y.length≤1000000:=by simp at hxl;omega
      have HX:Hid (∀t,Vp t=y→qha ts.length t=c::y):=by
       intro t ht;unfold qha;rw[HTk2.out,Yaq hk0,ht,hc32]
      have HX2:Hid (∀u,qha k u=c::y→Vp u=y):=by
       intro u hu;unfold qha at hu;rw[Yaq hk0] at hu;injection hu
      clear hr hk0 hc32;go_wp2_with fail;refine(qgn y _ (by omega)).mono ?_;rcases ht:tkO y with _|t
      ·rw[show qla (none:Option Tk)=.tuple #[.agg #[.int .i64 0,.int .i64 0,.int .i64 0,.int .i64 0,.bool false],.bool false] from rfl]
       have HF:Hid (qhs s=none):=HN.out (fun l hl hv _=>by
        obtain⟨u,hu,he⟩:=HH.out l hl;exact qhk ht u (hv u hu) (HX2.out u he.symm))
       rintro e w2 ⟨rfl,b2⟩;have b2:=b2.trans ((bal (Below.refl w2.heap.size w2) (.cells #[.int .i64 0,.int .i64 0,.int .i64 0,.int .i64 0,.bool false] 58 (0,0))).mono b2.size);have B2:=Qa hBw b2;clear ht;go_upto_region 14 with fail;generalize World.alloc w2 _=w3 at b2 B2⊢;have oC:=Q8 w3 w.heap.size B2.size;have BC:=Qa B2 (bal (Below.refl w3.heap.size w3) (.cells #[] 58));go_wp2_with fail;go_ret2;exact qgf w HF.out oC BC
      ·rw[show qla (some t)=.tuple #[.agg #[.int .i64 t.low,.int .i64 t.high,.int .i64 t.due,.int .i64 t.every,.bool t.crit],.bool true] from rfl];obtain⟨hvt,htx⟩:=qhj ht
       have HV:Hid (∀u∈ts++[t],vld u=true):=by
        intro u hu;rcases Ybq.1 hu with hu|hu
        ·exact HI2.out u hu
        ·rw[Yaw] at hu;rw[hu];exact hvt
       have HD:Hid (ps.take (k+1)=qf2 (ts++[t])):=by rw[Hid,HTk.out,qqt,HX.out t htx]
       rintro e w2 ⟨rfl,b2⟩;have t3:=zha w2 (.cells #[.int .i64 t.low,.int .i64 t.high,.int .i64 t.due,.int .i64 t.every,.bool t.crit] 58 (0,0));have b3:=bal b2 (.cells #[.int .i64 t.low,.int .i64 t.high,.int .i64 t.due,.int .i64 t.every,.bool t.crit] 58 (0,0));have hT3:=Q5 hT b3;have B3:=Qa hBw b3;have hO3:=qnk hO b3;clear ht htx hvt b2 hT b3 hBw BN eB oB hsw hO;go_upto_region 14 with fail;obtain⟨g3,hg3⟩: ∃g3,w2.heap.size=g3:=⟨_,rfl⟩;rw[hg3] at t3⊢;generalize World.alloc w2 _=w3 at t3 hT3 B3 hO3⊢;clear hg3;obtain⟨t0,t1,t2,t3',t4',tf⟩:=Qc t3;have hw3:w.heap.size≤w3.heap.size:=B3.size;go_wp2_with (at_builtin;go_loud (refine qaq _ rfl _ _ rfl w.heap.size Ao ts ts.length co rfl rfl (Vb hT3 _) w3.heap.size 1 t _ 58 rfl (zha w3 _) rfl (by rw[HTk2.out];omega) (zll hw3 (by rw[Yah];exact Ydr _)) ?_);intro A4 c4 w4 o4 g4 b4)
       go_roundg (gk-1)
       case measure=>omega
       case rel=>exact⟨k+1,A4,c4,ts++[t],by omega,by go_num,by rw[Yaa];rfl,by omega,o4,by rw[Hid,Yaa,HTk2.out];rfl,⟨HD.out,HV.out⟩,q1x (qf9 hO3 _) (Vb hT3 _) g4,(bal B3 _).trans b4⟩
     ·have e4:((c.toNat:Int) !=32)=true:=by
       rw[Ydm];intro e
       exact hc32 (UInt8.toNat_inj.1 (by
        have:(32:UInt8).toNat=32:=rfl;omega))
      have HF:Hid (qhs s=none):=HN.out (fun l hl _ _=>by
       obtain⟨u,_,hu⟩:=HH.out l hl;unfold qha at hu;rw[Yaq hk0] at hu;injection hu with hu
       exact hc32 hu)
      clear hk0 hc32;go_wp2_with fail;go_ret2;exact qgf w HF.out oB BN
  ·have hk5: ¬(k<ps.length)∨(k<ps.length∧ ¬k≤5):=by omega
   by_cases h6:5<ps.length
   ·have HF:Hid (qhs s=none):=HN.out (fun l hl _ h5=>by
     have:=congrArg List.length hl;rw[qkz] at this;omega)
    have e5:decide ((ps.length:Int)>5)=true:=Yag (by omega);have e6:(5:Int)<(ps.length:Int):=by omega
    rcases hk5 with h|⟨h,h'⟩
    ·have e0:decide ((k:Int)<(ps.length:Int))=false:=Yaf (by omega);go_wp2_with fail;go_ret2;exact qgf w HF.out oB BN
    ·have e0:decide ((k:Int)<(ps.length:Int))=true:=Yag (by omega);have e1:decide ((k:Int)≤5)=false:=Yaf (by omega);go_wp2_with fail;go_ret2;exact qgf w HF.out oB BN
   ·have hkl2:k=ps.length:=by
     have:=congrArg List.length hI.out.1;rw[Yap,qkz,hTl.out] at this;omega
    have e0:decide ((k:Int)<(ps.length:Int))=false:=Yaf (by omega);have e6: ¬(5:Int)<(ps.length:Int):=by omega
    have HF:Hid (qhs s=some ts):=by
     have h1:=hI.out.1;rw[hkl2,Ybi] at h1;exact HBk.out ts h1 (by rw[hTl.out];omega) hI.out.2
    have hkn: ¬k<ps.length:=by omega
    clear hk5 hkl hkl2;go_wp2_with fail;go_ret2;rw[HF.out];exact⟨Ao,co,rfl,hT,hBw⟩
theorem qt2(j:Jb):Qq [64] (qfb j)=[num j.task,num j.at_++(58::[])++num j.need]:=by
 unfold qfb;have h2:=qab 64 [] (num j.task) (num j.at_++(58::[])++num j.need) (qcg 64 _ (by decide));rw[h2,qat];intro h;simp only[Ybq,Ybz,Yca,or_false] at h;rcases h with(h|h)|h
 ·exact qcg 64 _ (by decide) h
 ·revert h;decide
 ·exact qcg 64 _ (by decide) h
theorem qqu(j:Jb):Qq [58] (num j.at_++(58::[])++num j.need)=[num j.at_,num j.need]:=by
 have h2:=qab 58 [] (num j.at_) (num j.need) (qcg 58 _ (by decide));rw[h2,qat];exact qcg 58 _ (by decide)
theorem qqv{s:List UInt8}(h: ∀u,qbv u=true→qfb u=s→False):jbO s=none:=by
 cases ht:jbO s with
 |none=>rfl
 |some u=>exact absurd (qkw ht).2 (fun e=>h u (qkw ht).1 e)
theorem q1y{s a b c d:List UInt8}(h1:Qq [64] s=[a,b])(h2:Qq [58] b=[c,d])(u:Jb)(hu:qbv u=true)(hs:qfb u=s):qdf a=some u.task∧qdf c=some u.at_∧qdf d=some u.need:=by
 obtain⟨v1,v2,v3,v4,v5,v6⟩:=(qbo u).1 hu;rw[←hs,qt2] at h1;injection h1 with e1 e2
 injection e2 with e2 _
 rw[←e2,qqu] at h2;injection h2 with e3 e4
 injection e4 with e4 _
 rw[←e1,←e3,←e4];exact⟨qgb v1 (by omega),qgb v3 (by omega),qgb (by omega) (by omega)⟩
theorem q1z{n:Int}(h:0≤n):Lib.itoa n=num n:=by
 rw[Lib.itoa,Yaq (by omega)];rfl
theorem q4j{s a b c d:List UInt8}(h1:Qq [64] s=[a,b])(h2:Qq [58] b=[c,d]){q m n:Int}(ha:qdf a=some q)(hc:qdf c=some m)(hd:qdf d=some n)(ht:qbv ⟨q,m,n⟩=true):jbO s=some ⟨q,m,n⟩:=by
 obtain⟨v1,v2,v3,v4,v5,v6⟩:=(qbo _).1 ht;dsimp only at v1 v2 v3 v4 v5 v6;have i1:=(qna ha).1;have i2:=(qna hc).1;have i3:=(qna hd).1;rw[q1z v1] at i1;rw[q1z v3] at i2;rw[q1z (by omega)] at i3;have b1:=qd1 64 [] _ s (zlr _);have b2:=qd1 58 [] _ b (zlr _);rw[h1] at b1;rw[h2] at b2
 have e:qfb ⟨q,m,n⟩=s:=by
  rw[←b1,←b2,←i1,←i2,←i3];simp[qfb,Lib.join_cons,Lib.joinTail]
 rw[←e];exact q48 ht
def q7l(s:List UInt8)(w:World)(e:Ending)(w':World):Prop:= ∃j:Jb,e=.returned (.tuple #[j.val,.bool (jbO s).isSome])∧(∀u,jbO s=some u→j=u)∧Below w.heap.size w w'
theorem qt3(s:List UInt8)(w:World)(hl:s.length≤1000000):
  Calls Tryz.prog 155 #[.string ⟨s.toArray⟩] w (q7l s w):=by
 have hle:=qfx 64 _ s (zlr _);have HJ:=zhi (fun(u:Jb) (h:qfb u=s)=>(by rw[←h];exact qt2 u:Qq [64] s=[num u.task,num u.at_++(58::[])++num u.need]));have HP:=zhi (fun a b c d=>q1y (s:=s) (a:=a) (b:=b) (c:=c) (d:=d));have HQ:=zhi (fun a b c d q m n=>q4j (s:=s) (a:=a) (b:=b) (c:=c) (d:=d) (q:=q) (m:=m) (n:=n));go_enter Tryz.func155,Tryz.ntmps155;go_wp2_with fail;refine(qdb s 64 _ hl).mono ?_;rintro e w1 ⟨A,cap,rfl,hO,b1⟩;have r1:=(b1.block _ (by simp)).trans (zha w (.cells #[.int .i64 0,.int .i64 0,.int .i64 0] 60 (0,0)));have B1:=Qa (bal (Below.refl w.heap.size w) _) b1;clear b1;obtain⟨g,hgE⟩: ∃g,w.heap.size=g:=⟨_,rfl⟩;rw[hgE] at r1⊢;have hgw:w.heap.size≤g:=by omega
 clear hgE;generalize Qq [64] s=ps at*;by_cases h2:ps.length=2
 case neg=>
  have HN:Hid (jbO s=none):=qqv (fun u _ hs=>h2 (by rw[HJ.out u hs];rfl));have e1:((ps.length:Int) !=2)=true:=by simp;omega
  obtain⟨z0,z1,z2⟩:=Qb r1;have zf:=fun i=>zfz r1 i
  have HBz:=zhi (show Below w.heap.size w _ from bst (bst (bst B1 (p:=⟨g,0,none⟩) hgw (.int .i64 0)) (p:=⟨g,1,none⟩) hgw (.int .i64 0)) (p:=⟨g,2,none⟩) hgw (.int .i64 0));clear hle h2;go_wp2_with fail;refine bodyPost_ret (v:=.tuple #[Jb.val ⟨0,0,0⟩,.bool false]) (by simp[results,Tryz.results155,go_sem,z0,z1,z2]) rfl ⟨⟨0,0,0⟩,by rw[HN.out];rfl,(fun u hu=>by rw[HN.out] at hu;cases hu),HBz.out⟩
 match ps,h2 with
 |[a,b],_=>
 obtain⟨pb,rfl,hbl,hc⟩:=qhl hO (by simp);have ca:=hc 0 (by simp);have cb:=hc 1 (by simp);simp only[Ycb,Ycx] at ca cb;have hal:=hle a (by simp);have hbl2:=hle b (by simp);have hle2:=qfx 58 _ b (zlr _);clear hc hle hO;go_wp2_with fail;refine(qdb b 58 _ (by omega)).mono ?_;rintro e w2 ⟨A2,cap2,rfl,hO2,b2⟩;have r2:=bh b2 r1;have ca2:=(b2.cell (p:=⟨pb,0,none⟩) hbl).trans ca;have B2:=Qa B1 b2;have HP2:=zhi (fun c d h=>HP.out a b c d rfl h);have HQ2:=zhi (fun c d q m n h=>HQ.out a b c d q m n rfl h)
 have HJ2:Hid (∀u,qfb u=s→(Qq [58] b).length=2):=by
  intro u hs;have:=HJ.out u hs;injection this with _ e2
  injection e2 with e2 _
  rw[e2,qqu];rfl
 have hbl3:=zlt hbl b2.size;clear b2 HP HQ HJ r1 B1 ca cb hbl;generalize Qq [58] b=qs at*;by_cases h2:qs.length=2
 case neg=>
  have HN:Hid (jbO s=none):=qqv (fun u _ hs=>h2 (HJ2.out u hs));have e1:((qs.length:Int) !=2)=true:=by simp;omega
  obtain⟨z0,z1,z2⟩:=Qb r2;have zf:=fun i=>zfz r2 i
  have HBz:=zhi (show Below w.heap.size w _ from bst (bst (bst B2 (p:=⟨g,0,none⟩) hgw (.int .i64 0)) (p:=⟨g,1,none⟩) hgw (.int .i64 0)) (p:=⟨g,2,none⟩) hgw (.int .i64 0));clear hle2 h2;go_wp2_with fail;refine bodyPost_ret (v:=.tuple #[Jb.val ⟨0,0,0⟩,.bool false]) (by simp[results,Tryz.results155,go_sem,z0,z1,z2]) rfl ⟨⟨0,0,0⟩,by rw[HN.out];rfl,(fun u hu=>by rw[HN.out] at hu;cases hu),HBz.out⟩
 match qs,h2 with
 |[c,d],_=>
 obtain⟨qb,rfl,hql,hc⟩:=qhl hO2 (by simp);have cc:=hc 0 (by simp);have cd:=hc 1 (by simp);simp only[Ycb,Ycx] at cc cd;have hcl:=hle2 c (by simp);have hdl:=hle2 d (by simp);have HP3:=zhi (HP2.out c d rfl);have HQ3:=zhi (fun q m n=>HQ2.out c d q m n rfl);clear hc hle2 hO2 HP2 HQ2 HJ2;go_wp2_with fail;refine(qch a _ (by omega)).mono ?_;rintro e w3 ⟨q,rfl,hq,b3⟩;have r3:=bh b3 r2;have cc3:=(b3.cell (p:=⟨qb,0,none⟩) hql).trans cc;have cd3:=(b3.cell (p:=⟨qb,1,none⟩) hql).trans cd;have hql3:=zlt hql b3.size;have B3:=Qa B2 b3;clear b3 r2 cc cd ca2 B2 hbl3 hql;obtain⟨o1,ho1⟩: ∃o1,(qdf a).isSome=o1:=⟨_,rfl⟩;rw[ho1];have Ho1:=zhi ho1;have Hq:=zhi hq;clear ho1 hq;go_wp2_with fail;refine(qch c _ (by omega)).mono ?_;rintro e w4 ⟨m,rfl,hq,b4⟩;have r4:=bh b4 r3;have cd4:=(b4.cell (p:=⟨qb,1,none⟩) hql3).trans cd3;have B4:=Qa B3 b4;clear b4 r3 cc3 cd3 B3 hql3;obtain⟨o2,ho2⟩: ∃o2,(qdf c).isSome=o2:=⟨_,rfl⟩;rw[ho2];have Ho2:=zhi ho2;have Hm:=zhi hq;clear ho2 hq;go_wp2_with fail;refine(qch d _ (by omega)).mono ?_;rintro e w5 ⟨n,rfl,hq,b5⟩;have r5:=bh b5 r4;have B5:=Qa B4 b5;clear b5 r4 cd4 B4;obtain⟨o3,ho3⟩: ∃o3,(qdf d).isSome=o3:=⟨_,rfl⟩;rw[ho3];have Ho3:=zhi ho3;have Hn:=zhi hq;clear ho3 hq;have t6:=zha w5 (.cells #[.int .i64 q,.int .i64 m,.int .i64 n] 60 (0,0));have b6:=bal (Below.refl w5.heap.size w5) (.cells #[.int .i64 q,.int .i64 m,.int .i64 n] 60 (0,0));have r:=bh b6 r5;have hgt0:g<w5.heap.size:=(bl r5);have B6:=Qa B5 b6;go_upto_region 11 with fail;generalize World.alloc w5 _=w6 at t6 r B6⊢;have HX:Hid (w5.heap.size≠g):=by rw[Hid];omega
 generalize w5.heap.size=t at t6 HX⊢;have hgt:t≠g:=HX.out;clear b6 r5 hgt0 B5 hal hbl2 hcl hdl
 have HY:Hid (∀u,qbv u=true→qfb u=s→(o1&&o2&&o3)=true∧(⟨q,m,n⟩:Jb)=u):=by
  intro u hu hs;obtain⟨p1,p2,p3⟩:=HP3.out u hu hs;rw[←Ho1.out,←Ho2.out,←Ho3.out,p1,p2,p3,Hq.out _ p1,Hm.out _ p2,Hn.out _ p3];exact⟨rfl,rfl⟩
 have HZ:Hid ((o1&&o2&&o3)=true→qbv ⟨q,m,n⟩=true→jbO s=some ⟨q,m,n⟩):=by
  intro ho ht;rw[←Ho1.out,←Ho2.out,←Ho3.out] at ho;simp only[Yac,Option.isSome_iff_exists] at ho;obtain⟨⟨⟨x,hx⟩,⟨y,hy⟩⟩,⟨z,hz⟩⟩:=ho;have e1:=Hq.out _ hx;have e2:=Hm.out _ hy;have e3:=Hn.out _ hz;subst e1 e2 e3;exact HQ3.out _ _ _ hx hy hz ht
 clear Ho1 Ho2 Ho3 Hq Hm Hn HP3 HQ3
 have HU2:Hid (∀u,jbO s=some u→(⟨q,m,n⟩:Jb)=u):=by
  intro u hu;obtain⟨h1,h3⟩:=qkw hu;exact(HY.out u h1 h3).2
 cases o1 with
 |false=>
  have HR:Hid ((jbO s).isSome=false):=by
   rw[Hid,qqv (fun u hu hs=>by have:=(HY.out u hu hs).1;cases this)];rfl
  clear HY HZ;refine wp_region_held (S:=fun w'=>w'.heap[t]? =some (.cells #[.int .i64 q,.int .i64 m,.int .i64 n] 60 (0,0))) (by kernel_rfl) ?_;change wpAnyH _ _ _ _ _ _ _ _ (World.drew _);have K0:Below w6.heap.size w6 (World.drew w6):=zdr br;have hSk: ∀{v:World},Below w6.heap.size w6 v→v.heap[t]? =some (.cells #[.int .i64 q,.int .i64 m,.int .i64 n] 60 (0,0)):=fun h=>bh h t6
  have hS0:=hSk K0;generalize World.drew w6=w7 at K0 hS0⊢;refine tq 0 52 (.agg #[.int .i64 q,.int .i64 m,.int .i64 n]) rfl (fun w hS=>by obtain⟨x0,x1,x2⟩:=Qb hS;go_simp) hS0 ?_;refine tq 1 53 (.bool false) rfl (fun _ _=>rfl) hS0 ?_;refine tq 2 54 (.bool false) rfl (fun _ _=>rfl) hS0 ?_;refine tn 3 55 rfl hS0 ?_;refine tq 4 56 (.bool false) rfl (fun w _=>by go_simp) hS0 ?_;refine tq 5 57 (.bool false) rfl (fun _ _=>rfl) hS0 ?_;refine tn 6 58 rfl hS0 ?_;refine tq 7 59 (.bool false) rfl (fun w _=>by go_simp) hS0 ?_;refine tq 8 60 (.bool false) rfl (fun _ _=>rfl) hS0 ?_;refine tn 9 61 rfl hS0 ?_;refine tn 10 62 rfl hS0 ?_;refine tq 11 63 (.bool false) rfl (fun w _=>by go_simp) hS0 ?_;have r0':=bh K0 r;refine tw 12 ?_;refine Vt 12 rfl (by rfl) ?_;intro K hK;obtain⟨z0,z1,z2⟩:=Qb r0';have zf:=fun i=>zfz r0' i
  go_simp
  have hSz:=hS0;rw[←Yab _ ⟨g,0,none⟩ t (.int .i64 q) hgt,←Yab _ ⟨g,1,none⟩ t (.int .i64 m) hgt,←Yab _ ⟨g,2,none⟩ t (.int .i64 n) hgt] at hSz;refine hK _ hSz ?_;refine tq 13 3 (.bool (false)) rfl (fun _ _=>rfl) hSz ?_;refine wpAnyH_done (by kernel_rfl) ?_ _;go_wp2_with fail;refine bodyPost_ret (v:=.tuple #[Jb.val ⟨q,m,n⟩,.bool (false)]) (by simp[results,Tryz.results155,go_sem,z0,z1,z2]) rfl ⟨⟨q,m,n⟩,by rw[HR.out],HU2.out,bst (bst (bst (Qa B6 K0) (p:=⟨g,0,none⟩) hgw _) (p:=⟨g,1,none⟩) hgw _) (p:=⟨g,2,none⟩) hgw _⟩
 |true=>
  cases o2 with
  |false=>
   have HR:Hid ((jbO s).isSome=false):=by
    rw[Hid,qqv (fun u hu hs=>by have:=(HY.out u hu hs).1;cases this)];rfl
   clear HY HZ;refine wp_region_held (S:=fun w'=>w'.heap[t]? =some (.cells #[.int .i64 q,.int .i64 m,.int .i64 n] 60 (0,0))) (by kernel_rfl) ?_;change wpAnyH _ _ _ _ _ _ _ _ (World.drew _);have K0:Below w6.heap.size w6 (World.drew w6):=zdr br;have hSk: ∀{v:World},Below w6.heap.size w6 v→v.heap[t]? =some (.cells #[.int .i64 q,.int .i64 m,.int .i64 n] 60 (0,0)):=fun h=>bh h t6
   have hS0:=hSk K0;generalize World.drew w6=w7 at K0 hS0⊢;refine tq 0 52 (.agg #[.int .i64 q,.int .i64 m,.int .i64 n]) rfl (fun w hS=>by obtain⟨x0,x1,x2⟩:=Qb hS;go_simp) hS0 ?_;refine tq 1 53 (.bool true) rfl (fun _ _=>rfl) hS0 ?_;refine tq 2 54 (.bool true) rfl (fun _ _=>rfl) hS0 ?_;refine tq 3 55 (.bool false) rfl (fun _ _=>rfl) hS0 ?_;refine tq 4 56 (.bool false) rfl (fun w _=>by go_simp) hS0 ?_;refine tq 5 57 (.bool false) rfl (fun _ _=>rfl) hS0 ?_;refine tn 6 58 rfl hS0 ?_;refine tq 7 59 (.bool false) rfl (fun w _=>by go_simp) hS0 ?_;refine tq 8 60 (.bool false) rfl (fun _ _=>rfl) hS0 ?_;refine tn 9 61 rfl hS0 ?_;refine tn 10 62 rfl hS0 ?_;refine tq 11 63 (.bool false) rfl (fun w _=>by go_simp) hS0 ?_;have r0':=bh K0 r;refine tw 12 ?_;refine Vt 12 rfl (by rfl) ?_;intro K hK;obtain⟨z0,z1,z2⟩:=Qb r0';have zf:=fun i=>zfz r0' i
   go_simp
   have hSz:=hS0;rw[←Yab _ ⟨g,0,none⟩ t (.int .i64 q) hgt,←Yab _ ⟨g,1,none⟩ t (.int .i64 m) hgt,←Yab _ ⟨g,2,none⟩ t (.int .i64 n) hgt] at hSz;refine hK _ hSz ?_;refine tq 13 3 (.bool (false)) rfl (fun _ _=>rfl) hSz ?_;refine wpAnyH_done (by kernel_rfl) ?_ _;go_wp2_with fail;refine bodyPost_ret (v:=.tuple #[Jb.val ⟨q,m,n⟩,.bool (false)]) (by simp[results,Tryz.results155,go_sem,z0,z1,z2]) rfl ⟨⟨q,m,n⟩,by rw[HR.out],HU2.out,bst (bst (bst (Qa B6 K0) (p:=⟨g,0,none⟩) hgw _) (p:=⟨g,1,none⟩) hgw _) (p:=⟨g,2,none⟩) hgw _⟩
  |true=>
   cases o3 with
   |false=>
    have HR:Hid ((jbO s).isSome=false):=by
     rw[Hid,qqv (fun u hu hs=>by have:=(HY.out u hu hs).1;cases this)];rfl
    clear HY HZ;refine wp_region_held (S:=fun w'=>w'.heap[t]? =some (.cells #[.int .i64 q,.int .i64 m,.int .i64 n] 60 (0,0))) (by kernel_rfl) ?_;change wpAnyH _ _ _ _ _ _ _ _ (World.drew _);have K0:Below w6.heap.size w6 (World.drew w6):=zdr br;have hSk: ∀{v:World},Below w6.heap.size w6 v→v.heap[t]? =some (.cells #[.int .i64 q,.int .i64 m,.int .i64 n] 60 (0,0)):=fun h=>bh h t6
    have hS0:=hSk K0;generalize World.drew w6=w7 at K0 hS0⊢;refine tq 0 52 (.agg #[.int .i64 q,.int .i64 m,.int .i64 n]) rfl (fun w hS=>by obtain⟨x0,x1,x2⟩:=Qb hS;go_simp) hS0 ?_;refine tq 1 53 (.bool true) rfl (fun _ _=>rfl) hS0 ?_;refine tq 2 54 (.bool true) rfl (fun _ _=>rfl) hS0 ?_;refine tq 3 55 (.bool true) rfl (fun _ _=>rfl) hS0 ?_;refine tq 4 56 (.bool true) rfl (fun w _=>by go_simp) hS0 ?_;refine tq 5 57 (.bool true) rfl (fun _ _=>rfl) hS0 ?_;refine tq 6 58 (.bool false) rfl (fun _ _=>rfl) hS0 ?_;refine tq 7 59 (.bool false) rfl (fun w _=>by go_simp) hS0 ?_;refine tq 8 60 (.bool false) rfl (fun _ _=>rfl) hS0 ?_;refine tn 9 61 rfl hS0 ?_;refine tn 10 62 rfl hS0 ?_;refine tq 11 63 (.bool false) rfl (fun w _=>by go_simp) hS0 ?_;have r0':=bh K0 r;refine tw 12 ?_;refine Vt 12 rfl (by rfl) ?_;intro K hK;obtain⟨z0,z1,z2⟩:=Qb r0';have zf:=fun i=>zfz r0' i
    go_simp
    have hSz:=hS0;rw[←Yab _ ⟨g,0,none⟩ t (.int .i64 q) hgt,←Yab _ ⟨g,1,none⟩ t (.int .i64 m) hgt,←Yab _ ⟨g,2,none⟩ t (.int .i64 n) hgt] at hSz;refine hK _ hSz ?_;refine tq 13 3 (.bool (false)) rfl (fun _ _=>rfl) hSz ?_;refine wpAnyH_done (by kernel_rfl) ?_ _;go_wp2_with fail;refine bodyPost_ret (v:=.tuple #[Jb.val ⟨q,m,n⟩,.bool (false)]) (by simp[results,Tryz.results155,go_sem,z0,z1,z2]) rfl ⟨⟨q,m,n⟩,by rw[HR.out],HU2.out,bst (bst (bst (Qa B6 K0) (p:=⟨g,0,none⟩) hgw _) (p:=⟨g,1,none⟩) hgw _) (p:=⟨g,2,none⟩) hgw _⟩
   |true=>
    have HR:Hid ((jbO s).isSome=qbv ⟨q,m,n⟩):=by
     cases ht:qbv ⟨q,m,n⟩ with
     |true=>rw[Hid,HZ.out rfl ht];rfl
     |false=>
      rw[Hid,qqv (fun u hu hs=>by have:=(HY.out u hu hs).2;subst this;rw[ht] at hu;cases hu)];rfl
    clear HY HZ;refine wp_region_held (S:=fun w'=>w'.heap[t]? =some (.cells #[.int .i64 q,.int .i64 m,.int .i64 n] 60 (0,0))) (by kernel_rfl) ?_;change wpAnyH _ _ _ _ _ _ _ _ (World.drew _);have K0:Below w6.heap.size w6 (World.drew w6):=zdr br;have hSk: ∀{v:World},Below w6.heap.size w6 v→v.heap[t]? =some (.cells #[.int .i64 q,.int .i64 m,.int .i64 n] 60 (0,0)):=fun h=>bh h t6
    have hS0:=hSk K0;generalize World.drew w6=w7 at K0 hS0⊢;refine tq 0 52 (.agg #[.int .i64 q,.int .i64 m,.int .i64 n]) rfl (fun w hS=>by obtain⟨x0,x1,x2⟩:=Qb hS;go_simp) hS0 ?_;refine tq 1 53 (.bool true) rfl (fun _ _=>rfl) hS0 ?_;refine tq 2 54 (.bool true) rfl (fun _ _=>rfl) hS0 ?_;refine tq 3 55 (.bool true) rfl (fun _ _=>rfl) hS0 ?_;refine tq 4 56 (.bool true) rfl (fun w _=>by go_simp) hS0 ?_;refine tq 5 57 (.bool true) rfl (fun _ _=>rfl) hS0 ?_;refine tq 6 58 (.bool true) rfl (fun _ _=>rfl) hS0 ?_;refine tq 7 59 (.bool true) rfl (fun w _=>by go_simp) hS0 ?_;refine tq 8 60 (.bool true) rfl (fun _ _=>rfl) hS0 ?_;refine tq 9 61 (.agg #[.int .i64 q,.int .i64 m,.int .i64 n]) rfl (fun w hS=>by obtain⟨x0,x1,x2⟩:=Qb hS;go_simp) hS0 ?_;refine ch 10 62 rfl 145 Tryz.func145 #[(⟨q,m,n⟩:Jb).val] (qny ⟨q,m,n⟩ _) ?_;rintro e v1 ⟨rfl,bz1⟩;have K1:=Qa K0 bz1;have hS1:=hSk K1;refine⟨_,rfl,hS1,?_⟩;simp only[lsS,lsZ];refine tq 11 63 (.bool (qbv ⟨q,m,n⟩)) rfl (fun w _=>by go_simp) hS1 ?_;have r1':=bh K1 r;refine tw 12 ?_;refine Vt 12 rfl (by rfl) ?_;intro K hK;obtain⟨z0,z1,z2⟩:=Qb r1';have zf:=fun i=>zfz r1' i
    go_simp
    have hSz:=hS1;rw[←Yab _ ⟨g,0,none⟩ t (.int .i64 q) hgt,←Yab _ ⟨g,1,none⟩ t (.int .i64 m) hgt,←Yab _ ⟨g,2,none⟩ t (.int .i64 n) hgt] at hSz;refine hK _ hSz ?_;refine tq 13 3 (.bool (qbv ⟨q,m,n⟩)) rfl (fun _ _=>rfl) hSz ?_;refine wpAnyH_done (by kernel_rfl) ?_ _;go_wp2_with fail;refine bodyPost_ret (v:=.tuple #[Jb.val ⟨q,m,n⟩,.bool (qbv ⟨q,m,n⟩)]) (by simp[results,Tryz.results155,go_sem,z0,z1,z2]) rfl ⟨⟨q,m,n⟩,by rw[HR.out],HU2.out,bst (bst (bst (Qa B6 K1) (p:=⟨g,0,none⟩) hgw _) (p:=⟨g,1,none⟩) hgw _) (p:=⟨g,2,none⟩) hgw _⟩
theorem q4k{base base2:Nat}{w w':World}{A B:ZA}{c d n:Nat}{l:List (List UInt8)}{r:List Jb}(h:OS base w A c l)(k:OJ base2 w B d r)(hg:w.grownBy w' (Value.slice B n d).ownBlock):OS base w' A c l:=by
 refine World.ownsRow.kept h hg ?_;rcases h.2 with⟨hv,_⟩|⟨g,cap,cur,hv,_,hh,_⟩
 ·exact .inl (by rw[hv];rfl)
 ·refine .inr ?_;intro e;rw[hv] at e;rcases k.2 with⟨hu,_⟩|⟨g2,cap2,cur2,hu,_,hh2,_⟩
  ·injection hu with hu _ _
   rw[hu] at e;cases e
  ·injection hu with hu _ _
   rw[hu] at e;injection e with e
   simp only at e;rw[e,hh2] at hh;injection hh with hh
   injection hh with _ hh _
   revert hh
   decide
theorem q10{s:List UInt8}{l:List Jb}(h0:s≠[])(hl:(Qq [32] s).length≤60)(h:qj8 jbO (Qq [32] s)=some l):qdr s=some l∧Vf l=s:=by
 have h1:qdr s=some l:=by
  unfold qdr;rw[Yaq h0,Yav hl];exact h
 obtain⟨h2,h3⟩:=qi1 h1;exact⟨h1,by rw[Vf,Yav h2,h3]⟩
theorem q11{s:List UInt8}(h0:s≠[])(h:qj8 jbO (Qq [32] s)=none):qdr s=none:=by
 unfold qdr;rw[Yaq h0,h];split<;>rfl
theorem q12{α:Type}{f:List UInt8→Option α}{ps:List (List UInt8)}{k:Nat}(hk:k<ps.length)(h:f ps[k]=none):qj8 f ps=none:=by
 have e:ps=(ps.take k++[ps[k]])++ps.drop (k+1):=by simp
 rw[e];refine q30 ?_;rw[qtw,h];cases qj8 f (ps.take k)<;>rfl
theorem qt4{α:Type}{f:List UInt8→Option α}{ps:List (List UInt8)}{k:Nat}(hk:k<ps.length){l:List α}{a:α}(hl:qj8 f (ps.take k)=some l)(h:f ps[k]=some a):qj8 f (ps.take (k+1))=some (l++[a]):=by
 rw[Yad hk,qtw,hl,h]
def q7w(w:World)(o:Option (List Jb))(e:Ending)(w':World):Prop:=q21 w (o.getD []) o.isSome e w'
theorem qwb(w:World){o:Option (List Jb)}(h:o=none){A:ZA}{c:Nat}{w':World}(hO:OJ w.heap.size w' A c [])(hb:Below w.heap.size w w'):q7w w o (.returned (.tuple #[.slice A 0 c,.bool false])) w':=by
 subst h;exact⟨A,c,rfl,hO,hb⟩
theorem qjf(s:List UInt8)(w:World)(hl:s.length≤1000000):
  Calls Tryz.prog 95 #[.string ⟨s.toArray⟩] w (q7w w (qdr s)):=by
 by_cases h0:s=[]
 ·subst h0;have HS:Hid (qdr []=some []):=rfl;go_enter Tryz.func95,Tryz.ntmps95;go_wp2_with fail;go_ret2;rw[HS.out];exact⟨_,0,rfl,qcy w _ (zlr _),bal br _⟩
 have hse:s.isEmpty=false:=by simpa using h0
 have hle:=qfx 32 _ s (zlr _);have hlen:=qen 32 s;have HN:=zhi (q11 (s:=s) h0)
 have HN60:Hid (¬(Qq [32] s).length≤60→qdr s=none):=by
  intro h;unfold qdr;rw[Yaq h0,Yaq h]
 have HE:=zhi (fun l=>q10 (s:=s) (l:=l) h0);clear h0;go_enter Tryz.func95,Tryz.ntmps95;go_wp2_with fail;have O0:=qcy w w.heap.size (zlr _);have b0:=bal (Below.refl w.heap.size w) (.cells #[] 60);refine(qdb s 32 _ hl).mono ?_;rintro e w1 ⟨A,cap,rfl,hO,b1⟩;have O1:=qdk O0 b1;have B1:=Qa b0 b1;clear O0 b0 b1;rw[Yah] at hO;generalize Qq [32] s=ps at*;by_cases h60:ps.length≤60
 case neg=>
  have HF:=zhi (HN60.out h60);have e1:decide ((ps.length:Int)>60)=true:=Yag (by omega);have e2:(60:Int)<(ps.length:Int):=by omega
  clear h60;go_wp2_with fail;go_ret2;exact qwb w HF.out O1 B1
 have e1:decide ((ps.length:Int)>60)=false:=Yaf (by omega);have e2: ¬(60:Int)<(ps.length:Int):=by omega
 go_wp2_with fail;go_loopg [4,6,7,8] ps.length (fun gg v i x7 x8 wr=> ∃(k:Nat) (Ao:ZA) (co:Nat) (ts:List Jb),gg+k=ps.length∧i=.int .i64 (k:Int)∧v=.slice Ao ts.length co∧k≤ps.length∧OJ w.heap.size wr Ao co ts∧Hid (ts.length=k)∧Hid (qj8 jbO (ps.take k)=some ts)∧OS (w.heap.size+1) wr A cap ps∧Below w.heap.size w wr)
 case atStart=>exact⟨0,_,0,[],by omega,rfl,rfl,by omega,O1,rfl,rfl,hO,B1⟩
 case round=>
  clear O1 hO B1;obtain⟨k,Ao,co,ts,hgk,rfl,rfl,hk6,hT,hTl,hI,hO,hBw⟩:=hrel;have hsw:w.heap.size≤wr.heap.size:=hBw.size;by_cases hkl:k<ps.length
  ·have e0:decide ((k:Int)<(ps.length:Int))=true:=Yag (by omega);have hkI:(k:Int)<(ps.length:Int):=by omega
   obtain⟨b,rfl,hbl,hc⟩:=qhl hO (by omega);have ck:=hc k hkl;have hxl:=hle ps[k] (Yao hkl);have HA:=zhi (fun h=>q12 (f:=jbO) hkl h);have HB:=zhi (fun a=>qt4 (f:=jbO) (a:=a) hkl hI.out);clear hc hI;generalize ps[k]=x at ck hxl HA HB;have HTk2:=zhi hTl.out;have hTl2:ts.length≤60:=by rw[hTl.out];omega
   clear hTl;go_wp2_with fail;refine(qt3 x _ (by omega)).mono ?_;cases hj:jbO x with
   |none=>
    have HF:=zhi (HN.out (HA.out hj));rintro e w2 ⟨j,rfl,_,b2⟩;rw[hj];have b2:=b2.trans ((bal (Below.refl w2.heap.size w2) (.cells #[.int .i64 j.task,.int .i64 j.at_,.int .i64 j.need] 60 (0,0))).mono b2.size);have B2:=Qa hBw b2;clear hj;go_upto_region 11 with fail;generalize World.alloc w2 _=w3 at b2 B2⊢;have oC:=qcy w3 w.heap.size B2.size;have BC:=Qa B2 (bal (Below.refl w3.heap.size w3) (.cells #[] 60));go_wp2_with fail;go_ret2;exact qwb w HF.out oC BC
   |some t=>
    have HD:=zhi (HB.out t hj);rintro e w2 ⟨j,rfl,hjt,b2⟩;rw[hj];obtain rfl:=hjt t hj;have t3:=zha w2 (.cells #[.int .i64 j.task,.int .i64 j.at_,.int .i64 j.need] 60 (0,0));have b3:=bal b2 (.cells #[.int .i64 j.task,.int .i64 j.at_,.int .i64 j.need] 60 (0,0));have hT3:=qdk hT b3;have B3:=Qa hBw b3;have hO3:=qnk hO b3;clear hj hjt b2 hT b3 hBw hsw hO HA HB HE HN HN60;go_upto_region 11 with fail;obtain⟨g3,hg3⟩: ∃g3,w2.heap.size=g3:=⟨_,rfl⟩;rw[hg3] at t3⊢;generalize World.alloc w2 _=w3 at t3 hT3 B3 hO3⊢;clear hg3;obtain⟨t0,t1,t2⟩:=Qb t3;have hw3:w.heap.size≤w3.heap.size:=B3.size;go_wp2_with (at_builtin;go_loud (refine qbe _ rfl _ _ rfl w.heap.size Ao ts ts.length co rfl rfl (qa3 hT3 _) w3.heap.size 1 j _ 60 rfl (zha w3 _) rfl (by omega) (zll hw3 (by rw[Yah];exact Ydr _)) ?_);intro A4 c4 w4 o4 g4 b4)
    go_roundg (gk-1)
    case measure=>omega
    case rel=>exact⟨k+1,A4,c4,ts++[j],by omega,by go_num,by rw[Yaa];rfl,by omega,o4,by rw[Hid,Yaa,HTk2.out];rfl,HD.out,q4k (qf9 hO3 _) (qa3 hT3 _) g4,(bal B3 _).trans b4⟩
  ·obtain rfl:k=ps.length:=by omega
   have e0:decide ((ps.length:Int)<(ps.length:Int))=false:=Yaf (by omega);have hI2:=hI.out;rw[Ybi] at hI2;obtain⟨hJo,hFm⟩:=HE.out ts h60 hI2;have HJo:=zhi hJo;have HT2:=zhi hTl.out;have hts:ts.length≤60:=by rw[hTl.out];exact h60
   clear hI hI2 hJo HE HN HN60 hTl;go_wp2_with fail;refine(qii Ao ts co _ hT.js (by omega)).mono ?_;rintro e w2 ⟨rfl,b2⟩;rw[hFm];have hq:((ByteArray.mk s.toArray).toList==(ByteArray.mk s.toArray).toList)=true:=Yec _;clear hFm;go_wp2_with fail;go_ret2;rw[HJo.out];exact⟨Ao,co,rfl,qdk hT b2,Qa hBw b2⟩
abbrev sC(s:Ss)(A:ZA)(c:Nat)(J:ZA)(d:Nat):Obj:=ssC A s.l.length c J s.js.length d s.pol
abbrev sV(s:Ss)(A:ZA)(c:Nat)(J:ZA)(d:Nat):Value:=ssV A s.l.length c J s.js.length d s.pol
def qbr(q:Ss×List UInt8)(w:World)(e:Ending)(w':World):Prop:= ∃A c J d,e=.returned (.tuple #[ssV A q.1.l.length c J q.1.js.length d q.1.pol,.string ⟨q.2.toArray⟩])∧((A=none→c=0)∧q.1.l.length≤c)∧TS w' A q.1.l∧JS w' J q.1.js∧Below w.heap.size w w'
theorem qqw{base:Nat}{w:World}{A:ZA}{c:Nat}{l:List Tk}(h:OT base w A c l):(A=none→c=0)∧l.length≤c:=by
 refine⟨?_,(Qo h).1⟩;intro hA;subst hA;rcases h.2 with⟨hv,_⟩|⟨g,cap,cur,hv,_⟩
 ·injection hv
 ·injection hv with hv _ _
  cases hv
theorem qoa(w:World)(J:ZA):JS w J []:=fun h=>by simp at h
theorem qmw(s:Ss)(A:ZA)(c:Nat)(J:ZA)(d:Nat)(t:List UInt8)(w:World)(h:TS w A s.l)(g:JS w J s.js)(hl:t.length≤1000000)(hA:(A=none→c=0)∧s.l.length≤c):
  Calls Tryz.prog 47 #[sV s A c J d,.string ⟨([116,97,115,107,115]:List UInt8).toArray⟩,.string ⟨t.toArray⟩] w (qbr (((qhs t).map (fun l=>qdc s l)).getD (s,qcv)) w):=by
 have HA:=zhi hA;clear hA;obtain⟨gb,r,hgb,hrE,hr0,hg1,B0,hgw,hgw0,hgr⟩:=qnz w (sC s A c J d) (ssC none 0 0 none 0 0 0);go_enter Tryz.func47,Tryz.ntmps47;go_upto_region 1 with fail;generalize World.alloc (World.alloc w _) _=w0 at hr0 hg1 B0⊢;try simp only[hgb,hrE]
 clear hgb hrE;go_wp2_with fail;cases ho:qhs t with
 |none=>
  have HE:Hid (((qhs t).map (fun l=>qdc s l)).getD (s,qcv)=(s,qcv)):=by rw[Hid,ho];rfl
  have K:=qk0 t w0 hl;rw[ho] at K;refine K.mono ?_;rintro e w1 ⟨A2,c2,rfl,o2,b2⟩;have rN:=bh b2 hr0;have gN:=bh b2 hg1;have B1:=Qa B0 b2;obtain⟨x0,x1,x2⟩:=Qb gN;obtain⟨z0,z1,z2⟩:=Qb rN;have zf:=fun i=>zfz rN i
  clear K ho;have BF:=bst (bst (bst B1 (p:=⟨r,0,none⟩) hgw (.slice A s.l.length c)) (p:=⟨r,1,none⟩) hgw (.slice J s.js.length d)) (p:=⟨r,2,none⟩) hgw (.int .i64 s.pol);have hF:=h.keep BF;have gF:=g.keep BF;go_wp2_with fail;refine bodyPost_ret (v:=.tuple #[sV s A c J d,.string ⟨qcv.toArray⟩]) (by simp[results,Tryz.results47,go_sem,z0,z1,z2];rfl) rfl (by rw[HE.out];exact⟨A,c,J,d,rfl,HA.out,hF,gF,BF⟩)
 |some l2=>
  have hl5:=(qa7 (qkv ho).1).1;have HE:Hid (((qhs t).map (fun l=>qdc s l)).getD (s,qcv)=qdc s l2):=by rw[Hid,ho];rfl
  have K:=qk0 t w0 hl;rw[ho] at K;refine K.mono ?_;rintro e w1 ⟨A2,c2,rfl,o2,b2⟩;have rN:=bh b2 hr0;have gN:=bh b2 hg1;have B1:=Qa B0 b2;obtain⟨x0,x1,x2⟩:=Qb gN;clear K ho;go_wp2_with fail;refine(qa0 A s.l.length c J s.js.length d s.pol A2 l2 c2 _ o2.ts (by omega)).mono ?_;rintro e w2 ⟨J',rfl,b3⟩;have rM:=bh b3 rN;have B2:=Qa B1 b3;have O3:=Q5 o2 b3;have HC:=zhi (qqw O3);obtain⟨z0,z1,z2⟩:=Qb rM;have zf:=fun i=>zfz rM i
  clear x0 x1 x2;have BF:=bst (bst (bst B2 (p:=⟨r,0,none⟩) hgw (.slice A2 l2.length c2)) (p:=⟨r,1,none⟩) hgw (.slice J' 0 0)) (p:=⟨r,2,none⟩) hgw (.int .i64 s.pol)
  have hlt: ∀(x y z:Value),TS (((w2.setCell ⟨r,0,none⟩ x).setCell ⟨r,1,none⟩ y).setCell ⟨r,2,none⟩ z) A2 l2:=by
   intro x y z hl0;obtain⟨bb,off,hA,hlt,hc⟩:=O3.ts hl0;have hb0:=qep O3 hl0;obtain⟨bb',hA',hge,_⟩:=hb0;rw[hA] at hA';injection hA' with hA'
   injection hA' with hA' _ _
   have hrw:=(bl hr0);refine⟨bb,off,hA,by simpa using hlt,fun j u hu=>?_⟩;have hne:bb≠r:=by omega
   have:=hc j u hu;rw[Ych (w:=w2) (a:=⟨bb,off+j,none⟩) (by rw[Yab _ _ _ _ hne,Yab _ _ _ _ hne,Yab _ _ _ _ hne])];exact this
  have hT:=hlt (.slice A2 l2.length c2) (.slice J' 0 0) (.int .i64 s.pol);clear hlt;go_wp2_with fail;refine bodyPost_ret (v:=.tuple #[ssV A2 l2.length c2 J' 0 0 s.pol,.string ⟨(Va l2++[10]).toArray⟩]) (by simp[results,Tryz.results47,go_sem,z0,z1,z2]) rfl (by rw[HE.out];exact⟨A2,c2,J',0,rfl,HC.out,hT,qoa _ _,BF⟩)
def qt5(s:Ss)(t:List UInt8):Option (List Jb):=match qdr t with|some js=>if Q9 s.l js then some js else none|none=>none
theorem qwc{base:Nat}{w w':World}{A:ZA}{c:Nat}{l:List Jb}(O:OJ base w A c l)(hs:w.heap.size≤w'.heap.size)(hb: ∀b,base≤b→w'.heap[b]? =w.heap[b]?):JS w' A l:=by
 intro hl0;obtain⟨bb,off,hA,hlt,hc⟩:=O.js hl0
 have hge:base≤bb:=by
  rcases O.2 with⟨_,h0⟩|⟨g,cap,cur,hv,hg,hh,_⟩
  ·omega
  ·injection hv with hv _ _
   rw[hA] at hv;injection hv with hv
   injection hv with hv _ _
   omega
 refine⟨bb,off,hA,by omega,fun j u hu=>?_⟩;have:=hc j u hu;rw[Ych (w:=w) (a:=⟨bb,off+j,none⟩) (hb bb hge)];exact this
theorem qob(s:Ss)(A:ZA)(c:Nat)(J:ZA)(d:Nat)(t:List UInt8)(w:World)(h:TS w A s.l)(g:JS w J s.js)(hl:t.length≤1000000)(hlm:s.l.length≤5)(hA:(A=none→c=0)∧s.l.length≤c):
  Calls Tryz.prog 47 #[sV s A c J d,.string ⟨([106,111,98,115]:List UInt8).toArray⟩,.string ⟨t.toArray⟩] w (qbr (qpe s (qt5 s t)) w):=by
 have HA:=zhi hA;clear hA;obtain⟨gb,r,hgb,hrE,hr0,hg1,B0,hgw,hgw0,hgr⟩:=qnz w (sC s A c J d) (ssC none 0 0 none 0 0 0);go_enter Tryz.func47,Tryz.ntmps47;go_upto_region 1 with fail;generalize World.alloc (World.alloc w _) _=w0 at hr0 hg1 B0⊢;try simp only[hgb,hrE]
 clear hgb hrE;go_wp2_with fail;cases ho:qdr t with
 |none=>
  have HE:Hid (qpe s (qt5 s t)=(s,qcv)):=by rw[Hid,qt5,ho];rfl
  have K:=qjf t w0 hl;rw[ho] at K;refine K.mono ?_;rintro e w1 ⟨A2,c2,rfl,o2,b2⟩;have rN:=bh b2 hr0;have gN:=bh b2 hg1;have B1:=Qa B0 b2;obtain⟨x0,x1,x2⟩:=Qb gN;obtain⟨z0,z1,z2⟩:=Qb rN;have zf:=fun i=>zfz rN i
  clear K ho;have BF:=bst (bst (bst B1 (p:=⟨r,0,none⟩) hgw (.slice A s.l.length c)) (p:=⟨r,1,none⟩) hgw (.slice J s.js.length d)) (p:=⟨r,2,none⟩) hgw (.int .i64 s.pol);have hF:=h.keep BF;have gF:=g.keep BF;go_wp2_with fail;refine bodyPost_ret (v:=.tuple #[sV s A c J d,.string ⟨qcv.toArray⟩]) (by simp[results,Tryz.results47,go_sem,z0,z1,z2];rfl) rfl (by rw[HE.out];exact⟨A,c,J,d,rfl,HA.out,hF,gF,BF⟩)
 |some js=>
  have h60:=(qeb (qi1 ho).1).1;have HO:=zhi ho;have K:=qjf t w0 hl;rw[ho] at K;refine K.mono ?_;rintro e w1 ⟨A2,c2,rfl,o2,b2⟩;have rN:=bh b2 hr0;have gN:=bh b2 hg1;have B1:=Qa B0 b2;obtain⟨x0,x1,x2⟩:=Qb gN;clear K ho;go_wp2_with fail;refine(qd9 A s.l c A2 js c2 _ (h.keep B1) o2.js (by unfold maxLen;omega) (by unfold maxLen;omega)).mono ?_;cases hv:Q9 s.l js with
  |false=>
   have HE:Hid (qpe s (qt5 s t)=(s,qcv)):=by rw[Hid,qt5,HO.out];simp[hv,qpe]
   rintro e w2 ⟨rfl,b3⟩;have rM:=bh b3 rN;have gM:=bh b3 gN;have B2:=Qa B1 b3;clear x0 x1 x2 hv;obtain⟨x0,x1,x2⟩:=Qb gM;obtain⟨z0,z1,z2⟩:=Qb rM;have zf:=fun i=>zfz rM i
   have BF:=bst (bst (bst B2 (p:=⟨r,0,none⟩) hgw (.slice A s.l.length c)) (p:=⟨r,1,none⟩) hgw (.slice J s.js.length d)) (p:=⟨r,2,none⟩) hgw (.int .i64 s.pol);have hF:=h.keep BF;have gF:=g.keep BF;go_wp2_with fail;refine bodyPost_ret (v:=.tuple #[sV s A c J d,.string ⟨qcv.toArray⟩]) (by simp[results,Tryz.results47,go_sem,z0,z1,z2];rfl) rfl (by rw[HE.out];exact⟨A,c,J,d,rfl,HA.out,hF,gF,BF⟩)
  |true=>
   have HE:Hid (qpe s (qt5 s t)=(⟨s.l,js,s.pol⟩,okT)):=by rw[Hid,qt5,HO.out];simp[hv,qpe]
   rintro e w2 ⟨rfl,b3⟩;have rM:=bh b3 rN;have gM:=bh b3 gN;have B2:=Qa B1 b3;have O3:=qdk o2 b3;have hr1:=(bl hr0);have hg1':=(bl hg1);clear x0 x1 x2 hv;obtain⟨x0,x1,x2⟩:=Qb gM;have xf:=fun i=>zfz gM i
   have gS:(w2.setCell ⟨gb,1,none⟩ (.slice A2 js.length c2)).heap[gb]? =some (ssC A s.l.length c A2 js.length c2 s.pol):=qa5 gM (i:=1) _;have rS:(w2.setCell ⟨gb,1,none⟩ (.slice A2 js.length c2)).heap[r]? =some (ssC none 0 0 none 0 0 0):=by rw[Yab _ _ _ _ hgr.symm];exact rM
   have BS:=bst B2 (p:=⟨gb,1,none⟩) hgw0 (.slice A2 js.length c2)
   have OS3:=qwc O3 (w':=(((w2.setCell ⟨gb,1,none⟩ (.slice A2 js.length c2)).setCell ⟨r,0,none⟩ (.slice A s.l.length c)).setCell ⟨r,1,none⟩ (.slice A2 js.length c2)).setCell ⟨r,2,none⟩ (.int .i64 s.pol)) (by simp) (by
    intro b hb;rw[Yab _ _ _ _ (by show b≠r;omega),Yab _ _ _ _ (by show b≠r;omega),Yab _ _ _ _ (by show b≠r;omega),Yab _ _ _ _ (by show b≠gb;omega)])
   go_upto_region 18 with fail;generalize World.setCell w2 _ _=w3 at gS rS BS OS3⊢;clear x0 x1 x2 xf;obtain⟨x0,x1,x2⟩:=Qb gS;obtain⟨z0,z1,z2⟩:=Qb rS;have zf:=fun i=>zfz rS i
   have BF:=bst (bst (bst BS (p:=⟨r,0,none⟩) hgw (.slice A s.l.length c)) (p:=⟨r,1,none⟩) hgw (.slice A2 js.length c2)) (p:=⟨r,2,none⟩) hgw (.int .i64 s.pol);have hF:=h.keep BF;go_wp2_with fail;refine bodyPost_ret (v:=.tuple #[ssV A s.l.length c A2 js.length c2 s.pol,.string ⟨okT.toArray⟩]) (by simp[results,Tryz.results47,go_sem,z0,z1,z2];rfl) rfl (by rw[HE.out];exact⟨A,c,A2,c2,rfl,HA.out,hF,OS3,BF⟩)
theorem qoc{base:Nat}{w w':World}{A:ZA}{c:Nat}{l:List Tk}(O:OT base w A c l)(hs:w.heap.size≤w'.heap.size)(hb: ∀b,base≤b→w'.heap[b]? =w.heap[b]?):TS w' A l:=by
 intro hl0;obtain⟨bb,off,hA,hlt,hc⟩:=O.ts hl0
 have hge:base≤bb:=by
  obtain⟨b,hb,hg,_⟩:=qep O hl0;rw[hA] at hb;injection hb with hb
  injection hb with hb _ _
  omega
 refine⟨bb,off,hA,by omega,fun j u hu=>?_⟩;have:=hc j u hu;rw[Ych (w:=w) (a:=⟨bb,off+j,none⟩) (hb bb hge)];exact this
def q4l(s:Ss)(t:List UInt8):Ss×List UInt8:=((tkO t).map (fun u=>match qax s.l u s.pol with|some l=>qdc s l|none=>(s,noT))).getD (s,qcv)
theorem qmx(s:Ss)(A:ZA)(c:Nat)(J:ZA)(d:Nat)(t:List UInt8)(w:World)(h:TS w A s.l)(g:JS w J s.js)(hl:t.length≤1000000)(hlm:s.l.length≤5)(hA:(A=none→c=0)∧s.l.length≤c):
  Calls Tryz.prog 47 #[sV s A c J d,.string ⟨([97,100,109,105,116]:List UInt8).toArray⟩,.string ⟨t.toArray⟩] w (qbr (q4l s t) w):=by
 have HA:=zhi hA;clear hA;obtain⟨gb,r,hgb,hrE,hr0,hg1,B0,hgw,hgw0,hgr⟩:=qnz w (sC s A c J d) (ssC none 0 0 none 0 0 0);go_enter Tryz.func47,Tryz.ntmps47;go_upto_region 1 with fail;generalize World.alloc (World.alloc w _) _=w0 at hr0 hg1 B0⊢;try simp only[hgb,hrE]
 clear hgb hrE;have K:=fun w=>qgn t w hl
 cases ho:tkO t with
 |none=>
  have HE:Hid (q4l s t=(s,qcv)):=by rw[Hid,q4l,ho];rfl
  rw[ho,show qla (none:Option Tk)=.tuple #[.agg #[.int .i64 0,.int .i64 0,.int .i64 0,.int .i64 0,.bool false],.bool false] from rfl] at K;go_wp2_with fail;refine(K _).mono ?_;rintro e w1 ⟨rfl,b2⟩;replace b2:=bal b2 (.cells #[.int .i64 0,.int .i64 0,.int .i64 0,.int .i64 0,.bool false] 58 (0,0));have rN:=bh b2 hr0;have gN:=bh b2 hg1;have B1:=Qa B0 b2;clear K ho b2;go_upto_region 9 with fail;generalize World.alloc w1 _=w2 at rN gN B1⊢;obtain⟨x0,x1,x2⟩:=Qb gN;obtain⟨z0,z1,z2⟩:=Qb rN;have zf:=fun i=>zfz rN i
  have BF:=bst (bst (bst B1 (p:=⟨r,0,none⟩) hgw (.slice A s.l.length c)) (p:=⟨r,1,none⟩) hgw (.slice J s.js.length d)) (p:=⟨r,2,none⟩) hgw (.int .i64 s.pol);have hF:=h.keep BF;have gF:=g.keep BF;go_wp2_with fail;refine bodyPost_ret (v:=.tuple #[sV s A c J d,.string ⟨qcv.toArray⟩]) (by simp[results,Tryz.results47,go_sem,z0,z1,z2];rfl) rfl (by rw[HE.out];exact⟨A,c,J,d,rfl,HA.out,hF,gF,BF⟩)
 |some u=>
  rw[ho,show qla (some u)=.tuple #[.agg #[.int .i64 u.low,.int .i64 u.high,.int .i64 u.due,.int .i64 u.every,.bool u.crit],.bool true] from rfl] at K;go_wp2_with fail;refine(K _).mono ?_;rintro e w1 ⟨rfl,b2⟩;have t3:=zha w1 (.cells #[.int .i64 u.low,.int .i64 u.high,.int .i64 u.due,.int .i64 u.every,.bool u.crit] 58 (0,0));replace b2:=bal b2 (.cells #[.int .i64 u.low,.int .i64 u.high,.int .i64 u.due,.int .i64 u.every,.bool u.crit] 58 (0,0));have rN:=bh b2 hr0;have gN:=bh b2 hg1;have B1:=Qa B0 b2;have HO:=zhi ho;clear K ho b2;go_upto_region 9 with fail;obtain⟨tb,htb⟩: ∃tb,w1.heap.size=tb:=⟨_,rfl⟩;rw[htb] at t3⊢;generalize World.alloc w1 _=w2 at rN gN B1 t3⊢;clear htb;obtain⟨x0,x1,x2⟩:=Qb gN;obtain⟨t0,t1,t2,t3',t4',tf⟩:=Qc t3;go_wp2_with fail;refine(qpd A s.l u c s.pol _ (h.keep B1) (by omega) HA.out.1).mono ?_;cases ha:qax s.l u s.pol with
  |none=>
   have HE:Hid (q4l s t=(s,noT)):=by rw[Hid,q4l,HO.out];simp[ha]
   rintro e w3 ⟨A3,c3,rfl,o3,b3⟩;have rM:=bh b3 rN;have gM:=bh b3 gN;have B2:=Qa B1 b3;clear x0 x1 x2 t0 t1 t2 t3' t4' tf ha;obtain⟨x0,x1,x2⟩:=Qb gM;go_wp2_with fail;refine(qew A s.l.length c J s.js.length d s.pol A3 _ c3 _).mono ?_;rintro e w4 ⟨rfl,b4⟩;have rP:=bh b4 rM;have B3:=Qa B2 b4;obtain⟨z0,z1,z2⟩:=Qb rP;have zf:=fun i=>zfz rP i
   have BF:=bst (bst (bst B3 (p:=⟨r,0,none⟩) hgw (.slice A s.l.length c)) (p:=⟨r,1,none⟩) hgw (.slice J s.js.length d)) (p:=⟨r,2,none⟩) hgw (.int .i64 s.pol);have hF:=h.keep BF;have gF:=g.keep BF;clear x0 x1 x2;go_wp2_with fail;refine bodyPost_ret (v:=.tuple #[sV s A c J d,.string ⟨noT.toArray⟩]) (by simp[results,Tryz.results47,go_sem,z0,z1,z2]) rfl (by rw[HE.out];exact⟨A,c,J,d,rfl,HA.out,hF,gF,BF⟩)
  |some l3=>
   have HE:Hid (q4l s t=qdc s l3):=by rw[Hid,q4l,HO.out];simp[ha]
   have hl3:l3.length≤6:=by
    have:=(qn2 ha).2.2.1.length_eq;rw[Yaa,Yat] at this;omega
   rintro e w3 ⟨A3,c3,rfl,o3,b3⟩;rw[(qg8 ha).1] at o3⊢;have rM:=bh b3 rN;have gM:=bh b3 gN;have B2:=Qa B1 b3;have hrl:=(bl rN);clear x0 x1 x2 t0 t1 t2 t3' t4' tf ha;obtain⟨x0,x1,x2⟩:=Qb gM;go_wp2_with fail;refine(qa0 A s.l.length c J s.js.length d s.pol A3 l3 c3 _ o3.ts (by omega)).mono ?_;rintro e w4 ⟨J',rfl,b4⟩;have rP:=bh b4 rM;have B3:=Qa B2 b4;have O4:=Q5 o3 b4;have HC:=zhi (qqw O4);obtain⟨z0,z1,z2⟩:=Qb rP;have zf:=fun i=>zfz rP i
   have BF:=bst (bst (bst B3 (p:=⟨r,0,none⟩) hgw (.slice A3 l3.length c3)) (p:=⟨r,1,none⟩) hgw (.slice J' 0 0)) (p:=⟨r,2,none⟩) hgw (.int .i64 s.pol)
   have hT:=qoc O4 (w':=((w4.setCell ⟨r,0,none⟩ (.slice A3 l3.length c3)).setCell ⟨r,1,none⟩ (.slice J' 0 0)).setCell ⟨r,2,none⟩ (.int .i64 s.pol)) (by simp) (by
    intro b hb;rw[Yab _ _ _ _ (by show b≠r;omega),Yab _ _ _ _ (by show b≠r;omega),Yab _ _ _ _ (by show b≠r;omega)])
   clear x0 x1 x2;go_wp2_with fail;refine bodyPost_ret (v:=.tuple #[ssV A3 l3.length c3 J' 0 0 s.pol,.string ⟨(Va l3++[10]).toArray⟩]) (by simp[results,Tryz.results47,go_sem,z0,z1,z2]) rfl (by rw[HE.out];exact⟨A3,c3,J',0,rfl,HC.out,hT,qoa _ _,BF⟩)
theorem qxs(l:List Tk)(n:Int)(k:Nat)(hk:k<l.length):upL (l.take (k+1)) n=upL (l.take k) n++[⟨l[k].low+n,l[k].high+n,l[k].due,l[k].every,l[k].crit⟩]:=by
 unfold upL;rw[Yad hk,Ybg];rfl
theorem qrw(l:List Tk)(n:Int):(upL l n).length=l.length:=Ybh ..
theorem qgg(w:World){o:Option (List Tk)}(h:o=none){A:ZA}{c:Nat}{w':World}(hO:OT w.heap.size w' A c [])(hb:Below w.heap.size w w'):qq2 w (o.getD []) o.isSome (.returned (.tuple #[.slice A 0 c,.bool false])) w':=by
 subst h;exact⟨A,c,rfl,hO,hb⟩
theorem qrx(A:ZA)(l:List Tk)(c:Nat)(n:Int)(w:World)(h:TS w A l)(hm:l.length≤1000000):
  Calls Tryz.prog 157 #[.slice A l.length c,.int .i64 n] w (qq2 w ((qal l n).getD []) (qal l n).isSome):=by
 cases hS:Qe l with
 |false=>
  have HF:Hid (qal l n=none):=by simp[Hid,qal,hS]
  go_enter Tryz.func157,Tryz.ntmps157;go_wp2_with fail;refine(Qd A l c _ h (by omega)).mono ?_;rw[hS];rintro e w1 ⟨rfl,b1⟩;clear hS;go_wp2_with fail;go_ret2;exact qgg w HF.out (Q8 w1 _ b1.size) (bal b1 _)
 |true=>
  by_cases hn1:n< -20
  ·have HF:Hid (qal l n=none):=by
    have:decide (-20≤n)=false:=Yaf (by omega);simp[Hid,qal,this]
   have e1:decide (n< -20)=true:=Yag hn1;go_enter Tryz.func157,Tryz.ntmps157;go_wp2_with fail;refine(Qd A l c _ h (by omega)).mono ?_;rw[hS];rintro e w1 ⟨rfl,b1⟩;clear hS;go_wp2_with fail;go_ret2;exact qgg w HF.out (Q8 w1 _ b1.size) (bal b1 _)
  by_cases hn2:20<n
  ·have HF:Hid (qal l n=none):=by
    have:decide (n≤20)=false:=Yaf (by omega);simp[Hid,qal,this]
   have e1:decide (n< -20)=false:=Yaf hn1;have e2:decide (n>20)=true:=Yag hn2;go_enter Tryz.func157,Tryz.ntmps157;go_wp2_with fail;refine(Qd A l c _ h (by omega)).mono ?_;rw[hS];rintro e w1 ⟨rfl,b1⟩;clear hS;go_wp2_with fail;go_ret2;exact qgg w HF.out (Q8 w1 _ b1.size) (bal b1 _)
  have e1:decide (n< -20)=false:=Yaf hn1;have e2:decide (n>20)=false:=Yaf hn2;have HV:=zhi (qa7 hS)
  have HR:Hid (qal l n=if Qe (upL l n) then some (upL l n) else none):=by
   have h1:decide (-20≤n)=true:=Yag (by omega);have h2:decide (n≤20)=true:=Yag (by omega);rw[Hid,qal,hS,h1,h2];rfl
  go_enter Tryz.func157,Tryz.ntmps157;go_wp2_with fail;refine(Qd A l c _ h (by omega)).mono ?_;rw[hS];rintro e w1 ⟨rfl,b1⟩;clear hS;have O1:=Q8 w1 w.heap.size b1.size;have B1:=bal b1 (.cells #[] 58);clear b1;go_wp2_with fail;go_loopg [6,7,8] l.length (fun gg v i x8 wr=> ∃(k:Nat) (Ao:ZA) (co:Nat) (ts:List Tk),gg+k=l.length∧i=.int .i64 (k:Int)∧v=.slice Ao ts.length co∧k≤l.length∧OT w.heap.size wr Ao co ts∧Hid (upL (l.take k) n=ts)∧Below w.heap.size w wr)
  case atStart=>exact⟨0,_,0,[],by omega,rfl,rfl,by omega,O1,rfl,B1⟩
  case round=>
   clear O1 B1;obtain⟨k,Ao,co,ts,hgk,rfl,rfl,hk,hT,hI,hb⟩:=hrel
   have HL:Hid (ts.length=k):=by
    rw[Hid,←hI.out,qrw,Yap];omega
   have hl5:=HV.out.1;by_cases hlt:k<l.length
   ·have e0:decide ((k:Int)<(l.length:Int))=true:=Yag (by omega);have hkI:(k:Int)<(l.length:Int):=by omega
    obtain⟨b,off,rfl,hbl,hc⟩:=h.keep hb (by omega);obtain⟨c0,c1,c2,c3,c4⟩:=qaa hc k hlt;obtain⟨v1,v2,v3,v4,v5⟩:=qao (HV.out.2 _ (Yao hlt));have HN:=zhi (qxs l n k hlt);clear hc;generalize l[k]=t at c0 c1 c2 c3 c4 v1 v2 v3 v4 v5 HN;have t3:=zha wr (.cells #[.int .i64 t.low,.int .i64 t.high,.int .i64 t.due,.int .i64 t.every,.bool t.crit] 58 (0,0));have b3:=bal (Below.refl wr.heap.size wr) (.cells #[.int .i64 t.low,.int .i64 t.high,.int .i64 t.due,.int .i64 t.every,.bool t.crit] 58 (0,0));go_upto_region 8 with fail;generalize World.alloc wr _=w3 at t3 b3⊢;have hsz:wr.heap.size<w3.heap.size:=(bl t3);obtain⟨g3,hge⟩: ∃g3,wr.heap.size=g3:=⟨_,rfl⟩;rw[hge] at t3 b3⊢;have HG:=zhi hge;clear c0 c1 c2 c3 c4 hbl hge hsz;obtain⟨t0,t1,t2,t3',t4',tf⟩:=Qc t3;have t5:(w3.setCell ⟨g3,0,none⟩ (.int .i64 (t.low+n))).heap[g3]? =some (.cells #[.int .i64 (t.low+n),.int .i64 t.high,.int .i64 t.due,.int .i64 t.every,.bool t.crit] 58 (0,0)):=qa5 t3 (i:=0) _;have b5:=b3.setCell (p:=⟨g3,0,none⟩) (zlr _) (.int .i64 (t.low+n));go_upto_region 9 with fail;generalize World.setCell w3 _ _=w5 at t5 b5⊢;clear t0 t1 t2 t3' t4' tf t3 b3;obtain⟨t0,t1,t2,t3',t4',tf⟩:=Qc t5;have t7:(w5.setCell ⟨g3,1,none⟩ (.int .i64 (t.high+n))).heap[g3]? =some (.cells #[.int .i64 (t.low+n),.int .i64 (t.high+n),.int .i64 t.due,.int .i64 t.every,.bool t.crit] 58 (0,0)):=qa5 t5 (i:=1) _;have b7:=b5.setCell (p:=⟨g3,1,none⟩) (zlr _) (.int .i64 (t.high+n));go_upto_region 10 with fail;generalize World.setCell w5 _ _=w7 at t7 b7⊢;clear t0 t1 t2 t3' t4' tf t5 b5;obtain⟨t0,t1,t2,t3',t4',tf⟩:=Qc t7;have b8:Below wr.heap.size wr w7:=by rw[HG.out];exact b7
    have hT3:=Q5 hT b8;have B3:=Qa hb b8;have HN2:Hid (upL (l.take (k+1)) n=ts++[⟨t.low+n,t.high+n,t.due,t.every,t.crit⟩]):=by rw[Hid,HN.out,hI.out]
    have hts:ts.length≤5:=by rw[HL.out];omega
    have hw3:w.heap.size≤w7.heap.size:=B3.size;clear hT hb b7 b8 HG HN hI HR HV;go_wp2_with (at_builtin;go_loud (refine qaq _ rfl _ _ rfl w.heap.size Ao ts ts.length co rfl rfl (Vb hT3 _) w7.heap.size 1 ⟨t.low+n,t.high+n,t.due,t.every,t.crit⟩ _ 58 rfl (zha w7 _) rfl (by omega) (zll hw3 (by rw[Yah];exact Ydr _)) ?_);intro A4 c4 w4 o4 g4 b4)
    go_roundg (gk-1)
    case measure=>omega
    case rel=>exact⟨k+1,A4,c4,ts++[⟨t.low+n,t.high+n,t.due,t.every,t.crit⟩],by omega,by go_num,by rw[Yaa];rfl,by omega,o4,HN2,(bal B3 _).trans b4⟩
   ·obtain rfl:k=l.length:=by omega
    have e0:decide ((l.length:Int)<(l.length:Int))=false:=Yaf (by omega);rw[Ybi] at hI;have HI:=zhi hI.out;clear hI;go_wp2_with fail;refine(Qd Ao ts co _ hT.ts (by rw[HL.out];omega)).mono ?_;cases hv:Qe ts with
    |false=>
     have HF:Hid (qal l n=none):=by rw[Hid,HR.out,HI.out,hv];rfl
     rintro e w2 ⟨rfl,b2⟩;clear hv;go_wp2_with fail;go_ret2;have B2:=Qa hb b2;exact qgg w HF.out (Q8 w2 _ B2.size) (bal B2 _)
    |true=>
     have HF:Hid (qal l n=some ts):=by rw[Hid,HR.out,HI.out,hv];rfl
     rintro e w2 ⟨rfl,b2⟩;clear hv;go_wp2_with fail;go_ret2;rw[HF.out];exact⟨Ao,co,rfl,Q5 hT b2,Qa hb b2⟩
def qqx(s:Ss)(n:Int):Ss×List UInt8:=if plc s.l n then qdc s (lvT s.l n) else(s,noT)
theorem qpf(s:Ss)(A:ZA)(c:Nat)(J:ZA)(d:Nat)(n:Int)(w:World)(h:TS w A s.l)(g:JS w J s.js)(hlm:s.l.length≤5)(hA:(A=none→c=0)∧s.l.length≤c):
  Calls Tryz.prog 97 #[sV s A c J d,.string ⟨([108,101,97,118,101]:List UInt8).toArray⟩,.int .i64 n] w (qbr (qqx s n) w):=by
 have HA:=zhi hA;clear hA;obtain⟨gb,r,hgb,hrE,hr0,hg1,B0,hgw,hgw0,hgr⟩:=qnz w (sC s A c J d) (ssC none 0 0 none 0 0 0);go_enter Tryz.func97,Tryz.ntmps97;go_upto_region 1 with fail;generalize World.alloc (World.alloc w _) _=w0 at hr0 hg1 B0⊢;try simp only[hgb,hrE]
 clear hgb hrE;obtain⟨x0,x1,x2⟩:=Qb hg1;have K:Calls Tryz.prog _ _ w0 _:=qo1 A s.l c n w0 (h.keep B0) (by unfold maxLen;omega) HA.out.2;cases ho:plc s.l n with
 |false=>
  have HE:Hid (qqx s n=(s,noT)):=by simp[Hid,qqx,ho]
  go_wp2_with fail;refine K.mono ?_;rw[ho];rintro e w3 ⟨A3,c3,rfl,o3,b3⟩;have rM:=bh b3 hr0;have gM:=bh b3 hg1;have B2:=Qa B0 b3;clear x0 x1 x2 ho K;obtain⟨x0,x1,x2⟩:=Qb gM;go_wp2_with fail;refine(qew A s.l.length c J s.js.length d s.pol A3 _ c3 _).mono ?_;rintro e w4 ⟨rfl,b4⟩;have rP:=bh b4 rM;have B3:=Qa B2 b4;obtain⟨z0,z1,z2⟩:=Qb rP;have zf:=fun i=>zfz rP i
  have BF:=bst (bst (bst B3 (p:=⟨r,0,none⟩) hgw (.slice A s.l.length c)) (p:=⟨r,1,none⟩) hgw (.slice J s.js.length d)) (p:=⟨r,2,none⟩) hgw (.int .i64 s.pol);have hF:=h.keep BF;have gF:=g.keep BF;clear x0 x1 x2;go_wp2_with fail;refine bodyPost_ret (v:=.tuple #[sV s A c J d,.string ⟨noT.toArray⟩]) (by simp[results,Tryz.results97,go_sem,z0,z1,z2]) rfl (by rw[HE.out];exact⟨A,c,J,d,rfl,HA.out,hF,gF,BF⟩)
 |true=>
  have HE:Hid (qqx s n=qdc s (lvT s.l n)):=by simp[Hid,qqx,ho]
  have hl3:((lvT s.l n)).length≤1000000:=by
   have:=List.length_eraseIdx_le s.l n.toNat;unfold lvT;split<;>simp<;>omega
  go_wp2_with fail;refine K.mono ?_;rw[ho];rintro e w3 ⟨A3,c3,rfl,o3,b3⟩;have rM:=bh b3 hr0;have gM:=bh b3 hg1;have B2:=Qa B0 b3;have hrl:=(bl hr0);clear x0 x1 x2 ho K;generalize((lvT s.l n))=l3 at o3 HE hl3⊢;obtain⟨x0,x1,x2⟩:=Qb gM;go_wp2_with fail;refine(qa0 A s.l.length c J s.js.length d s.pol A3 l3 c3 _ o3.ts hl3).mono ?_;rintro e w4 ⟨J',rfl,b4⟩;have rP:=bh b4 rM;have B3:=Qa B2 b4;have O4:=Q5 o3 b4;have HC:=zhi (qqw O4);obtain⟨z0,z1,z2⟩:=Qb rP;have zf:=fun i=>zfz rP i
  have BF:=bst (bst (bst B3 (p:=⟨r,0,none⟩) hgw (.slice A3 l3.length c3)) (p:=⟨r,1,none⟩) hgw (.slice J' 0 0)) (p:=⟨r,2,none⟩) hgw (.int .i64 s.pol)
  have hT:=qoc O4 (w':=((w4.setCell ⟨r,0,none⟩ (.slice A3 l3.length c3)).setCell ⟨r,1,none⟩ (.slice J' 0 0)).setCell ⟨r,2,none⟩ (.int .i64 s.pol)) (by simp) (by
   intro b hb;rw[Yab _ _ _ _ (by show b≠r;omega),Yab _ _ _ _ (by show b≠r;omega),Yab _ _ _ _ (by show b≠r;omega)])
  clear x0 x1 x2;go_wp2_with fail;refine bodyPost_ret (v:=.tuple #[ssV A3 l3.length c3 J' 0 0 s.pol,.string ⟨(Va l3++[10]).toArray⟩]) (by simp[results,Tryz.results97,go_sem,z0,z1,z2]) rfl (by rw[HE.out];exact⟨A3,c3,J',0,rfl,HC.out,hT,qoa _ _,BF⟩)
def qqy(s:Ss)(n:Int):Ss×List UInt8:=match qal s.l n with|some l=>qdc s l|none=>(s,noT)
theorem qpg(s:Ss)(A:ZA)(c:Nat)(J:ZA)(d:Nat)(n:Int)(w:World)(h:TS w A s.l)(g:JS w J s.js)(hlm:s.l.length≤5)(hA:(A=none→c=0)∧s.l.length≤c):
  Calls Tryz.prog 97 #[sV s A c J d,.string ⟨([114,97,105,115,101]:List UInt8).toArray⟩,.int .i64 n] w (qbr (qqy s n) w):=by
 have HA:=zhi hA;clear hA;obtain⟨gb,r,hgb,hrE,hr0,hg1,B0,hgw,hgw0,hgr⟩:=qnz w (sC s A c J d) (ssC none 0 0 none 0 0 0);go_enter Tryz.func97,Tryz.ntmps97;go_upto_region 1 with fail;generalize World.alloc (World.alloc w _) _=w0 at hr0 hg1 B0⊢;try simp only[hgb,hrE]
 clear hgb hrE;obtain⟨x0,x1,x2⟩:=Qb hg1;have K:Calls Tryz.prog _ _ w0 _:=qrx A s.l c n w0 (h.keep B0) (by omega);cases ho:qal s.l n with
 |none=>
  have HE:Hid (qqy s n=(s,noT)):=by simp[Hid,qqy,ho]
  go_wp2_with fail;refine K.mono ?_;rw[ho];simp only[Option.getD_none,Option.isSome_none];rintro e w3 ⟨A3,c3,rfl,o3,b3⟩;have rM:=bh b3 hr0;have gM:=bh b3 hg1;have B2:=Qa B0 b3;clear x0 x1 x2 ho K;obtain⟨x0,x1,x2⟩:=Qb gM;go_wp2_with fail;refine(qew A s.l.length c J s.js.length d s.pol A3 _ c3 _).mono ?_;rintro e w4 ⟨rfl,b4⟩;have rP:=bh b4 rM;have B3:=Qa B2 b4;obtain⟨z0,z1,z2⟩:=Qb rP;have zf:=fun i=>zfz rP i
  have BF:=bst (bst (bst B3 (p:=⟨r,0,none⟩) hgw (.slice A s.l.length c)) (p:=⟨r,1,none⟩) hgw (.slice J s.js.length d)) (p:=⟨r,2,none⟩) hgw (.int .i64 s.pol);have hF:=h.keep BF;have gF:=g.keep BF;clear x0 x1 x2;go_wp2_with fail;refine bodyPost_ret (v:=.tuple #[sV s A c J d,.string ⟨noT.toArray⟩]) (by simp[results,Tryz.results97,go_sem,z0,z1,z2]) rfl (by rw[HE.out];exact⟨A,c,J,d,rfl,HA.out,hF,gF,BF⟩)
 |some l5=>
  have HE:Hid (qqy s n=qdc s l5):=by simp[Hid,qqy,ho]
  have hl3:(l5).length≤1000000:=by
   have:=(qa7 (qn8 ho).1).1;omega
  go_wp2_with fail;refine K.mono ?_;rw[ho];simp only[Option.getD_some,Ydo];rintro e w3 ⟨A3,c3,rfl,o3,b3⟩;have rM:=bh b3 hr0;have gM:=bh b3 hg1;have B2:=Qa B0 b3;have hrl:=(bl hr0);clear x0 x1 x2 ho K;generalize(l5)=l3 at o3 HE hl3⊢;obtain⟨x0,x1,x2⟩:=Qb gM;go_wp2_with fail;refine(qa0 A s.l.length c J s.js.length d s.pol A3 l3 c3 _ o3.ts hl3).mono ?_;rintro e w4 ⟨J',rfl,b4⟩;have rP:=bh b4 rM;have B3:=Qa B2 b4;have O4:=Q5 o3 b4;have HC:=zhi (qqw O4);obtain⟨z0,z1,z2⟩:=Qb rP;have zf:=fun i=>zfz rP i
  have BF:=bst (bst (bst B3 (p:=⟨r,0,none⟩) hgw (.slice A3 l3.length c3)) (p:=⟨r,1,none⟩) hgw (.slice J' 0 0)) (p:=⟨r,2,none⟩) hgw (.int .i64 s.pol)
  have hT:=qoc O4 (w':=((w4.setCell ⟨r,0,none⟩ (.slice A3 l3.length c3)).setCell ⟨r,1,none⟩ (.slice J' 0 0)).setCell ⟨r,2,none⟩ (.int .i64 s.pol)) (by simp) (by
   intro b hb;rw[Yab _ _ _ _ (by show b≠r;omega),Yab _ _ _ _ (by show b≠r;omega),Yab _ _ _ _ (by show b≠r;omega)])
  clear x0 x1 x2;go_wp2_with fail;refine bodyPost_ret (v:=.tuple #[ssV A3 l3.length c3 J' 0 0 s.pol,.string ⟨(Va l3++[10]).toArray⟩]) (by simp[results,Tryz.results97,go_sem,z0,z1,z2]) rfl (by rw[HE.out];exact⟨A3,c3,J',0,rfl,HC.out,hT,qoa _ _,BF⟩)
theorem q7m{w:World}{l:List Tk}{b off r:Nat}{v0 v1 v2:Value}{ty:TypeId}(h:TS w (some ⟨b,off,none⟩) l)(hl:0<l.length)(hr:w.heap[r]? =some (.cells #[v0,v1,v2] ty (0,0))):b≠r:=by
 intro e;subst e;obtain⟨b',off',hA,_,hc⟩:=h hl;injection hA with hA
 injection hA with h1 h2 _
 subst h1 h2;obtain⟨_,_,_,_,c4⟩:=qaa hc 0 hl;rw[Ybf w b (off+0*5+4) _ _ _ hr] at c4
 have hz:(#[v0,v1,v2]:Array Value)[off+0*5+4]? =none:=by
  rw[Array.getElem?_eq_none_iff];show 3≤_;omega
 rw[hz] at c4;cases c4
theorem q13{w w':World}{A:ZA}{l:List Tk}{r:Nat}{v0 v1 v2:Value}{ty:TypeId}(h:TS w A l)(hr:w.heap[r]? =some (.cells #[v0,v1,v2] ty (0,0)))(hs:w.heap.size≤w'.heap.size)(hb: ∀b,b≠r→w'.heap[b]? =w.heap[b]?):TS w' A l:=by
 intro hl0;obtain⟨bb,off,hA,hlt,hc⟩:=h hl0;subst hA;have hne:=q7m h hl0 hr;refine⟨bb,off,rfl,by omega,fun j u hu=>?_⟩;have:=hc j u hu;rw[Ych (w:=w) (a:=⟨bb,off+j,none⟩) (hb bb hne)];exact this
theorem q7n{w:World}{l:List Jb}{b off r:Nat}{a0 a1:ZA}{n0 n1 m0 m1:Nat}{v2:Value}{ty:TypeId}(h:JS w (some ⟨b,off,none⟩) l)(hl:0<l.length)(hr:w.heap[r]? =some (.cells #[.slice a0 n0 m0,.slice a1 n1 m1,v2] ty (0,0))):b≠r:=by
 intro e;subst e;obtain⟨b',off',hA,_,hc⟩:=h hl;injection hA with hA
 injection hA with h1 h2 _
 subst h1 h2;obtain⟨c0,_,c2⟩:=Vi hc 0 hl;rw[Ybf w b (off+0*3+2) _ _ _ hr] at c2;by_cases h0:off=0
 ·subst h0;rw[Ybf w b _ _ _ _ hr] at c0;simp at c0
 ·have hz:(#[.slice a0 n0 m0,.slice a1 n1 m1,v2]:Array Value)[off+0*3+2]? =none:=by
   rw[Array.getElem?_eq_none_iff];show 3≤_;omega
  rw[hz] at c2;cases c2
theorem q14{w w':World}{A:ZA}{l:List Jb}{r:Nat}{a0 a1:ZA}{n0 n1 m0 m1:Nat}{v2:Value}{ty:TypeId}(h:JS w A l)(hr:w.heap[r]? =some (.cells #[.slice a0 n0 m0,.slice a1 n1 m1,v2] ty (0,0)))(hs:w.heap.size≤w'.heap.size)(hb: ∀b,b≠r→w'.heap[b]? =w.heap[b]?):JS w' A l:=by
 intro hl0;obtain⟨bb,off,hA,hlt,hc⟩:=h hl0;subst hA;have hne:=q7n h hl0 hr;refine⟨bb,off,rfl,by omega,fun j u hu=>?_⟩;have:=hc j u hu;rw[Ych (w:=w) (a:=⟨bb,off+j,none⟩) (hb bb hne)];exact this
end Go.Proofs.YtmkjmancmiphfaaGreatDoor

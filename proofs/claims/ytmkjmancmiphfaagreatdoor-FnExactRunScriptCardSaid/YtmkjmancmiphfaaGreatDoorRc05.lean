/-
  A call of a Go function as one step of a region that draws its order: by its contract.
  A region that draws its order, walked by hand under a condition on the world that every operation keeps: operations that yield a known value are taken first; a call that alone is ready is made by its contract.
  Which jobs are valid: the program's. (Printed by gen_jobv.py.)
-/
import Derived.Test.YtmkjmancmiphfaaGreatDoorRc04
import Derived.Lib.Join
import Derived.Test.YtmkjmancmiphfaaGreatDoorRc03
import Derived.Deep.CutBlock
namespace Go.Proofs.YtmkjmancmiphfaaGreatDoor
set_option maxHeartbeats 8000000
set_option maxRecDepth 1000000
open Go.RowKit
theorem Qz{P:Program}{ops:Array Oper}{o:Oper}{a:Act}{w:World}{K:Act→World→Prop}{Q:Exit→Act→World→Prop}{E:Prop}
  (hg:o.guard=none) (n:Nat) {fn:Func} {c:Code} (hf:P.funcs[n]? =some fn) (hname:(fn.name== "runtime.NumGoroutine")=false) (hb:fn.body=some c) (xs:Array Operand) (ts:Array TypeId) (hop:o.op=Op.call {callee:=Callee.value (Operand.func n),args:=xs,argTypes:=ts})
  (vals:Array Value) (hv:xs.map a.eval=vals) {R:Ending→World→Prop} (h:Calls P n vals w R)
  (hK: ∀e w',R e w'→ ∃v,e=.returned v∧K (a.put o.dst v) w'):
  if Region.wanted o (yielded ops a.tmps)=true then Oper.wp P o a w K Q else E:=by
 have hw:Region.wanted o (yielded ops a.tmps)=true:=by simp[Region.wanted,hg]
 rw[Yav hw]
 have hcall: ∀args,(callFunc n args).run P w=.ok (.enter n args) w:=by
  intro args;have h1: ¬(fn.name= "runtime.NumGoroutine"):=by simpa using hname
  simp[callFunc,hf,h1,hb]
 have hrun:(execOp a.eval o).run P w=.ok (.enter n vals) w:=by
  unfold execOp;rw[hop];simp[resolve,invoke,Deferred.ofValue,Act.eval,←hv,hcall]
 unfold Oper.wp;rw[hrun,Oper.upon_enter];refine h.mono ?_;intro e w' r;obtain⟨v,rfl,k⟩:=hK e w' r;exact k
theorem q5m{w:World}{o:Oper}{a:Act}{K:Act→World→Prop}{Q:Exit→Act→World→Prop}(s x:Operand)
  (ho:o.op=.call {callee:=.builtin .append,args:=#[s,x],argTypes:=#[23,23]})
  (A:ZA) (n c:Nat) (hs:a.eval s=.slice A n c) (hx:a.eval x=.slice none 0 0) (hnc:n≤c) (hK:K (a.put o.dst (.slice A n c)) w):Oper.wp Tryz.prog o a w K Q:=by
 obtain⟨i0,hi,hz0,hz1,hz2⟩:=Ybv qhx;have hu:=Tryz.underlying23
 have hst: ∀ad:Addr,(storeCells ad []).run Tryz.prog w=.ok () w:=by
  intro ad;simp[storeCells]
 have hrun:(Builtin.append_ #[23,23] o.type #[.slice A n c,.slice none 0 0]).run Tryz.prog w=.ok (.slice A n c) w:=by
  simp[Builtin.append_,run_underlying hu,Builtin.lenOf,Builtin.firstCells,run_sizeOf _ hi,hnc];cases A with
  |none=>simp
  |some ad=>simp[hst]
 unfold Oper.wp;simp[execOp,ho,resolve,invoke,builtin,hs,hx,hrun,Result.andThen];exact hK
theorem qzw{w:World}{ops:Array Oper}{o:Oper}{a:Act}{K:Act→World→Prop}{Q:Exit→Act→World→Prop}{E:Prop}(hgd:o.guard=none)(s x:Operand)
  (ho:o.op=.call {callee:=.builtin .append,args:=#[s,x],argTypes:=#[23,23]})
  (A:ZA) (n c:Nat) (hs:a.eval s=.slice A n c) (hx:a.eval x=.slice none 0 0) (hnc:n≤c) (hK:K (a.put o.dst (.slice A n c)) w):
  if Region.wanted o (yielded ops a.tmps)=true then Oper.wp Tryz.prog o a w K Q else E:=by
 have hw:Region.wanted o (yielded ops a.tmps)=true:=by simp[Region.wanted,hgd]
 rw[Yav hw];exact q5m s x ho A n c hs hx hnc hK
theorem qh3{w:World}{ops:Array Oper}{o:Oper}{a:Act}{K:Act→World→Prop}{Q:Exit→Act→World→Prop}{E:Prop}(hgd:o.guard=none)(s x:Operand)
  (ho:o.op=.call {callee:=.builtin .append,args:=#[s,x],argTypes:=#[23,23]})
  (base:Nat) (A:ZA) (l:List Tk) (n c:Nat) (hn:l.length=n) (hs:a.eval s=.slice A n c) (hown:OT base w A c l)
  (X:ZA) (j c1:Nat) (m:List Tk) (hj:m.length=j) (hx:a.eval x=.slice X j c1) (hm:TS w X m) (hX:X=none→c1=0)
  (hl:l.length≤2000000) (hlm:m.length≤2000000) (hbase:base≤w.heap.size)
  (h: ∀A' c' w',OT base w' A' c' (l++m)→w.grownBy w' (Value.slice A n c).ownBlock→Below base w w'→K (a.put o.dst (.slice A' (n+j) c')) w'):
  if Region.wanted o (yielded ops a.tmps)=true then Oper.wp Tryz.prog o a w K Q else E:=by
 cases X with
 |some ad=>exact Qy hgd s x ho base A l n c hn hs hown ad j c1 m hj hx hm hl hlm hbase h
 |none=>
  have hc1:=hX rfl
  have hm0:m.length=0:=by
   rcases Nat.eq_zero_or_pos m.length with e|e
   ·exact e
   ·obtain⟨b,off,hA,_⟩:=hm e;cases hA
  have hme:m=[]:=List.length_eq_zero_iff.1 hm0;subst hme hc1 hj;have ho':=Qo hown;refine qzw hgd s x ho A n c hs hx (by omega) ?_;refine h A c w (by rw[Ybx];exact hown) (World.grownBy.refl _ _) br
theorem q44{P:Program}{md:Region.Mode}{ops:Array Oper}{Q:Exit→Act→World→Prop}{S:World→Prop}{i:Nat}(d:Tmp)(v:Value){L:List Value}{df:List Deferred}{oi:Oper}{fuel:Nat}{listed:Array Bool}{w:World}
  (hi:ops[i]? =some oi) (hd:oi.dst=some d) (hs:Region.noSelect ops=true) (hf:Region.free md ops listed i=true) (hr:(Region.ready md ops listed).contains i=true)
  (hQ: ∀c (a:Act) w,Q (.panic c) (a.put (some d) v) w→Q (.panic c) a w) (hy:YieldsIf P ops S oi v ⟨L.toArray,df⟩) (hS:S w)
  (h:wpAnyH P md ops Q S fuel (listed.setIfInBounds i true) ⟨(L.set d v).toArray,df⟩ w):wpAnyH P md ops Q S (fuel+1) listed ⟨L.toArray,df⟩ w:=by
 refine wpAnyH_take hi hs hf hr (by rw[hd];exact hQ) hy hS ?_;rw[hd];simpa [Act.put] using h
theorem tq{P:Program}{md:Region.Mode}{ops:Array Oper}{Q:Exit→Act→World→Prop}{S:World→Prop}(i:Nat)(d:Tmp)(v:Value){L L':List Value}{df:List Deferred}{oi:Oper}{fuel:Nat}{listed:Array Bool}{w:World}
  (hi:ops[i]? =some oi) (hy: ∀w,S w→(execOp (Act.eval ⟨L.toArray,df⟩) oi).run P w=.ok (.value v) w) (hS:S w)
  (h:wpAnyH P md ops Q S fuel (listed.setIfInBounds i true) ⟨L'.toArray,df⟩ w)
  (hL:L.set d v=L':=by first|(simp only[lsS,lsZ];done)|(simp only[lsS,lsZ];rfl)) (hd:oi.dst=some d:=by rfl)
  (hb:(Region.noSelect ops&&Region.free md ops listed i&&(Region.ready md ops listed).contains i)=true:=by kernel_rfl)
  (hQ: ∀c (a:Act) w,Q (.panic c) (a.put (some d) v) w→Q (.panic c) a w:=by exact fun _ _ _ h=>h) (hw:Region.wanted oi (yielded ops L.toArray)=true:=by rfl):wpAnyH P md ops Q S (fuel+1) listed ⟨L.toArray,df⟩ w:=by
 subst hL;simp only[Yac] at hb;exact q44 d v hi hd hb.1.1 hb.1.2 hb.2 hQ (.inl ⟨hw,hy⟩) hS h
theorem tn{P:Program}{md:Region.Mode}{ops:Array Oper}{Q:Exit→Act→World→Prop}{S:World→Prop}(i:Nat)(d:Tmp){L L':List Value}{df:List Deferred}{oi:Oper}{fuel:Nat}{listed:Array Bool}{w:World}
  (hi:ops[i]? =some oi) (hS:S w)
  (h:wpAnyH P md ops Q S fuel (listed.setIfInBounds i true) ⟨L'.toArray,df⟩ w)
  (hL:L.set d undef=L':=by first|(simp only[lsS,lsZ];done)|(simp only[lsS,lsZ];rfl)) (hd:oi.dst=some d:=by rfl)
  (hb:(Region.noSelect ops&&Region.free md ops listed i&&(Region.ready md ops listed).contains i)=true:=by kernel_rfl)
  (hQ: ∀c (a:Act) w,Q (.panic c) (a.put (some d) undef) w→Q (.panic c) a w:=by exact fun _ _ _ h=>h) (hw:Region.wanted oi (yielded ops L.toArray)=false:=by rfl):wpAnyH P md ops Q S (fuel+1) listed ⟨L.toArray,df⟩ w:=by
 subst hL;simp only[Yac] at hb;exact q44 d undef hi hd hb.1.1 hb.1.2 hb.2 hQ (.inr ⟨hw,rfl⟩) hS h
theorem tw{P:Program}{md:Region.Mode}{ops:Array Oper}{Q:Exit→Act→World→Prop}{S:World→Prop}(i:Nat){fuel:Nat}{listed:Array Bool}{a:Act}{w:World}
  (h:wpOp P ops Q i (fun a' w'=>S w'∧wpAnyH P md ops Q S fuel (listed.setIfInBounds i true) a' w') a w) (hr:Region.ready md ops listed=[i]:=by kernel_rfl):wpAnyH P md ops Q S (fuel+1) listed a w:=by
 refine wpAnyH_all hr (by simp) ?_;intro j hj;rw[Yaw] at hj;subst hj;exact h
theorem qf6{P:Program}{md:Region.Mode}{ops:Array Oper}{Q:Exit→Act→World→Prop}{S:World→Prop}(i:Nat)(d:Tmp){L:List Value}{df:List Deferred}{o:Oper}{fuel:Nat}{listed:Array Bool}{w:World}
  (hi:ops[i]? =some o) (hd:o.dst=some d) (hr:Region.ready md ops listed=[i]) (hw:Region.wanted o (yielded ops L.toArray)=true) (n:Nat) {fn:Func} {c:Code} (hf:P.funcs[n]? =some fn) (hname:(fn.name== "runtime.NumGoroutine")=false) (hb:fn.body=some c)
  (xs:Array Operand) (ts:Array TypeId) (hop:o.op=Op.call {callee:=Callee.value (Operand.func n),args:=xs,argTypes:=ts})
  (vals:Array Value) (hv:xs.map (Act.eval ⟨L.toArray,df⟩)=vals) {R:Ending→World→Prop} (h:Calls P n vals w R)
  (hK: ∀e w',R e w'→ ∃v,e=.returned v∧S w'∧wpAnyH P md ops Q S fuel (listed.setIfInBounds i true) ⟨(L.set d v).toArray,df⟩ w'):wpAnyH P md ops Q S (fuel+1) listed ⟨L.toArray,df⟩ w:=by
 refine wpAnyH_all hr (by simp) ?_;intro j hj;rw[Yaw] at hj;subst hj;unfold wpOp;simp only[hi];rw[Yav hw];refine .inl ?_
 have hcall: ∀args,(callFunc n args).run P w=.ok (.enter n args) w:=by
  intro args;have h1: ¬(fn.name= "runtime.NumGoroutine"):=by simpa using hname
  simp[callFunc,hf,h1,hb]
 have hrun:(execOp (Act.eval ⟨L.toArray,df⟩) o).run P w=.ok (.enter n vals) w:=by
  unfold execOp;rw[hop];simp[resolve,invoke,Deferred.ofValue,Act.eval,←hv,hcall]
 unfold Oper.wp;rw[hrun,Oper.upon_enter];refine h.mono ?_;intro e w' r;obtain⟨v,rfl,s,k⟩:=hK e w' r;refine⟨s,?_⟩;rw[hd];simpa [Act.put] using k
theorem ch{P:Program}{md:Region.Mode}{ops:Array Oper}{Q:Exit→Act→World→Prop}{S:World→Prop}(i:Nat)(d:Tmp){L:List Value}{df:List Deferred}{o:Oper}{fuel:Nat}{listed:Array Bool}{w:World}
  (hi:ops[i]? =some o) (n:Nat) {fn:Func} {c:Code} (hf:P.funcs[n]? =some fn) (vals:Array Value) {R:Ending→World→Prop} (h:Calls P n vals w R)
  (hK: ∀e w',R e w'→ ∃v,e=.returned v∧S w'∧wpAnyH P md ops Q S fuel (listed.setIfInBounds i true) ⟨(L.set d v).toArray,df⟩ w')
  {xs:Array Operand} {ts:Array TypeId} (hop:o.op=Op.call {callee:=Callee.value (Operand.func n),args:=xs,argTypes:=ts}:=by rfl) (hd:o.dst=some d:=by rfl) (hr:Region.ready md ops listed=[i]:=by kernel_rfl)
  (hw:Region.wanted o (yielded ops L.toArray)=true:=by rfl) (hname:(fn.name== "runtime.NumGoroutine")=false:=by kernel_rfl) (hb:fn.body=some c:=by rfl)
  (hv:xs.map (Act.eval ⟨L.toArray,df⟩)=vals:=by simp[Act.eval]):wpAnyH P md ops Q S (fuel+1) listed ⟨L.toArray,df⟩ w:=
 qf6 i d hi hd hr hw n hf hname hb xs ts hop vals hv h hK
theorem qk8{w:World}{b:Nat}{v0 v1 v2:Value}{t:TypeId}(h:w.heap[b]? =some (.cells #[v0,v1,v2] t (0,0))):
  w.cell? ⟨b,0,none⟩=some v0∧w.cell? ⟨b,1,none⟩=some v1∧w.cell? ⟨b,2,none⟩=some v2:=by
 refine⟨?_,?_,?_⟩<;>(rw[Yak h];rfl)
theorem qle(A:ZA)(l:List Tk)(c:Nat)(j:Jb)(w:World)(h:TS w A l):
  Calls Tryz.prog 54 #[.slice A l.length c,j.val] w fun e w'=>e=.returned (.bool (Vy l j))∧Below w.heap.size w w':=by
 obtain⟨q,a,n⟩:=j;cases hp:plc l q with
 |false=>
  have E:Hid (Vy l ⟨q,a,n⟩=false):=by simp[Hid,Vy,hp]
  have HP:=zhi hp;clear hp;go_enter Tryz.func54,Tryz.ntmps54;go_upto_region 1 with fail;have hT:=zha w (.cells #[.int .i64 q,.int .i64 a,.int .i64 n] 60 (0,0));have hba:=bal (Below.refl w.heap.size w) (.cells #[.int .i64 q,.int .i64 a,.int .i64 n] 60 (0,0));generalize World.alloc w _=wa at hT hba⊢;obtain⟨nb,hnb⟩: ∃nb,w.heap.size=nb:=⟨_,rfl⟩;have hbaw:=hba;rw[hnb] at hT⊢;have hlT:=(bl hT)
  have hSof: ∀{w':World},Below wa.heap.size wa w'→w'.cell? ⟨nb,0,none⟩=some (.int .i64 q)∧w'.cell? ⟨nb,1,none⟩=some (.int .i64 a)∧w'.cell? ⟨nb,2,none⟩=some (.int .i64 n):=by
   intro w' hw;obtain⟨h0,h1,h2⟩:=qk8 ((hw.block nb hlT).trans hT);exact⟨h0,h1,h2⟩
  refine wp_region_held (S:=fun w'=>w'.cell? ⟨nb,0,none⟩=some (.int .i64 q)∧w'.cell? ⟨nb,1,none⟩=some (.int .i64 a)∧w'.cell? ⟨nb,2,none⟩=some (.int .i64 n)) (by kernel_rfl) ?_;change wpAnyH _ _ _ _ _ _ _ _ (World.drew _);have Kz:Below wa.heap.size wa (World.drew wa):=zdr br;have hS0:=hSof Kz;refine tq 0 5 (.slice A l.length c) rfl (fun _ _=>rfl) hS0 ?_;refine tq 1 6 (.pointer (some ⟨nb,0,none⟩)) rfl (fun w _=>by go_simp) hS0 ?_;refine tq 2 7 (.int .i64 (q)) rfl (fun w hS=>by obtain⟨h0,h1,h2⟩:=hS;go_simp) hS0 ?_;refine ch 3 8 rfl 100 Tryz.func100 #[.slice A l.length c,.int .i64 q] (Vs _ l c q _ (h.keep (Qa hba Kz))) ?_;rw[HP.out];rintro e v1 ⟨rfl,k1⟩;have K1:Below wa.heap.size wa v1:=Qa Kz k1;have S1:=hSof K1;refine⟨_,rfl,S1,?_⟩;simp only[lsS,lsZ];refine tq 4 9 (.bool false) rfl (fun _ _=>rfl) S1 ?_;refine tn 5 10 rfl S1 ?_;refine tn 6 11 rfl S1 ?_;refine tn 7 12 rfl S1 ?_;refine tq 8 13 (.bool false) rfl (fun w _=>by go_simp) S1 ?_;refine tq 9 14 (.bool false) rfl (fun _ _=>rfl) S1 ?_;refine tn 10 15 rfl S1 ?_;refine tn 11 16 rfl S1 ?_;refine tn 12 17 rfl S1 ?_;refine tq 13 18 (.bool false) rfl (fun w _=>by go_simp) S1 ?_;refine tq 14 19 (.bool false) rfl (fun _ _=>rfl) S1 ?_;refine tn 15 20 rfl S1 ?_;refine tn 16 21 rfl S1 ?_;refine tn 17 22 rfl S1 ?_;refine tq 18 23 (.bool false) rfl (fun w _=>by go_simp) S1 ?_;refine tq 19 24 (.bool false) rfl (fun _ _=>rfl) S1 ?_;refine tn 20 25 rfl S1 ?_;refine tn 21 26 rfl S1 ?_;refine tn 22 27 rfl S1 ?_;refine tn 23 28 rfl S1 ?_;refine tn 24 29 rfl S1 ?_;refine tn 25 30 rfl S1 ?_;refine tn 26 31 rfl S1 ?_;refine tn 27 32 rfl S1 ?_;refine tn 28 33 rfl S1 ?_;refine tq 29 34 (.bool false) rfl (fun w _=>by go_simp) S1 ?_;refine tq 30 4 (.bool false) rfl (fun _ _=>rfl) S1 ?_;refine wpAnyH_done (by kernel_rfl) ?_ _;go_wp2_with fail;go_ret;exact⟨by rw[E.out];rfl,by first|exact Qa hba K1|(rw[←hnb];exact Qa hba K1)⟩
 |true=>
  by_cases hd:0≤a∧a≤200∧1≤n
  case pos=>
   obtain⟨h0,h1,h2⟩:=hd;have E:Hid (Vy l ⟨q,a,n⟩=decide (n≤(Qg l q.toNat).high)):=by simp[Hid,Vy,hp,h0,h1,h2]
   obtain⟨_,hl5,hk,hq⟩:=qbk hp;have HP:=zhi hp;clear hp;generalize q.toNat=k at hk hq E;subst hq;obtain⟨b,off,rfl,hbl,hc⟩:=h (by omega);obtain⟨_,k1,_⟩:=Qv hc k hk;clear hc;go_enter Tryz.func54,Tryz.ntmps54;go_upto_region 1 with fail;have hT:=zha w (.cells #[.int .i64 (k:Int),.int .i64 a,.int .i64 n] 60 (0,0));have hba:=bal (Below.refl w.heap.size w) (.cells #[.int .i64 (k:Int),.int .i64 a,.int .i64 n] 60 (0,0));generalize World.alloc w _=wa at hT hba⊢;obtain⟨nb,hnb⟩: ∃nb,w.heap.size=nb:=⟨_,rfl⟩;have hbaw:=hba;rw[hnb] at hT⊢;have hlT:=(bl hT)
   have hSof: ∀{w':World},Below wa.heap.size wa w'→w'.cell? ⟨nb,0,none⟩=some (.int .i64 (k:Int))∧w'.cell? ⟨nb,1,none⟩=some (.int .i64 a)∧w'.cell? ⟨nb,2,none⟩=some (.int .i64 n)∧w'.cell? ⟨b,off+k*5+1,none⟩=some (.int .i64 (Qg l k).high):=by
    intro w' hw;obtain⟨h0,h1,h2⟩:=qk8 ((hw.block nb hlT).trans hT);exact⟨h0,h1,h2,(hw.cell (p:=⟨b,off+k*5+1,none⟩) (zlt hbl hba.size)).trans ((hba.cell (p:=⟨b,off+k*5+1,none⟩) hbl).trans k1)⟩
   refine wp_region_held (S:=fun w'=>w'.cell? ⟨nb,0,none⟩=some (.int .i64 (k:Int))∧w'.cell? ⟨nb,1,none⟩=some (.int .i64 a)∧w'.cell? ⟨nb,2,none⟩=some (.int .i64 n)∧w'.cell? ⟨b,off+k*5+1,none⟩=some (.int .i64 (Qg l k).high)) (by kernel_rfl) ?_;change wpAnyH _ _ _ _ _ _ _ _ (World.drew _);have Kz:Below wa.heap.size wa (World.drew wa):=zdr br;have hS0:=hSof Kz;refine tq 0 5 (.slice (some ⟨b,off,none⟩) (l.length) c) rfl (fun _ _=>rfl) hS0 ?_;refine tq 1 6 (.pointer (some ⟨nb,0,none⟩)) rfl (fun w _=>by go_simp) hS0 ?_;refine tq 2 7 (.int .i64 ((k:Int))) rfl (fun w hS=>by obtain⟨h0,h1,h2,h3⟩:=hS;go_simp) hS0 ?_;refine ch 3 8 rfl 100 Tryz.func100 #[.slice (some ⟨b,off,none⟩) (l.length) c,.int .i64 (k:Int)] (Vs _ l c (k:Int) _ (h.keep (Qa hba Kz))) ?_;rw[HP.out];rintro e v1 ⟨rfl,k1⟩;have K1:Below wa.heap.size wa v1:=Qa Kz k1;have S1:=hSof K1;refine⟨_,rfl,S1,?_⟩;simp only[lsS,lsZ];refine tq 4 9 (.bool true) rfl (fun _ _=>rfl) S1 ?_;refine tq 5 10 (.pointer (some ⟨nb,1,none⟩)) rfl (fun w _=>by go_simp) S1 ?_;refine tq 6 11 (.int .i64 (a)) rfl (fun w hS=>by obtain⟨h0,h1,h2,h3⟩:=hS;go_simp) S1 ?_;refine tq 7 12 (.bool true) rfl (fun w _=>by go_simp<;>(first|omega)) S1 ?_;refine tq 8 13 (.bool true) rfl (fun w _=>by go_simp) S1 ?_;refine tq 9 14 (.bool true) rfl (fun _ _=>rfl) S1 ?_;refine tq 10 15 (.pointer (some ⟨nb,1,none⟩)) rfl (fun w _=>by go_simp) S1 ?_;refine tq 11 16 (.int .i64 (a)) rfl (fun w hS=>by obtain⟨h0,h1,h2,h3⟩:=hS;go_simp) S1 ?_;refine tq 12 17 (.bool true) rfl (fun w _=>by go_simp<;>(first|omega)) S1 ?_;refine tq 13 18 (.bool true) rfl (fun w _=>by go_simp) S1 ?_;refine tq 14 19 (.bool true) rfl (fun _ _=>rfl) S1 ?_;refine tq 15 20 (.pointer (some ⟨nb,2,none⟩)) rfl (fun w _=>by go_simp) S1 ?_;refine tq 16 21 (.int .i64 (n)) rfl (fun w hS=>by obtain⟨h0,h1,h2,h3⟩:=hS;go_simp) S1 ?_;refine tq 17 22 (.bool true) rfl (fun w _=>by go_simp<;>(first|omega)) S1 ?_;refine tq 18 23 (.bool true) rfl (fun w _=>by go_simp) S1 ?_;refine tq 19 24 (.bool true) rfl (fun _ _=>rfl) S1 ?_;refine tq 20 25 (.pointer (some ⟨nb,2,none⟩)) rfl (fun w _=>by go_simp) S1 ?_;refine tq 21 26 (.int .i64 (n)) rfl (fun w hS=>by obtain⟨h0,h1,h2,h3⟩:=hS;go_simp) S1 ?_;refine tq 22 27 (.slice (some ⟨b,off,none⟩) (l.length) c) rfl (fun _ _=>rfl) S1 ?_;refine tq 23 28 (.pointer (some ⟨nb,0,none⟩)) rfl (fun w _=>by go_simp) S1 ?_;refine tq 24 29 (.int .i64 ((k:Int))) rfl (fun w hS=>by obtain⟨h0,h1,h2,h3⟩:=hS;go_simp) S1 ?_;refine tq 25 30 (.pointer (some ⟨b,off+k*5,none⟩)) rfl (fun w _=>by go_simp<;>(first|omega|(simp;omega))) S1 ?_;refine tq 26 31 (.pointer (some ⟨b,off+k*5+1,none⟩)) rfl (fun w _=>by go_simp) S1 ?_;refine tq 27 32 (.int .i64 ((Qg l k).high)) rfl (fun w hS=>by obtain⟨h0,h1,h2,h3⟩:=hS;go_simp) S1 ?_;refine tq 28 33 (.bool (decide (n≤(Qg l k).high))) rfl (fun w _=>by go_simp) S1 ?_;refine tq 29 34 (.bool (decide (n≤(Qg l k).high))) rfl (fun w _=>by go_simp) S1 ?_;refine tq 30 4 (.bool (decide (n≤(Qg l k).high))) rfl (fun _ _=>rfl) S1 ?_;refine wpAnyH_done (by kernel_rfl) ?_ _;go_wp2_with fail;go_ret;exact⟨by rw[E.out];rfl,by first|exact Qa hba K1|(rw[←hnb];exact Qa hba K1)⟩
  case neg=>
   have E:Hid (Vy l ⟨q,a,n⟩=false):=by
    rw[Hid,Bool.eq_false_iff];intro hb;simp only[Vy,Yac,Yae] at hb;exact hd ⟨hb.1.1.1.2,hb.1.1.2,hb.1.2⟩
   have HP:=zhi hp;clear hp;by_cases h0:0≤a
   ·by_cases h1:a≤200
    ·have h2: ¬1≤n:=fun h2=>hd ⟨h0,h1,h2⟩
     clear hd;go_enter Tryz.func54,Tryz.ntmps54;go_upto_region 1 with fail;have hT:=zha w (.cells #[.int .i64 q,.int .i64 a,.int .i64 n] 60 (0,0));have hba:=bal (Below.refl w.heap.size w) (.cells #[.int .i64 q,.int .i64 a,.int .i64 n] 60 (0,0));generalize World.alloc w _=wa at hT hba⊢;obtain⟨nb,hnb⟩: ∃nb,w.heap.size=nb:=⟨_,rfl⟩;have hbaw:=hba;rw[hnb] at hT⊢;have hlT:=(bl hT)
     have hSof: ∀{w':World},Below wa.heap.size wa w'→w'.cell? ⟨nb,0,none⟩=some (.int .i64 q)∧w'.cell? ⟨nb,1,none⟩=some (.int .i64 a)∧w'.cell? ⟨nb,2,none⟩=some (.int .i64 n):=by
      intro w' hw;obtain⟨h0,h1,h2⟩:=qk8 ((hw.block nb hlT).trans hT);exact⟨h0,h1,h2⟩
     refine wp_region_held (S:=fun w'=>w'.cell? ⟨nb,0,none⟩=some (.int .i64 q)∧w'.cell? ⟨nb,1,none⟩=some (.int .i64 a)∧w'.cell? ⟨nb,2,none⟩=some (.int .i64 n)) (by kernel_rfl) ?_;change wpAnyH _ _ _ _ _ _ _ _ (World.drew _);have Kz:Below wa.heap.size wa (World.drew wa):=zdr br;have hS0:=hSof Kz;refine tq 0 5 (.slice A l.length c) rfl (fun _ _=>rfl) hS0 ?_;refine tq 1 6 (.pointer (some ⟨nb,0,none⟩)) rfl (fun w _=>by go_simp) hS0 ?_;refine tq 2 7 (.int .i64 (q)) rfl (fun w hS=>by obtain⟨h0,h1,h2⟩:=hS;go_simp) hS0 ?_;refine ch 3 8 rfl 100 Tryz.func100 #[.slice A l.length c,.int .i64 q] (Vs _ l c q _ (h.keep (Qa hba Kz))) ?_;rw[HP.out];rintro e v1 ⟨rfl,k1⟩;have K1:Below wa.heap.size wa v1:=Qa Kz k1;have S1:=hSof K1;refine⟨_,rfl,S1,?_⟩;simp only[lsS,lsZ];refine tq 4 9 (.bool true) rfl (fun _ _=>rfl) S1 ?_;refine tq 5 10 (.pointer (some ⟨nb,1,none⟩)) rfl (fun w _=>by go_simp) S1 ?_;refine tq 6 11 (.int .i64 (a)) rfl (fun w hS=>by obtain⟨h0,h1,h2⟩:=hS;go_simp) S1 ?_;refine tq 7 12 (.bool true) rfl (fun w _=>by go_simp<;>(first|omega)) S1 ?_;refine tq 8 13 (.bool true) rfl (fun w _=>by go_simp) S1 ?_;refine tq 9 14 (.bool true) rfl (fun _ _=>rfl) S1 ?_;refine tq 10 15 (.pointer (some ⟨nb,1,none⟩)) rfl (fun w _=>by go_simp) S1 ?_;refine tq 11 16 (.int .i64 (a)) rfl (fun w hS=>by obtain⟨h0,h1,h2⟩:=hS;go_simp) S1 ?_;refine tq 12 17 (.bool true) rfl (fun w _=>by go_simp<;>(first|omega)) S1 ?_;refine tq 13 18 (.bool true) rfl (fun w _=>by go_simp) S1 ?_;refine tq 14 19 (.bool true) rfl (fun _ _=>rfl) S1 ?_;refine tq 15 20 (.pointer (some ⟨nb,2,none⟩)) rfl (fun w _=>by go_simp) S1 ?_;refine tq 16 21 (.int .i64 (n)) rfl (fun w hS=>by obtain⟨h0,h1,h2⟩:=hS;go_simp) S1 ?_;refine tq 17 22 (.bool false) rfl (fun w _=>by go_simp<;>(first|omega)) S1 ?_;refine tq 18 23 (.bool false) rfl (fun w _=>by go_simp) S1 ?_;refine tq 19 24 (.bool false) rfl (fun _ _=>rfl) S1 ?_;refine tn 20 25 rfl S1 ?_;refine tn 21 26 rfl S1 ?_;refine tn 22 27 rfl S1 ?_;refine tn 23 28 rfl S1 ?_;refine tn 24 29 rfl S1 ?_;refine tn 25 30 rfl S1 ?_;refine tn 26 31 rfl S1 ?_;refine tn 27 32 rfl S1 ?_;refine tn 28 33 rfl S1 ?_;refine tq 29 34 (.bool false) rfl (fun w _=>by go_simp) S1 ?_;refine tq 30 4 (.bool false) rfl (fun _ _=>rfl) S1 ?_;refine wpAnyH_done (by kernel_rfl) ?_ _;go_wp2_with fail;go_ret;exact⟨by rw[E.out];rfl,by first|exact Qa hba K1|(rw[←hnb];exact Qa hba K1)⟩
    ·clear hd;go_enter Tryz.func54,Tryz.ntmps54;go_upto_region 1 with fail;have hT:=zha w (.cells #[.int .i64 q,.int .i64 a,.int .i64 n] 60 (0,0));have hba:=bal (Below.refl w.heap.size w) (.cells #[.int .i64 q,.int .i64 a,.int .i64 n] 60 (0,0));generalize World.alloc w _=wa at hT hba⊢;obtain⟨nb,hnb⟩: ∃nb,w.heap.size=nb:=⟨_,rfl⟩;have hbaw:=hba;rw[hnb] at hT⊢;have hlT:=(bl hT)
     have hSof: ∀{w':World},Below wa.heap.size wa w'→w'.cell? ⟨nb,0,none⟩=some (.int .i64 q)∧w'.cell? ⟨nb,1,none⟩=some (.int .i64 a)∧w'.cell? ⟨nb,2,none⟩=some (.int .i64 n):=by
      intro w' hw;obtain⟨h0,h1,h2⟩:=qk8 ((hw.block nb hlT).trans hT);exact⟨h0,h1,h2⟩
     refine wp_region_held (S:=fun w'=>w'.cell? ⟨nb,0,none⟩=some (.int .i64 q)∧w'.cell? ⟨nb,1,none⟩=some (.int .i64 a)∧w'.cell? ⟨nb,2,none⟩=some (.int .i64 n)) (by kernel_rfl) ?_;change wpAnyH _ _ _ _ _ _ _ _ (World.drew _);have Kz:Below wa.heap.size wa (World.drew wa):=zdr br;have hS0:=hSof Kz;refine tq 0 5 (.slice A l.length c) rfl (fun _ _=>rfl) hS0 ?_;refine tq 1 6 (.pointer (some ⟨nb,0,none⟩)) rfl (fun w _=>by go_simp) hS0 ?_;refine tq 2 7 (.int .i64 (q)) rfl (fun w hS=>by obtain⟨h0,h1,h2⟩:=hS;go_simp) hS0 ?_;refine ch 3 8 rfl 100 Tryz.func100 #[.slice A l.length c,.int .i64 q] (Vs _ l c q _ (h.keep (Qa hba Kz))) ?_;rw[HP.out];rintro e v1 ⟨rfl,k1⟩;have K1:Below wa.heap.size wa v1:=Qa Kz k1;have S1:=hSof K1;refine⟨_,rfl,S1,?_⟩;simp only[lsS,lsZ];refine tq 4 9 (.bool true) rfl (fun _ _=>rfl) S1 ?_;refine tq 5 10 (.pointer (some ⟨nb,1,none⟩)) rfl (fun w _=>by go_simp) S1 ?_;refine tq 6 11 (.int .i64 (a)) rfl (fun w hS=>by obtain⟨h0,h1,h2⟩:=hS;go_simp) S1 ?_;refine tq 7 12 (.bool true) rfl (fun w _=>by go_simp<;>(first|omega)) S1 ?_;refine tq 8 13 (.bool true) rfl (fun w _=>by go_simp) S1 ?_;refine tq 9 14 (.bool true) rfl (fun _ _=>rfl) S1 ?_;refine tq 10 15 (.pointer (some ⟨nb,1,none⟩)) rfl (fun w _=>by go_simp) S1 ?_;refine tq 11 16 (.int .i64 (a)) rfl (fun w hS=>by obtain⟨h0,h1,h2⟩:=hS;go_simp) S1 ?_;refine tq 12 17 (.bool false) rfl (fun w _=>by go_simp<;>(first|omega)) S1 ?_;refine tq 13 18 (.bool false) rfl (fun w _=>by go_simp) S1 ?_;refine tq 14 19 (.bool false) rfl (fun _ _=>rfl) S1 ?_;refine tn 15 20 rfl S1 ?_;refine tn 16 21 rfl S1 ?_;refine tn 17 22 rfl S1 ?_;refine tq 18 23 (.bool false) rfl (fun w _=>by go_simp) S1 ?_;refine tq 19 24 (.bool false) rfl (fun _ _=>rfl) S1 ?_;refine tn 20 25 rfl S1 ?_;refine tn 21 26 rfl S1 ?_;refine tn 22 27 rfl S1 ?_;refine tn 23 28 rfl S1 ?_;refine tn 24 29 rfl S1 ?_;refine tn 25 30 rfl S1 ?_;refine tn 26 31 rfl S1 ?_;refine tn 27 32 rfl S1 ?_;refine tn 28 33 rfl S1 ?_;refine tq 29 34 (.bool false) rfl (fun w _=>by go_simp) S1 ?_;refine tq 30 4 (.bool false) rfl (fun _ _=>rfl) S1 ?_;refine wpAnyH_done (by kernel_rfl) ?_ _;go_wp2_with fail;go_ret;exact⟨by rw[E.out];rfl,by first|exact Qa hba K1|(rw[←hnb];exact Qa hba K1)⟩
   ·clear hd;go_enter Tryz.func54,Tryz.ntmps54;go_upto_region 1 with fail;have hT:=zha w (.cells #[.int .i64 q,.int .i64 a,.int .i64 n] 60 (0,0));have hba:=bal (Below.refl w.heap.size w) (.cells #[.int .i64 q,.int .i64 a,.int .i64 n] 60 (0,0));generalize World.alloc w _=wa at hT hba⊢;obtain⟨nb,hnb⟩: ∃nb,w.heap.size=nb:=⟨_,rfl⟩;have hbaw:=hba;rw[hnb] at hT⊢;have hlT:=(bl hT)
    have hSof: ∀{w':World},Below wa.heap.size wa w'→w'.cell? ⟨nb,0,none⟩=some (.int .i64 q)∧w'.cell? ⟨nb,1,none⟩=some (.int .i64 a)∧w'.cell? ⟨nb,2,none⟩=some (.int .i64 n):=by
     intro w' hw;obtain⟨h0,h1,h2⟩:=qk8 ((hw.block nb hlT).trans hT);exact⟨h0,h1,h2⟩
    refine wp_region_held (S:=fun w'=>w'.cell? ⟨nb,0,none⟩=some (.int .i64 q)∧w'.cell? ⟨nb,1,none⟩=some (.int .i64 a)∧w'.cell? ⟨nb,2,none⟩=some (.int .i64 n)) (by kernel_rfl) ?_;change wpAnyH _ _ _ _ _ _ _ _ (World.drew _);have Kz:Below wa.heap.size wa (World.drew wa):=zdr br;have hS0:=hSof Kz;refine tq 0 5 (.slice A l.length c) rfl (fun _ _=>rfl) hS0 ?_;refine tq 1 6 (.pointer (some ⟨nb,0,none⟩)) rfl (fun w _=>by go_simp) hS0 ?_;refine tq 2 7 (.int .i64 (q)) rfl (fun w hS=>by obtain⟨h0,h1,h2⟩:=hS;go_simp) hS0 ?_;refine ch 3 8 rfl 100 Tryz.func100 #[.slice A l.length c,.int .i64 q] (Vs _ l c q _ (h.keep (Qa hba Kz))) ?_;rw[HP.out];rintro e v1 ⟨rfl,k1⟩;have K1:Below wa.heap.size wa v1:=Qa Kz k1;have S1:=hSof K1;refine⟨_,rfl,S1,?_⟩;simp only[lsS,lsZ];refine tq 4 9 (.bool true) rfl (fun _ _=>rfl) S1 ?_;refine tq 5 10 (.pointer (some ⟨nb,1,none⟩)) rfl (fun w _=>by go_simp) S1 ?_;refine tq 6 11 (.int .i64 (a)) rfl (fun w hS=>by obtain⟨h0,h1,h2⟩:=hS;go_simp) S1 ?_;refine tq 7 12 (.bool false) rfl (fun w _=>by go_simp<;>(first|omega)) S1 ?_;refine tq 8 13 (.bool false) rfl (fun w _=>by go_simp) S1 ?_;refine tq 9 14 (.bool false) rfl (fun _ _=>rfl) S1 ?_;refine tn 10 15 rfl S1 ?_;refine tn 11 16 rfl S1 ?_;refine tn 12 17 rfl S1 ?_;refine tq 13 18 (.bool false) rfl (fun w _=>by go_simp) S1 ?_;refine tq 14 19 (.bool false) rfl (fun _ _=>rfl) S1 ?_;refine tn 15 20 rfl S1 ?_;refine tn 16 21 rfl S1 ?_;refine tn 17 22 rfl S1 ?_;refine tq 18 23 (.bool false) rfl (fun w _=>by go_simp) S1 ?_;refine tq 19 24 (.bool false) rfl (fun _ _=>rfl) S1 ?_;refine tn 20 25 rfl S1 ?_;refine tn 21 26 rfl S1 ?_;refine tn 22 27 rfl S1 ?_;refine tn 23 28 rfl S1 ?_;refine tn 24 29 rfl S1 ?_;refine tn 25 30 rfl S1 ?_;refine tn 26 31 rfl S1 ?_;refine tn 27 32 rfl S1 ?_;refine tn 28 33 rfl S1 ?_;refine tq 29 34 (.bool false) rfl (fun w _=>by go_simp) S1 ?_;refine tq 30 4 (.bool false) rfl (fun _ _=>rfl) S1 ?_;refine wpAnyH_done (by kernel_rfl) ?_ _;go_wp2_with fail;go_ret;exact⟨by rw[E.out];rfl,by first|exact Qa hba K1|(rw[←hnb];exact Qa hba K1)⟩
end Go.Proofs.YtmkjmancmiphfaaGreatDoor

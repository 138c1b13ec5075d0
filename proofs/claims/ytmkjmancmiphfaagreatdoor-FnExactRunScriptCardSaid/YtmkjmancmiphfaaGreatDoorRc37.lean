/-
  The program's ParseSet at any text.
  ParseJobs of texts that FormatJobs has made; the word jobs.
  The program's jobs at any text: told, FormatJobs, ParseJobs.
  Needs raised by the program.
  dmInts: two lists of numbers are equal.
  dmTasks, dmInts: two lists are equal.
  What the word 'shares' does at the desk. (Printed by gen_s3.py.)
  Words at the desk without a rest, all of them.
  Words at the desk with a number, all of them.
-/
import Derived.Test.YtmkjmancmiphfaaGreatDoorRc36
namespace Go.Proofs.YtmkjmancmiphfaaGreatDoor
set_option maxHeartbeats 8000000
set_option maxRecDepth 1000000
open Go.RowKit
theorem q2f(sep:List UInt8)(r:List (List UInt8))(x:List UInt8)(hx:x∈r):x.length≤(Lib.joinTail sep r).length:=by
 unfold Lib.joinTail;induction r with
 |nil=>cases hx
 |cons a r ih=>
  simp only[List.map_cons,List.flatten_cons,Yaa] at ih⊢;rcases Ybz.1 hx with rfl|hx
  ·omega
  ·have:=ih hx;omega
theorem ql2(c:UInt8)(sep s:List UInt8): ∀x∈Qq (c::sep) s,x.length≤s.length:=by
 intro x hx;have hb:=qd1 c sep _ s (zlr _);generalize Qq (c::sep) s=ps at hx hb;cases ps with
 |nil=>cases hx
 |cons a r=>
  rw[←hb,Lib.join_cons,Yaa];rcases Ybz.1 hx with rfl|hx
  ·omega
  ·have:=q2f (c::sep) r x hx;omega
theorem q4w{s:List UInt8}{l:List Tk}(h0:s≠[])(hl:(Qq [59,32] s).length≤5)(h:qj8 tkO (Qq [59,32] s)=some l):qhs s=some l:=by
 unfold qhs;rw[Yaq h0,Yav hl];exact h
theorem q4x{s:List UInt8}(h0:s≠[])(h:qj8 tkO (Qq [59,32] s)=none):qhs s=none:=by
 unfold qhs;rw[Yaq h0,h];split<;>rfl
theorem qji(s:List UInt8)(hl:s.length≤1000000)(w:World)(hM:Mz w.heap.size w):
  Calls Tryz.prog 130 #[.string ⟨s.toArray⟩] w (q6e w (qhs s)):=by
 by_cases h0:s=[]
 ·subst h0;have HS:Hid (qhs []=some []):=rfl;go_enter Tryz.func130,Tryz.ntmps130;go_wp2_with fail;go_ret2;rw[HS.out];exact⟨_,0,rfl,Q8 w _ (zlr _),bal br _⟩
 have hFn:s.isEmpty=false:=by simpa using h0
 have hle:=ql2 59 [32] s;have HN:=zhi (q4x (s:=s) h0)
 have HN5:Hid (¬(Qq [59,32] s).length≤5→qhs s=none):=by
  intro h;unfold qhs;rw[Yaq h0,Yaq h]
 have HE:=zhi (fun l=>q4w (s:=s) (l:=l) h0)
 have hlen:(Qq [59,32] s).length≤s.length+1:=by
  rw[qg3 [59,32] s (by simp)];have h1:=Go.Lib.countB_le ⟨[59,32].toArray⟩ (by rw[Go.Lib.size_eq];simp) _ ⟨s.toArray⟩ (zlr _);rw[Go.Lib.size_eq] at h1;exact Nat.succ_le_succ h1
 obtain⟨ps,hps⟩: ∃ps,Qq [59,32] s=ps:=⟨_,rfl⟩;rw[hps] at hle HN HN5 HE hlen;have HP:=zhi hps;clear h0 hps;go_enter Tryz.func130,Tryz.ntmps130;go_wp2_with fail;refine(qm7 s 59 [32] _ HP.out (hM.mx.keep (bal br _)) (by omega)).mono ?_;rintro e w1 ⟨rfl,rfl⟩;have hP0:=zha (w.alloc (.cells #[] 58)) (.cells (ps.map (fun x=>Value.string ⟨x.toArray⟩)).toArray 9 (0,0));have hsz0:(w.alloc (.cells #[] 58)).heap.size=w.heap.size+1:=by simp
 go_wp2_with fail;go_loopg [4,16] ps.length (fun gg v i wr=> ∃(k:Nat) (bo c':Nat) (ts:List Tk),gg+k=ps.length∧i=.int .i64 (k:Int)∧v=.slice (some ⟨bo,0,none⟩) k c'∧k≤5∧OT w.heap.size wr (some ⟨bo,0,none⟩) c' ts∧Hid (ts.length=k)∧Hid (qj8 tkO (ps.take k)=some ts)∧Hid (wr.heap[w.heap.size+1]? =some (.cells (ps.map (fun x=>Value.string ⟨x.toArray⟩)).toArray 9 (0,0)))∧Below w.heap.size w wr)
 case atStart=>exact⟨0,_,0,[],by omega,rfl,rfl,by omega,Vb (Q8 w _ (zlr _)) _,rfl,rfl,by rw[hsz0] at hP0;simpa [Hid] using hP0,bal (bal br _) _⟩
 case round=>
  obtain⟨k,bo,c',ts,hgk,rfl,rfl,hk5,hO,hTl,hI,hP,hb⟩:=hrel;clear hP0 hsz0;by_cases hlt:k<ps.length
  ·have hx:=qkt hP.out k hlt;have hkI:(k:Int)<(ps.length:Int):=by omega
   have hxl:=hle ps[k] (Yao hlt);have HA:=zhi (fun h=>q12 (f:=tkO) hlt h);have HB:=zhi (fun a=>qt4 (f:=tkO) (a:=a) hlt hI.out);generalize ps[k]=x at hx hxl HA HB;have hPT:=qdt x (by omega) wr ((hM.keep hb).up hb.size);cases hj:tkO x with
   |none=>
    have HF:=zhi (HN.out (HA.out hj));rw[hj,show qla (none:Option Tk)=.tuple #[.agg #[.int .i64 0,.int .i64 0,.int .i64 0,.int .i64 0,.bool false],.bool false] from rfl] at hPT;clear hj;go_wp2_with fail;refine hPT.mono ?_;rintro e w2 ⟨rfl,b2⟩;clear hPT;have B2:=bal (Qa hb b2) (.cells #[.int .i64 0,.int .i64 0,.int .i64 0,.int .i64 0,.bool false] 58 (0,0));go_upto_region 8 with fail;generalize World.alloc w2 _=w3 at B2⊢;go_wp2_with fail;go_ret2;exact qgf w HF.out (qf3 _ _) B2
   |some t=>
    have HD:=zhi (HB.out t hj);rw[hj,show qla (some t)=.tuple #[.agg #[.int .i64 t.low,.int .i64 t.high,.int .i64 t.due,.int .i64 t.every,.bool t.crit],.bool true] from rfl] at hPT;clear hj;by_cases h5:k=5
    ·have HF:=zhi (HN5.out (by omega));subst h5;clear HA HB;go_wp2_with fail;refine hPT.mono ?_;rintro e w2 ⟨rfl,b2⟩;clear hPT;have B2:=bal (Qa hb b2) (.cells #[.int .i64 t.low,.int .i64 t.high,.int .i64 t.due,.int .i64 t.every,.bool t.crit] 58 (0,0));go_upto_region 8 with fail;generalize World.alloc w2 _=w3 at B2⊢;go_wp2_with fail;go_ret2;exact qgf w HF.out (qf3 _ _) B2
    ·have e5:((k:Int)==5)=false:=beq_eq_false_iff_ne.2 (by omega);have hk4:k≤4:=by omega
     have HTk:=zhi hTl.out;clear h5;go_wp2_with fail;refine hPT.mono ?_;rintro e w2 ⟨rfl,b2⟩;have hO2:=Q5 hO b2;have B2:=Qa hb b2;have hP2:=zhi (bh b2 hP.out);clear hO hP hx hPT HN HN5 HE HA HB hI hTl;have hT0:=zha w2 (.cells #[.int .i64 t.low,.int .i64 t.high,.int .i64 t.due,.int .i64 t.every,.bool t.crit] 58 (0,0));have hB0:=bal (Below.refl w2.heap.size w2) (.cells #[.int .i64 t.low,.int .i64 t.high,.int .i64 t.due,.int .i64 t.every,.bool t.crit] 58 (0,0));go_upto_region 10 with fail;generalize World.alloc w2 _=w2b at hT0 hB0⊢;have HT0:w2b.heap[w2.heap.size]? =some (.cells #[.int .i64 t.low,.int .i64 t.high,.int .i64 t.due,.int .i64 t.every,.bool t.crit] 58 (0,0)):=hT0;obtain⟨t0,t1,t2,t3,t4,tf⟩:=Qc HT0;have hO2b:=Q5 hO2 hB0;have B2b:=Qa B2 hB0;have hP2b:=zhi (bh hB0 hP2.out);clear hT0 HT0 hB0 hO2 hP2;go_wp2_with (at_builtin;go_loud (refine qmt _ rfl _ _ rfl w.heap.size (some ⟨bo,0,none⟩) ts k c' HTk.out rfl (Vb hO2b _) w2b.heap.size 1 t _ 58 rfl (zha w2b _) rfl (by rw[HTk.out];omega) (by have:=B2b.size;simp;omega) ?_);intro A3 c3 w3 o3 g3 b3)
     have hP3:=zhi (qm8 ((Yaj w2b (.cells #[.int .i64 t.low,.int .i64 t.high,.int .i64 t.due,.int .i64 t.every,.bool t.crit] 58 (0,0)) _ (Array.getElem?_eq_some_iff.1 hP2b.out).1).trans hP2b.out) g3 (qxl (Vb hO2b (.cells #[.int .i64 t.low,.int .i64 t.high,.int .i64 t.due,.int .i64 t.every,.bool t.crit] 58 (0,0))) ((Yaj w2b (.cells #[.int .i64 t.low,.int .i64 t.high,.int .i64 t.due,.int .i64 t.every,.bool t.crit] 58 (0,0)) _ (Array.getElem?_eq_some_iff.1 hP2b.out).1).trans hP2b.out) (by decide)));obtain⟨b4,rfl,_,_⟩:=qep o3 (by simp);go_roundg (gk-1)
     case measure=>omega
     case rel=>exact⟨k+1,b4,c3,ts++[t],by omega,by go_num,rfl,by omega,o3,by rw[Hid,Yaa,HTk.out];rfl,HD,hP3,(bal B2b _).trans b3⟩
  ·obtain rfl:k=ps.length:=by omega
   have hI2:=hI.out;rw[Ybi] at hI2;have HJ:=zhi (HE.out ts hk5 hI2);have HT2:=zhi hTl.out;clear hI hI2 HE HN HN5 hTl;go_wp2_with fail;go_ret2;rw[HJ.out];refine⟨some ⟨bo,0,none⟩,c',?_,hO,hb⟩;rw[←HT2.out];rfl
structure Bj (w:World) (g:Nat) (wx:World) (t:Jb):Prop where
 t:wx.heap[g]? =some (.cells #[.int .i64 t.task,.int .i64 t.at_,.int .i64 t.need] 60 (0,0))
 b:Below w.heap.size w wx
 lt:w.heap.size≤g
theorem Bj.keep{w wx wy:World}{g:Nat}{t:Jb}(h:Bj w g wx t)(hb:Below wx.heap.size wx wy):Bj w g wy t:=
 ⟨bh hb h.t,Qa h.b hb,h.lt⟩
theorem Bj.st{w wx:World}{g:Nat}{t t':Jb}(h:Bj w g wx t)(i:Nat)(v:Value)(e:(#[.int .i64 t.task,.int .i64 t.at_,.int .i64 t.need]:Array Value).setIfInBounds i v= #[.int .i64 t'.task,.int .i64 t'.at_,.int .i64 t'.need]):Bj w g (wx.setCell ⟨g,i,none⟩ v) t':=
 ⟨by rw[qa5 h.t v,e],h.b.setCell (p:=⟨g,i,none⟩) h.lt v,h.lt⟩
theorem Bj.cells{w wx:World}{g:Nat}{t:Jb}(h:Bj w g wx t):wx.cell? ⟨g,0,none⟩=some (.int .i64 t.task)∧wx.cell? ⟨g,1,none⟩=some (.int .i64 t.at_)∧wx.cell? ⟨g,2,none⟩=some (.int .i64 t.need)∧ ∀i,wx.frozen? ⟨g,i,none⟩=false:=
 ⟨(qk8 h.t).1,(qk8 h.t).2.1,(qk8 h.t).2.2,fun i=>zfz h.t i⟩
theorem qpq(js:List Jb)(ht:qdg js=true)(w:World)(hM:Mx w.heap.size w):
  Calls Tryz.prog 133 #[.string ⟨(Vf js).toArray⟩] w (q21 w js true):=by
 obtain⟨hl60,hall⟩:=qeb ht;have hf:Vf js=qfu js:=by simp[Vf,ht]
 have hsl:=qfc js;have HFm:=zhi hf;have HT:=zhi ht;rw[hf] at hsl⊢;clear ht;by_cases h0:js=[]
 ·subst h0;go_enter Tryz.func133,Tryz.ntmps133;go_wp2_with fail;go_ret2;exact⟨_,0,rfl,qcy w _ (zlr _),bal br _⟩
 ·have hp:=qmi h0;have hne:=qxk h0;obtain⟨F,hF⟩: ∃F,qfu js=F:=⟨_,rfl⟩;rw[hF] at hp hne hsl hf⊢;have HFm:=zhi hf;have hFn:F.isEmpty=false:=by simpa using hne
  have HA:=zhi hall;clear hall hF hf hne;go_enter Tryz.func133,Tryz.ntmps133;go_wp2_with fail;refine(qm7 F 32 [] _ hp (hM.keep (bal br _)) (by omega)).mono ?_;rintro e w1 ⟨rfl,rfl⟩;rw[Ybh];have hP0:=zha (w.alloc (.cells #[] 60)) (.cells ((js.map qfb).map (fun x=>Value.string ⟨x.toArray⟩)).toArray 9 (0,0));have hsz0:(w.alloc (.cells #[] 60)).heap.size=w.heap.size+1:=by simp
  go_wp2_with fail;go_loopw [4,21] (fun v i wr=> ∃(k bo c':Nat),i=.int .i64 (k:Int)∧v=.slice (some ⟨bo,0,none⟩) k c'∧k≤js.length∧OJ w.heap.size wr (some ⟨bo,0,none⟩) c' (js.take k)∧Hid (wr.heap[w.heap.size+1]? =some (.cells ((js.map qfb).map (fun x=>Value.string ⟨x.toArray⟩)).toArray 9 (0,0)))∧Below w.heap.size w wr) (fun _ i _=>js.length-(intOf i).toNat)
  case atStart=>exact⟨0,_,0,rfl,rfl,by omega,qa3 (qcy w _ (zlr _)) _,by rw[hsz0] at hP0;simpa [Hid] using hP0,bal (bal br _) _⟩
  case round=>
   obtain⟨k,bo,c',rfl,rfl,hk,hO,hP,hb⟩:=hrel;clear hP0;by_cases hlt:k<js.length
   ·have hx:=qkt hP.out k (by simpa using hlt);have hvt:=HA.out js[k] (Yao hlt);simp only[List.getElem_map] at hx;have hnx0:js.take k++[js[k]]=js.take (k+1):=by rw[Yad hlt]
    generalize js[k]=t at hx hvt hnx0;have hnx:=zhi hnx0;have hkl:Hid ((js.take k).length=k):=by rw[Hid,Yap];omega
    have hC1:=qro t;have hC2:=qnw t;have hL:=qxj hvt;rw[qbo] at hvt;obtain⟨q,a,n⟩:=t;dsimp only at*
    have hL2:(num a++(58::[])++num n).length≤100:=by
     have h2:=Qp a (by omega);have h3:=Qp n (by omega);simp;omega
    generalize num a++(58::[])++num n=R at hC1 hC2 hL2;generalize qfb ⟨q,a,n⟩=X at hx hC1 hL;have HC1:=zhi hC1;have HC2:=zhi hC2;clear hnx0 hC1 hC2;go_wp2_with fail;refine(qb0 HC1.out ((hM.keep hb).up hb.size) (by omega)).mono ?_;rintro e w2 ⟨rfl,b2⟩;go_wp2_with fail;refine(qb0 HC2.out ((hM.keep (Qa hb b2)).up (Qa hb b2).size) (by omega)).mono ?_;rintro e w3 ⟨rfl,b3⟩;have hO3:=qdk hO (Qa b2 b3);have B3:=Qa hb (Qa b2 b3);have hP3:=zhi (((Qa b2 b3).block _ (Array.getElem?_eq_some_iff.1 hP.out).1).trans hP.out);clear hO hP hx b2 b3;have X:Bj w3 w3.heap.size (w3.alloc (.cells #[.int .i64 0,.int .i64 0,.int .i64 0] 60 (0,0))) ⟨0,0,0⟩:=⟨zha _ _,bal br _,zlr _⟩;go_upto_region 10 with fail;generalize w3.heap.size=g at X⊢;generalize World.alloc w3 _=v0 at X⊢;go_wp2_with fail;refine(qc9 q (by omega) (by omega) _).mono ?_;rintro e v1 ⟨rfl,bv1⟩;replace X:=X.keep bv1;clear bv1;obtain⟨t0,t1,t2,tf⟩:=X.cells;go_upto_region 11 with fail;replace X:=X.st (t':=⟨q,0,0⟩) 0 (.int .i64 q) rfl;clear t0 t1 t2 tf;generalize World.setCell v1 _ _=v2 at X⊢;go_wp2_with fail;refine(qc9 a (by omega) (by omega) _).mono ?_;rintro e v3 ⟨rfl,bv3⟩;replace X:=X.keep bv3;clear bv3;obtain⟨t0,t1,t2,tf⟩:=X.cells;go_upto_region 12 with fail;replace X:=X.st (t':=⟨q,a,0⟩) 1 (.int .i64 a) rfl;clear t0 t1 t2 tf;generalize World.setCell v3 _ _=v4 at X⊢;go_wp2_with fail;refine(qc9 n (by omega) (by omega) _).mono ?_;rintro e v5 ⟨rfl,bv5⟩;replace X:=X.keep bv5;clear bv5;obtain⟨t0,t1,t2,tf⟩:=X.cells;go_upto_region 13 with fail;replace X:=X.st (t':=⟨q,a,n⟩) 2 (.int .i64 n) rfl;clear t0 t1 t2 tf;generalize World.setCell v5 _ _=v6 at X⊢;obtain⟨t0,t1,t2,tf⟩:=X.cells;have hO4:=qdk hO3 X.b;have B4:=Qa B3 X.b;have hP4:=zhi (bh X.b hP3.out);clear hO3 hP3;go_wp2_with (at_builtin;go_loud (refine qbe _ rfl _ _ rfl w.heap.size (some ⟨bo,0,none⟩) (js.take k) k c' hkl.out rfl (qa3 hO4 _) v6.heap.size 1 ⟨q,a,n⟩ _ 60 rfl (zha v6 _) rfl (by rw[hkl.out];omega) (by have:=B4.size;simp;omega) ?_);intro A3 c3 w9 o3 g3 b3)
    have hP9:=zhi (qm8 ((Yaj v6 (.cells #[.int .i64 q,.int .i64 a,.int .i64 n] 60 (0,0)) _ (Array.getElem?_eq_some_iff.1 hP4.out).1).trans hP4.out) g3 (qxl (qa3 hO4 _) ((Yaj v6 (.cells #[.int .i64 q,.int .i64 a,.int .i64 n] 60 (0,0)) _ (Array.getElem?_eq_some_iff.1 hP4.out).1).trans hP4.out) (by decide)));obtain⟨b4,rfl,_,_⟩:=qlb o3 (by simp);rw[hnx.out] at o3;go_roundw
    case rel=>exact⟨k+1,b4,c3,by go_num,rfl,by omega,o3,hP9,(bal B4 _).trans b3⟩
    case measure=>simp[intOf];omega
   ·obtain rfl:k=js.length:=by omega
    rw[Ybi] at hO;go_wp2_with fail;refine(qfw (some ⟨bo,0,none⟩) js c' _ hO.js HT.out (hM.keep hb) hb.size).mono ?_;rw[HFm.out];rintro e w8 ⟨rfl,b8⟩;go_wp2_with fail;go_ret2;exact⟨_,c',rfl,qdk hO b8,Qa hb b8⟩
theorem qug(A:ZA)(js:List Jb)(c:Nat)(w:World)(h:JS w A js)(hm:js.length≤2000000)(ht:qdg js=false):
  Calls Tryz.prog 37 #[.slice A js.length c] w fun e w'=>e=.returned (.bool false)∧Below w.heap.size w w':=by
 have HT:Hid (js.all qbv=true→60<js.length):=by
  intro ha;simp only[qdg,ha,Ycy,decide_eq_false_iff_not] at ht;omega
 clear ht;go_enter Tryz.func37,Tryz.ntmps37;go_wp2_with fail;go_loopw [7] (fun i wr=> ∃k:Nat,i=.int .i64 (k:Int)∧k≤js.length∧Hid ((js.take k).all qbv=true)∧Below w.heap.size w wr) (fun i _=>js.length-(intOf i).toNat)
 case atStart=>exact⟨0,rfl,by omega,rfl,br⟩
 case round=>
  obtain⟨k,rfl,hk,hA,hb⟩:=hrel;by_cases hlt:k<js.length
  ·obtain⟨b,off,rfl,hbl,hc⟩:=h.keep hb (by omega);obtain⟨k0,k1,k2⟩:=Vi hc k hlt;clear hc
   have hall:Hid ((js.take (k+1)).all qbv=((js.take k).all qbv&&qbv js[k])):=by
    rw[Hid,Yad hlt,List.all_append];simp
   generalize js[k]=t at k0 k1 k2 hall;cases ht:qbv t with
   |true=>
    have HA2:Hid ((js.take (k+1)).all qbv=true):=by rw[Hid,hall.out,hA.out,ht];rfl
    obtain⟨v1,v2,v3,v4,v5,v6⟩:=(qbo _).1 ht;clear ht hall;go_wp2_with fail;go_roundw
    case rel=>exact⟨k+1,by go_num,by omega,HA2,bal hb _⟩
    case measure=>simp[intOf];omega
   |false=>
    have hv:Hid (¬(0≤t.task∧t.task≤4∧0≤t.at_∧t.at_≤200∧1≤t.need∧t.need≤20)):=by
     intro h;rw[(qbo t).2 h] at ht;cases ht
    clear ht hall;go_wp2
    all_goals first
     |(go_ret;exact⟨rfl,bal hb _⟩)
     |(exfalso;exact hv.out ⟨by omega,by omega,by omega,by omega,by omega,by omega⟩)
  ·obtain rfl:k=js.length:=by omega
   rw[Ybi] at hA;have h60:=HT.out hA.out;go_wp2_with fail;go_ret;exact⟨by simp;omega,hb⟩
theorem qmz{B:Nat}(A:ZA)(js:List Jb)(c:Nat)(w:World)(h:JS w A js)(hm:js.length≤2000000)(hM:Mx B w)(hB:B≤w.heap.size):
  Calls Tryz.prog 12 #[.slice A js.length c] w fun e w'=>e=.returned (.string ⟨(Vf js).toArray⟩)∧Below w.heap.size w w':=by
 cases ht:qdg js with
 |true=>exact qfw A js c w h ht hM hB
 |false=>
  have HF:Hid (Vf js=[]):=by simp[Hid,Vf,ht]
  have HT:=zhi ht;clear ht;go_enter Tryz.func12,Tryz.ntmps12;go_wp2_with fail;refine(qug A js c _ h hm HT.out).mono ?_;rintro e w1 ⟨rfl,b1⟩;go_wp2_with fail;go_ret;exact⟨by rw[HF.out];rfl,b1⟩
theorem ql3(s:List UInt8)(hl:s.length≤1000000)(w:World)(hM:Mz w.heap.size w)(hN:qdr s=none):
  Calls Tryz.prog 133 #[.string ⟨s.toArray⟩] w (q7w w (qdr s)):=by
 have h0:s≠[]:=by
  intro e;subst e;simp[qdr] at hN
 have HF:=zhi (q1m hN);have HN:=zhi hN;have hFn:s.isEmpty=false:=by simpa using h0
 have hle:=ql2 32 [] s;have hlen:=qen 32 s;obtain⟨ps,hps⟩: ∃ps,Qq [32] s=ps:=⟨_,rfl⟩;rw[hps] at hle hlen;have HP:=zhi hps;clear h0 hps hN;go_enter Tryz.func133,Tryz.ntmps133;go_wp2_with fail;refine(qm7 s 32 [] _ HP.out (hM.mx.keep (bal br _)) (by omega)).mono ?_;rintro e w1 ⟨rfl,rfl⟩;have hP0:=zha (w.alloc (.cells #[] 60)) (.cells (ps.map (fun x=>Value.string ⟨x.toArray⟩)).toArray 9 (0,0));have hsz0:(w.alloc (.cells #[] 60)).heap.size=w.heap.size+1:=by simp
 go_wp2_with fail;go_loopg [4,21] ps.length (fun gg v i wr=> ∃(k bo c':Nat) (ts:List Jb),gg+k=ps.length∧i=.int .i64 (k:Int)∧v=.slice (some ⟨bo,0,none⟩) k c'∧k≤ps.length∧OJ w.heap.size wr (some ⟨bo,0,none⟩) c' ts∧Hid (ts.length=k)∧Hid (wr.heap[w.heap.size+1]? =some (.cells (ps.map (fun x=>Value.string ⟨x.toArray⟩)).toArray 9 (0,0)))∧Below w.heap.size w wr)
 case atStart=>exact⟨0,_,0,[],by omega,rfl,rfl,by omega,qa3 (qcy w _ (zlr _)) _,rfl,by rw[hsz0] at hP0;simpa [Hid] using hP0,bal (bal br _) _⟩
 case round=>
  obtain⟨k,bo,c',ts,hgk,rfl,rfl,hk5,hO,hTl,hP,hb⟩:=hrel;clear hP0 hsz0;by_cases hlt:k<ps.length
  ·have hx:=qkt hP.out k hlt;have hkI:(k:Int)<(ps.length:Int):=by omega
   have hxl:=hle ps[k] (Yao hlt);generalize ps[k]=x at hx hxl;obtain⟨x1,x2,f1,hC1⟩: ∃a b f1,Lib.cut x [64]=(a,b,f1):=⟨_,_,_,rfl⟩;obtain⟨y1,y2,f2,hC2⟩: ∃a1 a2 f2,Lib.cut x2 [58]=(a1,a2,f2):=⟨_,_,_,rfl⟩;have l1:=qq0 x [64];have l2:=qq0 x2 [58];rw[hC1] at l1;rw[hC2] at l2;dsimp only at l1 l2;obtain⟨l11,l12⟩:=l1;obtain⟨l21,l22⟩:=l2;have HC1:=zhi hC1;have HC2:=zhi hC2;have HTk:=zhi hTl.out;clear hC1 hC2 hTl;go_wp2_with fail;refine(qb0 HC1.out ((hM.mx.keep hb).up hb.size) (by omega)).mono ?_;rintro e w2 ⟨rfl,b2⟩;go_wp2_with fail;refine(qb0 HC2.out ((hM.mx.keep (Qa hb b2)).up (Qa hb b2).size) (by omega)).mono ?_;rintro e w3 ⟨rfl,b3⟩;have hO3:=qdk hO (Qa b2 b3);have B3:=Qa hb (Qa b2 b3);have hM3:=(hM.keep B3).up B3.size;have hP3:=zhi (((Qa b2 b3).block _ (Array.getElem?_eq_some_iff.1 hP.out).1).trans hP.out);clear hO hP hx b2 b3;have X:Bj w3 w3.heap.size (w3.alloc (.cells #[.int .i64 0,.int .i64 0,.int .i64 0] 60 (0,0))) ⟨0,0,0⟩:=⟨zha _ _,bal br _,zlr _⟩;go_upto_region 10 with fail;generalize hg:w3.heap.size=g at X hM3⊢;generalize World.alloc w3 _=v0 at X⊢;go_wp2_with fail;refine(qbw x1 (by omega) (hM3.keep (by rw[←hg];exact X.b))).mono ?_;rintro e v1 ⟨⟨q,er1,rfl⟩,bv1⟩;replace X:=X.keep bv1;clear bv1;obtain⟨t0,t1,t2,tf⟩:=X.cells;go_upto_region 11 with fail;replace X:=X.st (t':=⟨q,0,0⟩) 0 (.int .i64 q) rfl;clear t0 t1 t2 tf;generalize World.setCell v1 _ _=v2 at X⊢;go_wp2_with fail;refine(qbw y1 (by omega) (hM3.keep (by rw[←hg];exact X.b))).mono ?_;rintro e v3 ⟨⟨a,er2,rfl⟩,bv3⟩;replace X:=X.keep bv3;clear bv3;obtain⟨t0,t1,t2,tf⟩:=X.cells;go_upto_region 12 with fail;replace X:=X.st (t':=⟨q,a,0⟩) 1 (.int .i64 a) rfl;clear t0 t1 t2 tf;generalize World.setCell v3 _ _=v4 at X⊢;go_wp2_with fail;refine(qbw y2 (by omega) (hM3.keep (by rw[←hg];exact X.b))).mono ?_;rintro e v5 ⟨⟨n,er3,rfl⟩,bv5⟩;replace X:=X.keep bv5;clear bv5;obtain⟨t0,t1,t2,tf⟩:=X.cells;go_upto_region 13 with fail;replace X:=X.st (t':=⟨q,a,n⟩) 2 (.int .i64 n) rfl;clear t0 t1 t2 tf;generalize World.setCell v5 _ _=v6 at X⊢;obtain⟨t0,t1,t2,tf⟩:=X.cells;have hO4:=qdk hO3 X.b;have B4:=Qa B3 X.b;have hP4:=zhi (bh X.b hP3.out);clear hO3 hP3;go_wp2_with (at_builtin;go_loud (refine qbe _ rfl _ _ rfl w.heap.size (some ⟨bo,0,none⟩) ts k c' HTk.out rfl (qa3 hO4 _) v6.heap.size 1 ⟨q,a,n⟩ _ 60 rfl (zha v6 _) rfl (by rw[HTk.out];omega) (by have:=B4.size;simp;omega) ?_);intro A3 c3 w3' o3 g3 b3)
   have hP9:=zhi (qm8 ((Yaj v6 (.cells #[.int .i64 q,.int .i64 a,.int .i64 n] 60 (0,0)) _ (Array.getElem?_eq_some_iff.1 hP4.out).1).trans hP4.out) g3 (qxl (qa3 hO4 (.cells #[.int .i64 q,.int .i64 a,.int .i64 n] 60 (0,0))) ((Yaj v6 (.cells #[.int .i64 q,.int .i64 a,.int .i64 n] 60 (0,0)) _ (Array.getElem?_eq_some_iff.1 hP4.out).1).trans hP4.out) (by decide)));obtain⟨b4,rfl,_,_⟩:=qlb o3 (by simp);go_roundg (gk-1)
   case measure=>omega
   case rel=>exact⟨k+1,b4,c3,ts++[⟨q,a,n⟩],by omega,by go_num,rfl,by omega,o3,by rw[Hid,Yaa,HTk.out];rfl,hP9,(bal B4 _).trans b3⟩
  ·obtain rfl:k=ps.length:=by omega
   have K:=qmz (some ⟨bo,0,none⟩) ts c' wr hO.js (by rw[hTl.out];omega) (hM.mx.keep hb) hb.size;rw[hTl.out] at K;have hq:(Vf ts==s)=false:=beq_eq_false_iff_ne.2 (HF.out ts);generalize Vf ts=F at K hq;clear hTl;go_wp2_with fail;refine K.mono ?_;rintro e w8 ⟨rfl,b8⟩;go_wp2_with fail;go_ret2;exact qwb w HN.out (qsm _ _) (Qa hb b8)
theorem qf0(s:List UInt8)(hl:s.length≤1000000)(w:World)(hM:Mz w.heap.size w):
  Calls Tryz.prog 133 #[.string ⟨s.toArray⟩] w (q7w w (qdr s)):=by
 cases h:qdr s with
 |none=>
  rw[←h];exact ql3 s hl w hM h
 |some js=>
  obtain⟨ht,hs⟩:=qi1 h;have e:Vf js=s:=by rw[Vf,Yav ht,hs]
  rw[←e];exact qpq js ht w hM.mx
theorem q73(l:List Tk)(n:Int)(k:Nat)(hk:k<l.length)(h:k<(upL (l.take k) n++l.drop k).length):(upL (l.take k) n++l.drop k)[k]=l[k]:=by
 have e:(upL (l.take k) n).length=k:=by rw[qrw,Yap];omega
 rw[List.getElem_append_right (by omega)];simp[e]
theorem q6t(l:List Tk)(n:Int)(k:Nat)(hk:k<l.length)(t:Tk)(ht:t=⟨l[k].low+n,l[k].high+n,l[k].due,l[k].every,l[k].crit⟩):(upL (l.take k) n++l.drop k).set k t=upL (l.take (k+1)) n++l.drop (k+1):=by
 have e:(upL (l.take k) n).length=k:=by rw[qrw,Yap];omega
 rw[Yda _ _ (by omega),e,Ycc,Ybo hk,List.set_cons_zero,qxs l n k hk,ht];simp
theorem q5c(l:List Tk)(n:Int)(k:Nat)(hk:k≤l.length):(upL (l.take k) n++l.drop k).length=l.length:=by
 rw[Yaa,qrw,Yap,Ybm];omega
theorem qjj(A:ZA)(l:List Tk)(c:Nat)(n:Int)(w:World)(h:TS w A l)(hm:l.length≤1000000):
  Calls Tryz.prog 138 #[.slice A l.length c,.int .i64 n] w (qq2 w ((qal l n).getD []) (qal l n).isSome):=by
 by_cases hn1:n< -20
 ·have HF:Hid (qal l n=none):=by
   have:decide (-20≤n)=false:=Yaf (by omega);simp[Hid,qal,this]
  have e1:decide (n< -20)=true:=Yag hn1;go_enter Tryz.func138,Tryz.ntmps138;go_wp2_with fail;go_ret2;exact qgg w HF.out (qf3 _ _) br
 by_cases hn2:20<n
 ·have HF:Hid (qal l n=none):=by
   have:decide (n≤20)=false:=Yaf (by omega);simp[Hid,qal,this]
  have e1:decide (n< -20)=false:=Yaf hn1;have e2:decide (n>20)=true:=Yag hn2;go_enter Tryz.func138,Tryz.ntmps138;go_wp2_with fail;go_ret2;exact qgg w HF.out (qf3 _ _) br
 have e1:decide (n< -20)=false:=Yaf hn1;have e2:decide (n>20)=false:=Yaf hn2;cases hS:Qe l with
 |false=>
  have HF:Hid (qal l n=none):=by simp[Hid,qal,hS]
  go_enter Tryz.func138,Tryz.ntmps138;go_wp2_with fail;refine(Qf A l c _ h).mono ?_;rw[hS];rintro e w1 ⟨rfl,b1⟩;clear hS;go_wp2_with fail;go_ret2;exact qgg w HF.out (qf3 _ _) b1
 |true=>
  have HV:=zhi (qa7 hS)
  have HR:Hid (qal l n=if Qe (upL l n) then some (upL l n) else none):=by
   have h1:decide (-20≤n)=true:=Yag (by omega);have h2:decide (n≤20)=true:=Yag (by omega);rw[Hid,qal,hS,h1,h2];rfl
  go_enter Tryz.func138,Tryz.ntmps138;go_wp2_with fail;refine(Qf A l c _ h).mono ?_;rw[hS];rintro e w1 ⟨rfl,b1⟩;clear hS;go_wp2_with fail;refine(qba A l c _ (h.keep b1) (by omega)).mono ?_;rintro e w2 ⟨A2,c2,rfl,o2,b2⟩;have O2:=Ql o2 b1.size;have B2:=Qa b1 b2;clear o2 b1 b2 h;go_wp2_with fail;go_loopg [7,23] l.length (fun gg v i wr=> ∃(k:Nat) (l3:List Tk),gg+k=l.length∧i=.int .i64 (k:Int)∧k≤l.length∧Hid (l3=upL (l.take k) n++l.drop k)∧OT w.heap.size wr A2 c2 l3∧Below w.heap.size w wr)
  case atStart=>exact⟨0,l,by omega,rfl,by omega,by simp[Hid,upL],O2,B2⟩
  case round=>
   clear O2 B2;obtain⟨k,l3,hgk,rfl,hk,hI,hO,hb⟩:=hrel;have HL:Hid (l3.length=l.length):=by rw[Hid,hI.out,q5c l n k hk]
   have hl5:=HV.out.1;by_cases hlt:k<l.length
   ·have e0:decide ((k:Int)<(l.length:Int))=true:=Yag (by omega);have hkI:(k:Int)<(l.length:Int):=by omega
    have hkl2:k<l3.length:=by rw[HL.out];exact hlt
    obtain⟨b,rfl,hbw,hbl⟩:=qep hO (by omega);obtain⟨c0,c1,c2',c3,c4,cf⟩:=qrp hO k hkl2;obtain⟨v1,v2,v3,v4,v5⟩:=qao (HV.out.2 _ (Yao hlt))
    have hat:l3[k]=l[k]:=by
     have:=q73 l n k hlt (by rw[q5c l n k hk];exact hlt);simp only[hI.out];exact this
    have HST:=zhi (fun t ht=>q6t l n k hlt t ht);obtain⟨hO3,hg3⟩:=qq3 hO k 0 hkl2 (by omega) (.int .i64 (l3[k].low+n)) ⟨l3[k].low+n,l3[k].high,l3[k].due,l3[k].every,l3[k].crit⟩ rfl;have hb3:=qad hO hg3 hb.size;have HS2:Hid ((l3.set k ⟨l3[k].low+n,l3[k].high,l3[k].due,l3[k].every,l3[k].crit⟩).length=l.length):=by rw[Hid,Ybc];exact HL.out
    have HS3:Hid ((l3.set k ⟨l3[k].low+n,l3[k].high,l3[k].due,l3[k].every,l3[k].crit⟩).set k ⟨l[k].low+n,l[k].high+n,l[k].due,l[k].every,l[k].crit⟩=upL (l.take (k+1)) n++l.drop (k+1)):=by
     rw[Hid,List.set_set,hI.out];exact HST.out _ rfl
    rw[hat] at c0 c1 c2' c3 c4 hO3 hg3 hb3 HS2 HS3;have hO3b:OT w.heap.size (wr.setCell ⟨b,k*5,none⟩ (.int .i64 (l[k].low+n))) (some ⟨b,0,none⟩) c2 (l3.set k ⟨l[k].low+n,l[k].high,l[k].due,l[k].every,l[k].crit⟩):=by simpa using hO3
    have hb3b:Below w.heap.size wr (wr.setCell ⟨b,k*5,none⟩ (.int .i64 (l[k].low+n))):=by simpa using hb3
    clear hO3 hg3 hb3 HST hat;generalize l[k]=t at*;go_upto_region 8 with fail;generalize World.setCell wr _ _=w3 at hO3b hb3b⊢;clear c0 c1 c2' c3 c4 cf hO;obtain⟨l4,hl4⟩: ∃l4,l3.set k ⟨t.low+n,t.high,t.due,t.every,t.crit⟩=l4:=⟨_,rfl⟩;have hkl4:k<l4.length:=by rw[←hl4,Ybc];exact hkl2
    have hat4:l4[k]=⟨t.low+n,t.high,t.due,t.every,t.crit⟩:=by
     simp only[←hl4];exact Ycp ..
    rw[hl4] at hO3b HS2 HS3;have H4:=zhi hl4;clear hl4;have hb4:=hb.trans hb3b;obtain⟨c0,c1,c2',c3,c4,cf⟩:=qrp hO3b k hkl4;obtain⟨hO5,hg5⟩:=qq3 hO3b k 1 hkl4 (by omega) (.int .i64 (l4[k].high+n)) ⟨l4[k].low,l4[k].high+n,l4[k].due,l4[k].every,l4[k].crit⟩ rfl;have hb5:=qad hO3b hg5 hb4.size;rw[hat4] at c0 c1 c2' c3 c4 hO5 hb5;dsimp only at c0 c1 c2' c3 c4 hO5 hb5;rw[HS3.out] at hO5;clear hat4 hg5 H4 HS2 HS3 hI HL HR hkl2;have hbl3:b<w3.heap.size:=zlt hbl hb3b.size;go_wp2_with fail;go_roundg (gk-1)
    case measure=>omega
    case rel=>exact⟨k+1,_,by omega,by go_num,by omega,rfl,hO5,hb4.trans hb5⟩
   ·obtain rfl:k=l.length:=by omega
    have e0:decide ((l.length:Int)<(l.length:Int))=false:=Yaf (by omega)
    have HI:Hid (l3=upL l n):=by
     rw[Hid,hI.out,Ybi];simp
    clear hI;have K:=Qf A2 l3 c2 wr hO.ts;rw[HL.out] at K;go_wp2_with fail;refine K.mono ?_;cases hv:Qe l3 with
    |false=>
     have HF:Hid (qal l n=none):=by rw[Hid,HR.out,←HI.out,hv];rfl
     rintro e w2 ⟨rfl,b2⟩;clear hv K;go_wp2_with fail;go_ret2;exact qgg w HF.out (qf3 _ _) (Qa hb b2)
    |true=>
     have HF:Hid (qal l n=some l3):=by rw[Hid,HR.out,←HI.out,hv];rfl
     rintro e w2 ⟨rfl,b2⟩;clear hv K;go_wp2_with fail;go_ret2;rw[HF.out];exact⟨A2,c2,by rw[←HL.out];rfl,Q5 hO b2,Qa hb b2⟩
def ql4(B b:Nat)(w:World)(A:ZA)(c:Nat)(jv:Value)(s:St):Prop:=
 B≤b∧ ∃p v,w.heap[b]? =some (.cells #[.slice A s.l.length c,jv,.int .i64 s.pol,p,v] DT (0,0))∧(p=.pointer none∨p=qg4 b)∧w.ownsRowF B 5 1 v s.out.length (Lib.byteCells s.out)∧
  OT B w A c s.l∧w.ownsRow B 60 3 jv s.jn s.jc
theorem ql4.desk{B b:Nat}{w:World}{A:ZA}{c:Nat}{jv:Value}{s:St}(h:ql4 B b w A c jv s):qe0 B b w s:=by
 obtain⟨hB,p,v,h⟩:=h;exact⟨hB,A,c,jv,p,v,h⟩
theorem qe0.x{B b:Nat}{w:World}{s:St}(h:qe0 B b w s): ∃A c jv,ql4 B b w A c jv s:=by
 obtain⟨hB,A,c,jv,p,v,h⟩:=h;exact⟨A,c,jv,hB,p,v,h⟩
theorem ql4.c0{B b:Nat}{w:World}{A:ZA}{c:Nat}{jv:Value}{s:St}(h:ql4 B b w A c jv s):w.cell? ⟨b,0,none⟩=some (.slice A s.l.length c):=by
 obtain⟨hB,p,v,hk,h⟩:=h;rw[Yak hk];rfl
theorem ql4.keep{B b:Nat}{w w':World}{A:ZA}{c:Nat}{jv:Value}{s:St}(h:ql4 B b w A c jv s)(hb:Below w.heap.size w w'):ql4 B b w' A c jv s:=by
 obtain⟨hB,p,v,hk,hp,hv,hO,hJ⟩:=h;have hlt:b<w.heap.size:=(bl hk);refine⟨hB,p,v,(hb.block b hlt).trans hk,hp,?_,Q5 hO hb,qdi hJ hb⟩;refine⟨hv.1,?_⟩;rcases hv.2 with hn|⟨g,cap,cur,fz,e,hg,hh,r⟩
 ·exact .inl hn
 ·exact .inr ⟨g,cap,cur,fz,e,hg,bh hb hh,r⟩
theorem qwm{B b:Nat}{w:World}{A:ZA}{c:Nat}{jv:Value}{s:St}(h:ql4 B b w A c jv s)(x:List UInt8)(hlen:s.out.length+x.length≤140737488355328)(hBw:B≤w.heap.size):
  Calls Tryz.prog 73 #[qg4 b,.string ⟨x.toArray⟩] w fun e w'=>e=.returned (.tuple #[.int .i64 (x.length:Int),.nilIface])∧ql4 B b w' A c jv {s with out:=s.out++x}∧Frm B b w w':=by
 obtain⟨i0,hi,hz0,hz1,hz2⟩:=Ybv qxh;obtain⟨hB,p,v,hk,hp,hv,hO,hJ⟩:=h;have hss:(⟨x.toArray⟩:ByteArray).size=x.length:=by rw[Lib.size_eq]
 have e166:(Lib.strCells ⟨x.toArray⟩)=Lib.byteCells x:=by rw[Lib.strCells_eq]
 go_enter Tryz.func73,Tryz.ntmps73;go_wp2_with fail;refine(qmh b _ _ _ p v _ hk hp).mono ?_;rintro e w1 ⟨rfl,hk1,g1⟩;have c0:w1.cell? ⟨b,3,none⟩=some (qg4 b):=by rw[Yak hk1];rfl
 have c1:w1.cell? ⟨b,4,none⟩=some v:=by rw[Yak hk1];rfl
 have hb1:Below B w w1:=(Below.refl B w).grown g1 hBw (fun k hk=>by cases hk;exact hB);have hf1:Frm B b w w1:=⟨qde g1,hb1⟩
 have hvb:v.ownBlock≠some b:=by
  intro e;obtain⟨cs,fz,hc⟩:=Ybt hv b e;rw[hk] at hc;injection hc with hc
  injection hc with _ ht _
  exact tn3 ht
 have hv1:w1.ownsRowF B 5 1 v s.out.length (Lib.byteCells s.out):=hv.kept g1 (.inr hvb);have hO1:OT B w1 A c s.l:=qae hO _ g1 (fun g hg=>by cases hg;exact⟨_,_,_,hk,tn1⟩);have hJ1:=qae hJ _ g1 (fun g hg=>by cases hg;exact⟨_,_,_,hk,tn4⟩);clear hk hv hO hJ;go_wp2_with (at_builtin;refine Lib.wpList_append_own_stringF _ rfl _ _ 22 9 rfl B 5 i0 Tryz.underlying22 Tryz.underlying9 hi hz0 hz1 hz2 _ _ _ rfl hv1 ⟨x.toArray⟩ rfl ?c3 ?c4 ?c5 ?_)
 case c3=>rw[hss];unfold maxLen;omega
 case c4=>rw[hss];omega
 case c5=>have:=hb1.size;omega
 intro v' w2 hown' hgrow _;have hlt:b<w1.heap.size:=(bl hk1)
 have hk2:w2.heap[b]? =some (.cells #[.slice A s.l.length c,jv,.int .i64 s.pol,qg4 b,v] DT (0,0)):=by
  rw[hgrow.block b hlt (fun e=>hvb e.symm)];exact hk1
 have d0:w2.cell? ⟨b,3,none⟩=some (qg4 b):=by rw[Yak hk2];rfl
 have d1:w2.cell? ⟨b,4,none⟩=some v:=by rw[Yak hk2];rfl
 have f1:w2.frozen? ⟨b,4,none⟩=false:=zfz hk2 4
 have hO2:OT B w2 A c s.l:=qae hO1 _ hgrow (fun g hg=>by
  obtain⟨cs,fz,hc⟩:=Ybt hv1 g hg;exact⟨_,_,_,hc,tn2⟩)
 have hJ2:=qae hJ1 _ hgrow (fun g hg=>by
  obtain⟨cs,fz,hc⟩:=Ybt hv1 g hg;exact⟨_,_,_,hc,tn5⟩)
 have hb2:Below B w w2:=hb1.grown hgrow (by have:=hb1.size;omega) (fun k hk=>(hv1.lt k hk).1);have hf2:Frm B b w w2:=⟨hf1.1.grown hgrow (Ybt hv1),hb2⟩
 have hown':w2.ownsRowF B 5 1 v' (s.out.length+x.length) (Lib.byteCells s.out++Lib.byteCells x):=by
  first
   |exact hown'
   |(rw[e166,hss] at hown';exact hown')
   |(rw[hss] at hown';exact hown')
   |(rw[e166] at hown';exact hown')
 obtain⟨ao,n',cap,rfl⟩: ∃ao n' cap,v'=.slice ao n' cap:=by
  rcases hown'.2 with⟨hv,_⟩|⟨g,cap,cur,fz,hv,_⟩
  ·exact⟨_,_,_,hv⟩
  ·exact⟨_,_,_,hv⟩
 go_wp2
 go_ret2
 have hne:(Value.slice ao n' cap).ownBlock≠some b:=by
  intro e;obtain⟨cs,fz,hc⟩:=Ybt hown' b e;rw[hk2] at hc;injection hc with hc
  injection hc with _ ht _
  exact tn3 ht
 have g3:=qdz w2 b 4 (.slice ao n' cap);refine⟨rfl,⟨hB,qg4 b,_,qhg hk2 4 _,.inr rfl,?_,qae hO2 _ g3 (fun g hg=>by cases hg;exact⟨_,_,_,hk2,tn1⟩),qae hJ2 _ g3 (fun g hg=>by cases hg;exact⟨_,_,_,hk2,tn4⟩)⟩,⟨hf2.1.trans (qde g3),hb2.setCell (p:=⟨b,4,none⟩) hB _⟩⟩;show(w2.setCell ⟨b,4,none⟩ (.slice ao n' cap)).ownsRowF B 5 1 (.slice ao n' cap) (s.out++x).length (Lib.byteCells (s.out++x));rw[Yaa,Lib.byteCells_append];exact hown'.kept g3 (.inr hne)
theorem qzc{B b:Nat}{w:World}{A:ZA}{c:Nat}{jv:Value}{s:St}(h:ql4 B b w A c jv s)(x:List UInt8)(S:ByteArray)(hS:S=⟨x.toArray⟩)(hlen:s.out.length+x.length≤900000)(hBw:B≤w.heap.size):
  Calls Tryz.prog 41 #[.pointer (some ⟨b,0,none⟩),.string S] w fun e w'=>e=.returned (.tuple #[])∧ql4 B b w' A c jv {s with out:=s.out++(x++[10])}∧Frm B b w w':=by
 subst hS;have hx:x.length≤900000:=by omega
 have K: ∀S:ByteArray,S=⟨(x++[10]).toArray⟩→Calls Tryz.prog 73 #[qg4 b,.string S] w fun e w'=>e=.returned (.tuple #[.int .i64 ((x++[10]).length:Int),.nilIface])∧ql4 B b w' A c jv {s with out:=s.out++(x++[10])}∧Frm B b w w':=fun S hS=>by
  subst hS;exact qwm h (x++[10]) (by simp<;>omega) hBw
 go_enter Tryz.func41,Tryz.ntmps41;go_wp2_with fail;refine(K _ (Qn x [10])).mono ?_;rintro e w1 ⟨rfl,D,F⟩;go_wp2_with fail;go_end0
 exact⟨rfl,D,F⟩
theorem quh(s:St)(hS:Qe s.l=true)(ho:s.out.length≤700000):qcn [115,104,97,114,101,115] s {s with out:=s.out++(((((([115,104,97,114,101,115,32]++Vk (Qu false false s.l))++[32])++Vk (Qu true false s.l))++[32])++Vk (Qu true true s.l))++[10])}:=by
 intro B b w hM D hBw;have D0:=D;obtain⟨A,c,jv,c0,c1,c2,f0,f1,f2,hO,hlc⟩:=D0.cells;go_enter Tryz.func77,Tryz.ntmps77;have R1:=Vd hS false false;have R2:=Vd hS true false;have R3:=Vd hS true true;have L1:=qa8 _ R1;have L2:=qa8 _ R2;have L3:=qa8 _ R3;have V1:=zhi (qbh hS false false);have V2:=zhi (qbh hS true false);have V3:=zhi (qbh hS true true);have hbl:b<w.heap.size:=D.lt;clear c0 c1 c2 f0 f1 f2 hO hlc;have DX:=D.x;obtain⟨A,c,jv,DX⟩:=DX;have c0:=DX.c0
 have hO:TS w A s.l:=by
  obtain⟨_,_,_,_,_,_,h,_⟩:=DX;exact h.ts
 generalize Qu false false s.l=r1 at*;generalize Qu true false s.l=r2 at*;generalize Qu true true s.l=r3 at*;go_wp2_with fail;refine wp_region_held (S:=fun w'=>w'.cell? ⟨b,0,none⟩=some (.slice A s.l.length c)) (by kernel_rfl) ?_;change wpAnyH _ _ _ _ _ _ _ _ (World.drew _);have hS0:(World.drew w).cell? ⟨b,0,none⟩=some (.slice A s.l.length c):=c0;have Kz:Below w.heap.size w (World.drew w):=zdr br;refine tq 0 146 (.pointer (some ⟨b,0,none⟩)) rfl (fun _ _=>rfl) hS0 ?_;refine tq 1 147 (.pointer (some ⟨b,0,none⟩)) rfl (fun _ _=>rfl) hS0 ?_;refine tq 2 148 (.pointer (some ⟨b,0,none⟩)) rfl (fun w _=>by go_simp) hS0 ?_;refine tq 3 149 (.pointer (some ⟨b,0,none⟩)) rfl (fun w _=>by go_simp) hS0 ?_;refine tq 4 150 (.slice A s.l.length c) rfl (fun w hS=>by have h1:=hS;go_simp) hS0 ?_;refine tq 9 155 (.pointer (some ⟨b,0,none⟩)) rfl (fun _ _=>rfl) hS0 ?_;refine tq 10 156 (.pointer (some ⟨b,0,none⟩)) rfl (fun w _=>by go_simp) hS0 ?_;refine tq 11 157 (.pointer (some ⟨b,0,none⟩)) rfl (fun w _=>by go_simp) hS0 ?_;refine tq 12 158 (.slice A s.l.length c) rfl (fun w hS=>by have h1:=hS;go_simp) hS0 ?_;refine tq 17 163 (.pointer (some ⟨b,0,none⟩)) rfl (fun _ _=>rfl) hS0 ?_;refine tq 18 164 (.pointer (some ⟨b,0,none⟩)) rfl (fun w _=>by go_simp) hS0 ?_;refine tq 19 165 (.pointer (some ⟨b,0,none⟩)) rfl (fun w _=>by go_simp) hS0 ?_;refine tq 20 166 (.slice A s.l.length c) rfl (fun w hS=>by have h1:=hS;go_simp) hS0 ?_;refine qf6 5 151 rfl rfl (by kernel_rfl) (by rfl) 62 Tryz.func62 (by kernel_rfl) rfl _ _ rfl (#[.slice A s.l.length c,.bool false]) (by simp[Act.eval]) (qcj A s.l c false _ (hO.keep Kz)) ?_;rw[V1.out];rintro e v1 ⟨rfl,k1⟩;have K1:Below w.heap.size w v1:=Qa Kz k1;have S1:=(K1.cell (p:=⟨b,0,none⟩) hbl).trans c0;refine⟨_,rfl,S1,?_⟩;simp only[lsS,lsZ];refine qf6 6 152 rfl rfl (by kernel_rfl) (by rfl) 128 Tryz.func128 (by kernel_rfl) rfl _ _ rfl (#[rv r1]) (by simp[Act.eval]) (qc4 r1 R1 _ (hM.keep (Below.mono K1 hBw)) (zll hBw (Below.size K1))) ?_;rintro e v2 ⟨rfl,k2⟩;have K2:Below w.heap.size w v2:=Qa K1 k2;have S2:=(K2.cell (p:=⟨b,0,none⟩) hbl).trans c0;refine⟨_,rfl,S2,?_⟩;simp only[lsS,lsZ];refine tq 7 153 (.string ⟨([115,104,97,114,101,115,32]++Vk r1).toArray⟩) rfl (fun w _=>by go_simp;rw[Yaq (by omega),Qn];first|rfl|simp) S2 ?_;refine tq 8 154 (.string ⟨(([115,104,97,114,101,115,32]++Vk r1)++[32]).toArray⟩) rfl (fun w _=>by go_simp;rw[Yaq (by omega),Qn];first|rfl|simp) S2 ?_;refine qf6 13 159 rfl rfl (by kernel_rfl) (by rfl) 62 Tryz.func62 (by kernel_rfl) rfl _ _ rfl (#[.slice A s.l.length c,.bool true]) (by simp[Act.eval]) (qcj A s.l c true _ (hO.keep K2)) ?_;rw[V2.out];rintro e v3 ⟨rfl,k3⟩;have K3:Below w.heap.size w v3:=Qa K2 k3;have S3:=(K3.cell (p:=⟨b,0,none⟩) hbl).trans c0;refine⟨_,rfl,S3,?_⟩;simp only[lsS,lsZ];refine qf6 14 160 rfl rfl (by kernel_rfl) (by rfl) 128 Tryz.func128 (by kernel_rfl) rfl _ _ rfl (#[rv r2]) (by simp[Act.eval]) (qc4 r2 R2 _ (hM.keep (Below.mono K3 hBw)) (zll hBw (Below.size K3))) ?_;rintro e v4 ⟨rfl,k4⟩;have K4:Below w.heap.size w v4:=Qa K3 k4;have S4:=(K4.cell (p:=⟨b,0,none⟩) hbl).trans c0;refine⟨_,rfl,S4,?_⟩;simp only[lsS,lsZ];refine tq 15 161 (.string ⟨((([115,104,97,114,101,115,32]++Vk r1)++[32])++Vk r2).toArray⟩) rfl (fun w _=>by go_simp;rw[Yaq (by omega),Qn];first|rfl|simp) S4 ?_;refine tq 16 162 (.string ⟨(((([115,104,97,114,101,115,32]++Vk r1)++[32])++Vk r2)++[32]).toArray⟩) rfl (fun w _=>by go_simp;rw[Yaq (by omega),Qn];first|rfl|simp) S4 ?_;refine qf6 21 167 rfl rfl (by kernel_rfl) (by rfl) 103 Tryz.func103 (by kernel_rfl) rfl _ _ rfl (#[.slice A s.l.length c]) (by simp[Act.eval]) (qgi A s.l c _ (hO.keep K4)) ?_;rw[V3.out];rintro e v5 ⟨rfl,k5⟩;have K5:Below w.heap.size w v5:=Qa K4 k5;have S5:=(K5.cell (p:=⟨b,0,none⟩) hbl).trans c0;refine⟨_,rfl,S5,?_⟩;simp only[lsS,lsZ];refine qf6 22 168 rfl rfl (by kernel_rfl) (by rfl) 128 Tryz.func128 (by kernel_rfl) rfl _ _ rfl (#[rv r3]) (by simp[Act.eval]) (qc4 r3 R3 _ (hM.keep (Below.mono K5 hBw)) (zll hBw (Below.size K5))) ?_;rintro e v6 ⟨rfl,k6⟩;have K6:Below w.heap.size w v6:=Qa K5 k6;have S6:=(K6.cell (p:=⟨b,0,none⟩) hbl).trans c0;refine⟨_,rfl,S6,?_⟩;simp only[lsS,lsZ];refine tq 23 169 (.string ⟨((((([115,104,97,114,101,115,32]++Vk r1)++[32])++Vk r2)++[32])++Vk r3).toArray⟩) rfl (fun w _=>by go_simp;rw[Yaq (by omega),Qn];first|rfl|simp) S6 ?_;refine qf6 24 170 rfl rfl (by kernel_rfl) (by rfl) 41 Tryz.func41 (by kernel_rfl) rfl _ _ rfl (#[.pointer (some ⟨b,0,none⟩),.string ⟨((((([115,104,97,114,101,115,32]++Vk r1)++[32])++Vk r2)++[32])++Vk r3).toArray⟩]) (by simp[Act.eval]) (qzc (DX.keep K6) ((((([115,104,97,114,101,115,32]++Vk r1)++[32])++Vk r2)++[32])++Vk r3) _ rfl (by first|omega|(simp<;>omega)) (zll hBw (Below.size K6))) ?_;rintro e w2 ⟨rfl,DX2,F2⟩;replace F2:=((Frm.refl B b w).thru hBw K6).trans F2;refine⟨_,rfl,DX2.c0,?_⟩;simp only[lsS,lsZ];refine wpAnyH_done (by kernel_rfl) ?_ _;go_wp2_with fail;go_ret;exact⟨rfl,DX2.desk,F2⟩
def q2g(x:List UInt8)(is:Bool)(s s':St):Prop:=
 ∀(B b:Nat) (w:World),Mz B w→qe0 B b w s→B≤w.heap.size→Calls Tryz.prog 77 #[.pointer (some ⟨b,0,none⟩),.string ⟨x.toArray⟩] w fun e w'=>e=.returned (.bool is)∧qe0 B b w' s'∧Frm B b w w'
def qon(x r:List UInt8)(is:Bool)(s s':St):Prop:=
 ∀(B b:Nat) (w:World),Mz B w→qe0 B b w s→B≤w.heap.size→Calls Tryz.prog 78 #[.pointer (some ⟨b,0,none⟩),.string ⟨x.toArray⟩,.string ⟨r.toArray⟩] w fun e w'=>e=.returned (.bool is)∧qe0 B b w' s'∧Frm B b w w'
def qxz(x:List UInt8)(n:Int)(is:Bool)(s s':St):Prop:=
 ∀(B b:Nat) (w:World),Mz B w→qe0 B b w s→B≤w.heap.size→Calls Tryz.prog 80 #[.pointer (some ⟨b,0,none⟩),.string ⟨x.toArray⟩,.int .i64 n] w fun e w'=>e=.returned (.bool is)∧qe0 B b w' s'∧Frm B b w w'
def DoZ(x:List UInt8)(s s':St):Prop:=
 ∀(B b:Nat) (w:World),Mz B w→qe0 B b w s→B≤w.heap.size→Calls Tryz.prog 42 #[.pointer (some ⟨b,0,none⟩),.string ⟨x.toArray⟩] w fun e w'=>e=.returned (.tuple #[])∧qe0 B b w' s'∧Frm B b w w'
theorem qcn.z{x:List UInt8}{s s':St}(h:qcn x s s'):q2g x true s s':=fun B b w hM=>h B b w hM.mx
theorem q45.z{x r:List UInt8}{s s':St}(h:q45 x r s s'):qon x r true s s':=fun B b w hM=>h B b w hM.mx
theorem qda.z{x:List UInt8}{n:Int}{s s':St}(h:qda x n s s'):qxz x n true s s':=fun B b w hM=>h B b w hM.mx
def qb6(s:Ss)(o:List UInt8):St:=⟨s.l,s.js.length,qfe s.js,s.pol,o⟩
theorem qoo(s:St)(hh:qaf s.l s.pol=true)(hl:s.l.length≤maxLen)(ho:s.out.length≤700000):qcn [104,111,108,100,115] s {s with out:=s.out++([104,111,108,100,115,32,121,101,115]++[10])}:=by
 intro B b w hM D hBw;have D0:=D;obtain⟨A,c,jv,c0,c1,c2,f0,f1,f2,hO,hlc⟩:=D0.cells;go_enter Tryz.func77,Tryz.ntmps77;go_wp2_with fail;go_region_with (go_at_call 125;refine(Vw A s.l c s.pol _ (hO.ts.keep (bdr br _)) hl hlc).mono ?_;rw[hh];rintro e w1 ⟨rfl,b1⟩;replace b1:=Qa (bdr (Below.refl w.heap.size w) _) b1)
 all_goals
  have D1:=D.keep b1;have F1:=(Frm.refl B b w).thru hBw b1;go_wp2_with fail;refine(Q2 D1 [104,111,108,100,115,32,121,101,115] _ (rfl) (by simp<;>omega) (zll hBw F1.size)).mono ?_;rintro e w2 ⟨rfl,D2,F2⟩;go_wp2_with fail;go_ret;exact⟨rfl,D2,F1.trans F2⟩
theorem qpr(s:St)(hh:qaf s.l s.pol=false)(hl:s.l.length≤maxLen)(ho:s.out.length≤700000):qcn [104,111,108,100,115] s {s with out:=s.out++([104,111,108,100,115,32,110,111]++[10])}:=by
 intro B b w hM D hBw;have D0:=D;obtain⟨A,c,jv,c0,c1,c2,f0,f1,f2,hO,hlc⟩:=D0.cells;go_enter Tryz.func77,Tryz.ntmps77;go_wp2_with fail;go_region_with (go_at_call 125;refine(Vw A s.l c s.pol _ (hO.ts.keep (bdr br _)) hl hlc).mono ?_;rw[hh];rintro e w1 ⟨rfl,b1⟩;replace b1:=Qa (bdr (Below.refl w.heap.size w) _) b1)
 all_goals
  have D1:=D.keep b1;have F1:=(Frm.refl B b w).thru hBw b1;go_wp2_with fail;refine(Q2 D1 [104,111,108,100,115,32,110,111] _ (rfl) (by simp<;>omega) (zll hBw F1.size)).mono ?_;rintro e w2 ⟨rfl,D2,F2⟩;go_wp2_with fail;go_ret;exact⟨rfl,D2,F1.trans F2⟩
theorem qj6(A B:ZA)(l:List Tk)(c d:Nat)(w:World)(h:TS w A l)(h0:l.length≠0):
  Calls Tryz.prog 179 #[.slice A l.length c,.slice B 0 d] w fun e w'=>e=.returned (.bool false)∧Below w.heap.size w w':=by
 have hne:((0:Int) !=(l.length:Int))=true:=by rw[Ydm];omega
 clear h0;cases hS:Qe l
 all_goals
  go_enter Tryz.func179,Tryz.ntmps179;go_wp2_with fail;refine(Qf A l c _ h).mono ?_;rw[hS];rintro e w1 ⟨rfl,b1⟩;go_wp2_with fail;go_ret;exact⟨rfl,b1⟩
theorem ql5(A B:ZA)(l:List Tk)(c d:Nat)(w:World)(h:TS w A l)(h0:l.length≠0):
  Calls Tryz.prog 124 #[.slice A l.length c,.slice B 0 d] w fun e w'=>e=.returned (.tuple #[.slice none 0 0,.bool false])∧Below w.heap.size w w':=by
 go_enter Tryz.func124,Tryz.ntmps124;go_wp2_with fail;refine(qj6 A B l c d _ h h0).mono ?_;rintro e w1 ⟨rfl,b1⟩;go_wp2_with fail;go_ret2;exact⟨rfl,b1⟩
theorem qwn{l:List Tk}(h:Ve l=none):l.length≠0:=by
 intro e;have:l=[]:=List.length_eq_zero_iff.1 e;subst this;simp[Ve,Qe,aud] at h
theorem qui(s:St)(o:List Nat)(hao:Ve s.l=some o)(_hl:s.l.length≤maxLen)(ho:s.out.length≤700000):qcn [97,115,115,105,103,110] s ⟨qb5 s.l o,0,[],s.pol,s.out++(Va (qb5 s.l o)++[10])⟩:=by
 intro B b w hM D hBw;have D0:=D;obtain⟨A,c,jv,c0,c1,c2,f0,f1,f2,hO,hlc⟩:=D0.cells;go_enter Tryz.func77,Tryz.ntmps77;obtain⟨g1,g2,g3⟩:=qdw hao;have hl5:=Vl g1;have hol:Hid (o.length=s.l.length):=by have:=g2.length_eq;simpa [Hid] using this
 have ho5:o.length≤5:=by rw[hol.out];exact hl5
 have hx: ∀x∈o,x<s.l.length:=fun x hx=>Ybu.1 ((g2.mem_iff).1 hx)
 have e1:qmd s.l=Vv o:=by simp[qmd,hao]
 have e2:(Ve s.l).isSome=true:=by simp[hao]
 have HX:=zhi hx;have H1:=zhi g1;have H2:=zhi g2;have HE1:=zhi e1;have HE2:=zhi e2;clear hx g1 g2 g3 hao e1 e2;go_wp2_with fail;refine(qbz A s.l c _ hO.ts).mono ?_;rw[HE1.out,HE2.out];rintro e w1 ⟨A5,c5,he,o5,b1⟩;rw[Qh] at he;subst he;have D1:=D.keep b1;have F1:=(Frm.refl B b w).thru hBw b1;have C1:=D1.cells;clear c0 c1 c2 f0 f1 f2;obtain⟨A3,c3,jv3,c0,c1,c2,f0,f1,f2,hO3,hlc3⟩:=C1;go_wp2_with fail;refine(qgz A3 A5 s.l o c3 c5 _ hO3.ts o5.is HX.out (by omega) (by omega) H1.out H2.out).mono ?_;rintro e w1' ⟨A6,c6,rfl,o6,b1'⟩;replace F1:=F1.thru hBw b1';replace D1:=D1.keep b1';go_wp2_with fail;refine(qd0 D1 A6 _ c6 (Ql o6 (zll hBw b1.size)) (by omega) (zll hBw F1.size)).mono ?_;rintro e w2 ⟨rfl,D2,F2⟩;go_wp2_with fail;go_ret;exact⟨rfl,D2,F1.trans F2⟩
theorem qop(s:St)(hao:Ve s.l=none)(_hl:s.l.length≤maxLen)(ho:s.out.length≤700000):qcn [97,115,115,105,103,110] s {s with out:=s.out++[110,111,10]}:=by
 intro B b w hM D hBw;have D0:=D;obtain⟨A,c,jv,c0,c1,c2,f0,f1,f2,hO,hlc⟩:=D0.cells;go_enter Tryz.func77,Tryz.ntmps77;have h0:=qwn hao;have e1:qmd s.l=[]:=by simp[qmd,hao]
 have e2:(Ve s.l).isSome=false:=by simp[hao]
 have HE1:=zhi e1;have HE2:=zhi e2;clear hao e1 e2;go_wp2_with fail;refine(qbz A s.l c _ hO.ts).mono ?_;rw[HE1.out,HE2.out];rintro e w1 ⟨A5,c5,rfl,o5,b1⟩;have D1:=D.keep b1;have F1:=(Frm.refl B b w).thru hBw b1;have C1:=D1.cells;clear c0 c1 c2 f0 f1 f2;obtain⟨A3,c3,jv3,c0,c1,c2,f0,f1,f2,hO3,hlc3⟩:=C1;go_wp2_with fail;refine(ql5 A3 A5 s.l c3 c5 _ hO3.ts h0).mono ?_;rintro e w1' ⟨rfl,b1'⟩;replace F1:=F1.thru hBw b1';replace D1:=D1.keep b1';go_wp2_with fail;refine(qi0 D1 _ (by omega) (zll hBw F1.size)).mono ?_;rintro e w2 ⟨rfl,D2,F2⟩;go_wp2_with fail;go_ret;exact⟨rfl,D2,F1.trans F2⟩
theorem quj(s:St)(r:Rat)(hr:qkn s.l=.tuple #[rv r,.bool true])(hR:RIn r)(hl:s.l.length≤maxLen)(ho:s.out.length≤700000):qcn [102,97,99,116,111,114] s {s with out:=s.out++(([102,97,99,116,111,114,32]++Vk r)++[10])}:=by
 intro B b w hM D hBw;have D0:=D;obtain⟨A,c,jv,c0,c1,c2,f0,f1,f2,hO,hlc⟩:=D0.cells;go_enter Tryz.func77,Tryz.ntmps77;have hnl:=qa8 r hR;go_wp2_with fail;refine(qbs A s.l c _ hO.ts hl).mono ?_;rw[hr];rintro e w1 ⟨rfl,b1⟩;have D1:=D.keep b1;have F1:=(Frm.refl B b w).thru hBw b1;have F1:=F1.thru hBw (bal (Below.refl w1.heap.size w1) (.cells #[.int .i64 r.num,.int .i64 (r.den:Int)] 54 (0,0)));have D1:=D1.keep (bal (Below.refl w1.heap.size w1) (.cells #[.int .i64 r.num,.int .i64 (r.den:Int)] 54 (0,0)));go_wp2_with fail;refine(qc4 r hR _ (hM.keep F1.2) (zll hBw F1.size)).mono ?_;rintro e w1' ⟨rfl,b1'⟩;replace F1:=F1.thru hBw b1';replace D1:=D1.keep b1';go_wp2_with fail;refine(Q2 D1 ([102,97,99,116,111,114,32]++Vk r) _ (Qn _ _) (by simp<;>omega) (zll hBw F1.size)).mono ?_;rintro e w2 ⟨rfl,D2,F2⟩;go_wp2_with fail;go_ret;exact⟨rfl,D2,F1.trans F2⟩
theorem qoq(s:St)(hr:qkn s.l=.tuple #[sv 0 0,.bool false])(hl:s.l.length≤maxLen)(ho:s.out.length≤700000):qcn [102,97,99,116,111,114] s {s with out:=s.out++([110,111,110,101]++[10])}:=by
 intro B b w hM D hBw;have D0:=D;obtain⟨A,c,jv,c0,c1,c2,f0,f1,f2,hO,hlc⟩:=D0.cells;go_enter Tryz.func77,Tryz.ntmps77;go_wp2_with fail;refine(qbs A s.l c _ hO.ts hl).mono ?_;rw[hr];rintro e w1 ⟨rfl,b1⟩;have D1:=D.keep b1;have F1:=(Frm.refl B b w).thru hBw b1;have F1:=F1.thru hBw (bal (Below.refl w1.heap.size w1) (.cells #[.int .i64 0,.int .i64 0] 54 (0,0)));have D1:=D1.keep (bal (Below.refl w1.heap.size w1) (.cells #[.int .i64 0,.int .i64 0] 54 (0,0)));go_wp2_with fail;refine(Q2 D1 [110,111,110,101] _ (rfl) (by simp<;>omega) (zll hBw F1.size)).mono ?_;rintro e w2 ⟨rfl,D2,F2⟩;go_wp2_with fail;go_ret;exact⟨rfl,D2,F1.trans F2⟩
theorem qzd(s:St)(_hl:s.l.length≤maxLen)(ho:s.out.length≤700000):qcn [115,111,114,116] s ⟨qfv s.l,0,[],s.pol,s.out++(Va (qfv s.l)++[10])⟩:=by
 intro B b w hM D hBw;have D0:=D;obtain⟨A,c,jv,c0,c1,c2,f0,f1,f2,hO,hlc⟩:=D0.cells;go_enter Tryz.func77,Tryz.ntmps77;go_wp2_with fail;refine(qtt A s.l c _ hO.ts).mono ?_;rintro e w1 ⟨A1,d1,rfl,o1,b1⟩;have D1:=D.keep b1;have F1:=(Frm.refl B b w).thru hBw b1;go_wp2_with fail;refine(qd0 D1 A1 _ d1 (Ql o1 hBw) (by omega) (zll hBw b1.size)).mono ?_;rintro e w2 ⟨rfl,D2,F2⟩;go_wp2_with fail;go_ret;exact⟨rfl,D2,F1.trans F2⟩
theorem quk(s:St)(n:Int)(hr:qru s.l s.pol=some n)(h0:0≤n)(h9:n≤100000)(hl:s.l.length≤maxLen)(ho:s.out.length≤700000):qcn [102,101,119,101,115,116] s {s with out:=s.out++(([102,101,119,101,115,116,32]++num n)++[10])}:=by
 intro B b w hM D hBw;have D0:=D;obtain⟨A,c,jv,c0,c1,c2,f0,f1,f2,hO,hlc⟩:=D0.cells;go_enter Tryz.func77,Tryz.ntmps77;have hnl:=Qp n (by omega);go_wp2_with fail;go_region_with (go_at_call 129;refine(qjh A s.l c s.pol _ (hO.ts.keep (bdr br _)) hl hlc).mono ?_;rw[hr,show qes (some n)=.tuple #[.int .i64 n,.bool true] from rfl];rintro e w1 ⟨rfl,b1⟩;replace b1:=Qa (bdr (Below.refl w.heap.size w) _) b1)
 all_goals
  have D1:=D.keep b1;have F1:=(Frm.refl B b w).thru hBw b1;go_wp2_with fail;refine(qbu (hM.keep F1.2) n h0 (by omega)).mono ?_;rintro e w1' ⟨rfl,b1'⟩;replace F1:=F1.thru hBw b1';replace D1:=D1.keep b1';go_wp2_with fail;refine(Q2 D1 ([102,101,119,101,115,116,32]++num n) _ (Qn _ _) (by simp<;>omega) (zll hBw F1.size)).mono ?_;rintro e w2 ⟨rfl,D2,F2⟩;go_wp2_with fail;go_ret;exact⟨rfl,D2,F1.trans F2⟩
theorem qor(s:St)(hr:qru s.l s.pol=none)(hl:s.l.length≤maxLen)(ho:s.out.length≤700000):qcn [102,101,119,101,115,116] s {s with out:=s.out++([110,111,110,101]++[10])}:=by
 intro B b w hM D hBw;have D0:=D;obtain⟨A,c,jv,c0,c1,c2,f0,f1,f2,hO,hlc⟩:=D0.cells;go_enter Tryz.func77,Tryz.ntmps77;go_wp2_with fail;go_region_with (go_at_call 129;refine(qjh A s.l c s.pol _ (hO.ts.keep (bdr br _)) hl hlc).mono ?_;rw[hr,show qes none=.tuple #[.int .i64 0,.bool false] from rfl];rintro e w1 ⟨rfl,b1⟩;replace b1:=Qa (bdr (Below.refl w.heap.size w) _) b1)
 all_goals
  have D1:=D.keep b1;have F1:=(Frm.refl B b w).thru hBw b1;go_wp2_with fail;refine(Q2 D1 [110,111,110,101] _ rfl (by simp<;>omega) (zll hBw F1.size)).mono ?_;rintro e w2 ⟨rfl,D2,F2⟩;go_wp2_with fail;go_ret;exact⟨rfl,D2,F1.trans F2⟩
theorem qze(x:List UInt8)(s:St)(n0:(x==([115,111,114,116]:List UInt8))=false)(n1:(x==([97,115,115,105,103,110]:List UInt8))=false)(n2:(x==([112,108,97,99,101,115]:List UInt8))=false)(n3:(x==([100,101,97,100,108,105,110,101,115]:List UInt8))=false)(n4:(x==([115,104,111,119]:List UInt8))=false)(n5:(x==([104,111,108,100,115]:List UInt8))=false)(n6:(x==([114,101,115,112,111,110,115,101,115]:List UInt8))=false)(n7:(x==([115,104,97,114,101,115]:List UInt8))=false)(n8:(x==([102,97,99,116,111,114]:List UInt8))=false)(n9:(x==([102,101,119,101,115,116]:List UInt8))=false):q2g x false s s:=by
 intro B b w hM D hBw;have D0:=D;obtain⟨A,c,jv,c0,c1,c2,f0,f1,f2,hO,hlc⟩:=D0.cells;go_enter Tryz.func77,Tryz.ntmps77;go_wp2_with fail;go_ret;exact⟨rfl,D,Frm.refl B b w⟩
theorem qee{B b:Nat}{w:World}{s:St}(h:qe0 B b w s)(v:Value)(hlen:s.out.length≤800000)(hBw:B≤w.heap.size):
  Calls Tryz.prog 134 #[.pointer (some ⟨b,0,none⟩),v,.bool false] w fun e w'=>e=.returned (.tuple #[])∧qe0 B b w' {s with out:=s.out++([119,104,97,116]++[10])}∧Frm B b w w':=by
 go_enter Tryz.func134,Tryz.ntmps134;go_wp2_with fail;refine(Q2 h [119,104,97,116] _ rfl (by simp;omega) hBw).mono ?_;rintro e w1 ⟨rfl,D,F⟩;go_wp2_with fail;(try simp only[Exit.inBlock,Exit.then])
 refine bodyPost_ret (results_none rfl _ _ _) rfl ?_;exact⟨rfl,D,F⟩
theorem qzf(x:Int)(s:St)(n:Int)(hr:Vm s.l x s.pol=some n)(h0:0≤n)(h9:n≤100000)(hl:s.l.length≤maxLen)(ho:s.out.length≤700000):qda [104,105,103,104] x s {s with out:=s.out++(([104,105,103,104,32]++num n)++[10])}:=by
 intro B b w hM D hBw;have D0:=D;obtain⟨A,c,jv,c0,c1,c2,f0,f1,f2,hO,hlc⟩:=D0.cells;go_enter Tryz.func80,Tryz.ntmps80;have hnl:=Qp n (by omega);go_wp2_with fail;go_region_with (go_at_call 142;refine(qk1 A s.l c x s.pol _ (hO.ts.keep (bdr br _)) hl hlc).mono ?_;rw[hr,show qes (some n)=.tuple #[.int .i64 n,.bool true] from rfl];rintro e w1 ⟨rfl,b1⟩;replace b1:=Qa (bdr (Below.refl w.heap.size w) _) b1)
 all_goals
  have D1:=D.keep b1;have F1:=(Frm.refl B b w).thru hBw b1;go_wp2_with fail;refine(qbu (hM.keep F1.2) n h0 (by omega)).mono ?_;rintro e w1' ⟨rfl,b1'⟩;replace F1:=F1.thru hBw b1';replace D1:=D1.keep b1';go_wp2_with fail;refine(Q2 D1 ([104,105,103,104,32]++num n) _ (Qn _ _) (by simp<;>omega) (zll hBw F1.size)).mono ?_;rintro e w2 ⟨rfl,D2,F2⟩;go_wp2_with fail;go_ret;exact⟨rfl,D2,F1.trans F2⟩
theorem qsa(x:Int)(s:St)(hr:Vm s.l x s.pol=none)(hl:s.l.length≤maxLen)(ho:s.out.length≤700000):qda [104,105,103,104] x s {s with out:=s.out++([110,111,110,101]++[10])}:=by
 intro B b w hM D hBw;have D0:=D;obtain⟨A,c,jv,c0,c1,c2,f0,f1,f2,hO,hlc⟩:=D0.cells;go_enter Tryz.func80,Tryz.ntmps80;go_wp2_with fail;go_region_with (go_at_call 142;refine(qk1 A s.l c x s.pol _ (hO.ts.keep (bdr br _)) hl hlc).mono ?_;rw[hr,show qes none=.tuple #[.int .i64 0,.bool false] from rfl];rintro e w1 ⟨rfl,b1⟩;replace b1:=Qa (bdr (Below.refl w.heap.size w) _) b1)
 all_goals
  have D1:=D.keep b1;have F1:=(Frm.refl B b w).thru hBw b1;go_wp2_with fail;refine(Q2 D1 [110,111,110,101] _ rfl (by simp<;>omega) (zll hBw F1.size)).mono ?_;rintro e w2 ⟨rfl,D2,F2⟩;go_wp2_with fail;go_ret;exact⟨rfl,D2,F1.trans F2⟩
theorem qzg(n:Int)(s:St)(ws:List Int)(hr:qht s.l n s.pol=some ws)(hl:s.l.length≤maxLen)(ho:s.out.length≤700000):qda [112,97,99,107] n s {s with out:=s.out++qas s.l ws++([101,110,100]++[10])}:=by
 intro B b w hM D hBw;have D0:=D;obtain⟨A,c,jv,c0,c1,c2,f0,f1,f2,hO,hlc⟩:=D0.cells;go_enter Tryz.func80,Tryz.ntmps80;have hfl:=qlt s.l ws;have e1:ffL s.l n s.pol=ws:=by simp[ffL,hr]
 have e2:(qht s.l n s.pol).isSome=true:=by simp[hr]
 go_wp2_with fail;go_region_with (go_at_call 143;refine(qjg A s.l c n s.pol _ (hO.ts.keep (bdr br _)) hl hlc).mono ?_;rw[e1,e2];rintro e w1 ⟨A1,d1,rfl,o1,b1⟩;replace b1:=Qa (bdr (Below.refl w.heap.size w) _) b1)
 all_goals
  have D1:=D.keep b1;have F1:=(Frm.refl B b w).thru hBw b1;have HO1:=Q5 hO b1;clear e1 e2;have C1:=D1.cells;clear c0 c1 c2 f0 f1 f2;obtain⟨A3,c3,jv3,c0,c1,c2,f0,f1,f2,hO3,hlc3⟩:=C1;go_wp2_with fail
  go_region_with (first
   |(go_at_call 144;refine(qn5 A3 A1 s.l ws c3 d1 _ (hO3.ts.keep (bdr br _)) (o1.is.keep (bdr br _))).mono ?_;rintro e w1' ⟨rfl,b1'⟩;replace b1':=Qa (bdr (Below.refl w1.heap.size w1) _) b1';replace F1:=F1.thru hBw b1';replace D1:=D1.keep b1')
   |(go_at_call 73;refine(qnv D1 (qas s.l ws) _ rfl (by omega) (zll hBw F1.size)).mono ?_;rintro e wm ⟨rfl,Dm,Fm⟩;replace F1:=F1.trans Fm))
  all_goals
   go_wp2_with fail;refine(Q2 Dm [101,110,100] _ (rfl) (by simp<;>omega) (zll hBw F1.size)).mono ?_;rintro e w2 ⟨rfl,D2,F2⟩;go_wp2_with fail;go_ret;exact⟨rfl,D2,F1.trans F2⟩
theorem qsb(n:Int)(s:St)(hr:qht s.l n s.pol=none)(hl:s.l.length≤maxLen)(ho:s.out.length≤700000):qda [112,97,99,107] n s {s with out:=s.out++([110,111,110,101]++[10])}:=by
 intro B b w hM D hBw;have D0:=D;obtain⟨A,c,jv,c0,c1,c2,f0,f1,f2,hO,hlc⟩:=D0.cells;go_enter Tryz.func80,Tryz.ntmps80;have e1:ffL s.l n s.pol=[]:=by simp[ffL,hr]
 have e2:(qht s.l n s.pol).isSome=false:=by simp[hr]
 go_wp2_with fail;go_region_with (go_at_call 143;refine(qjg A s.l c n s.pol _ (hO.ts.keep (bdr br _)) hl hlc).mono ?_;rw[e1,e2];rintro e w1 ⟨A1,d1,rfl,o1,b1⟩;replace b1:=Qa (bdr (Below.refl w.heap.size w) _) b1)
 all_goals
  have D1:=D.keep b1;have F1:=(Frm.refl B b w).thru hBw b1;go_wp2_with fail;refine(Q2 D1 [110,111,110,101] _ rfl (by simp<;>omega) (zll hBw F1.size)).mono ?_;rintro e w2 ⟨rfl,D2,F2⟩;go_wp2_with fail;go_ret;exact⟨rfl,D2,F1.trans F2⟩
theorem qsc(n:Int)(s:St)(hr:qay s.l n false=none)(ho:s.out.length≤700000):qda [114,117,108,101] n s {s with out:=s.out++([119,104,97,116]++[10])}:=by
 intro B b w hM D hBw;have D0:=D;obtain⟨A,c,jv,c0,c1,c2,f0,f1,f2,hO,hlc⟩:=D0.cells;go_enter Tryz.func80,Tryz.ntmps80;have e2:(qay s.l n false).isSome=false:=by simp[hr]
 go_wp2_with fail;refine(qea A s.l c n false _ hO.ts).mono ?_;rw[e2];rintro e w1 ⟨A1,d1,rfl,o1,b1⟩;have D1:=D.keep b1;have F1:=(Frm.refl B b w).thru hBw b1;go_wp2_with fail;refine(qee D1 _ (by omega) (zll hBw b1.size)).mono ?_;rintro e w2 ⟨rfl,D2,F2⟩;go_wp2_with fail;go_ret;exact⟨rfl,D2,F1.trans F2⟩
theorem qps(n:Int)(s:St)(hr:qay s.l n true=none)(ho:s.out.length≤700000):qda [119,111,114,115,116] n s {s with out:=s.out++([119,104,97,116]++[10])}:=by
 intro B b w hM D hBw;have D0:=D;obtain⟨A,c,jv,c0,c1,c2,f0,f1,f2,hO,hlc⟩:=D0.cells;go_enter Tryz.func80,Tryz.ntmps80;have e2:(qay s.l n true).isSome=false:=by simp[hr]
 go_wp2_with fail;refine(qea A s.l c n true _ hO.ts).mono ?_;rw[e2];rintro e w1 ⟨A1,d1,rfl,o1,b1⟩;have D1:=D.keep b1;have F1:=(Frm.refl B b w).thru hBw b1;go_wp2_with fail;refine(qee D1 _ (by omega) (zll hBw b1.size)).mono ?_;rintro e w2 ⟨rfl,D2,F2⟩;go_wp2_with fail;go_ret;exact⟨rfl,D2,F1.trans F2⟩
theorem qwo(n:Int)(s:St)(x:List Tk)(hP:qal s.l n=some x)(hl:s.l.length≤1000000)(ho:s.out.length≤700000):qda [114,97,105,115,101] n s ⟨x,0,[],s.pol,s.out++(Va x++[10])⟩:=by
 intro B b w hM D hBw;have D0:=D;obtain⟨A,c,jv,c0,c1,c2,f0,f1,f2,hO,hlc⟩:=D0.cells;go_enter Tryz.func80,Tryz.ntmps80;go_wp2_with fail;refine(qjj A s.l c n _ hO.ts hl).mono ?_;rw[hP];simp only[Option.getD_some,Ydo];rintro e w1 ⟨A1,c1',rfl,o1,b1⟩;have D1:=D.keep b1;have F1:=(Frm.refl B b w).thru hBw b1;go_wp2_with fail;refine(qd0 D1 A1 _ c1' (Ql o1 hBw) (by omega) (zll hBw b1.size)).mono ?_;rintro e w2 ⟨rfl,D2,F2⟩;go_wp2_with fail;go_ret;exact⟨rfl,D2,F1.trans F2⟩
theorem qpt(n:Int)(s:St)(hP:qal s.l n=none)(hl:s.l.length≤1000000)(ho:s.out.length≤700000):qda [114,97,105,115,101] n s {s with out:=s.out++[110,111,10]}:=by
 intro B b w hM D hBw;have D0:=D;obtain⟨A,c,jv,c0,c1,c2,f0,f1,f2,hO,hlc⟩:=D0.cells;go_enter Tryz.func80,Tryz.ntmps80;go_wp2_with fail;refine(qjj A s.l c n _ hO.ts hl).mono ?_;rw[hP];simp only[Option.getD_none,Option.isSome_none];rintro e w1 ⟨A1,c1',rfl,o1,b1⟩;have D1:=D.keep b1;have F1:=(Frm.refl B b w).thru hBw b1;go_wp2_with fail;refine(qi0 D1 _ (by omega) (zll hBw b1.size)).mono ?_;rintro e w2 ⟨rfl,D2,F2⟩;go_wp2_with fail;go_ret;exact⟨rfl,D2,F1.trans F2⟩
theorem qul(x:List UInt8)(n:Int)(s:St)(n0:(x==([108,101,97,118,101]:List UInt8))=false)(n1:(x==([114,97,105,115,101]:List UInt8))=false)(n2:(x==([114,117,108,101]:List UInt8))=false)(n3:(x==([119,111,114,115,116]:List UInt8))=false)(n4:(x==([114,117,110]:List UInt8))=false)(n5:(x==([104,105,103,104]:List UInt8))=false)(n6:(x==([112,97,99,107]:List UInt8))=false):qxz x n false s s:=by
 intro B b w hM D hBw;have D0:=D;obtain⟨A,c,jv,c0,c1,c2,f0,f1,f2,hO,hlc⟩:=D0.cells;go_enter Tryz.func80,Tryz.ntmps80;go_wp2_with fail;go_ret;exact⟨rfl,D,Frm.refl B b w⟩
theorem qum(n:Int)(s:St)(js:List Jb)(hjn:s.jn=js.length)(hjc:s.jc=qfe js)(hno:qrg s.l js s.pol n=false)(hlm:s.l.length≤maxLen)(hjm:js.length≤maxLen):qxz [114,117,110] n false s s:=by
 intro B b w hM D hBw;have D0:=D;obtain⟨A,c,jv,c0,c1,c2,f0,f1,f2,hO,hlc⟩:=D0.cells;obtain⟨J,d,hJ,oJ⟩:=D.jobs (js:=js) hjn hjc;rw[c1] at hJ;injection hJ with hJ
 subst hJ;have hjd:=(Qo oJ).1;have hTS:=hO.ts;have hJS:=oJ.js;go_enter Tryz.func80,Tryz.ntmps80;go_upto_region 11 with fail
 have hSk: ∀{v:World},Below w.heap.size w v→v.cell? ⟨b,0,none⟩=some (.slice A s.l.length c)∧v.cell? ⟨b,1,none⟩=some (.slice J js.length d)∧v.cell? ⟨b,2,none⟩=some (.int .i64 s.pol):=by
  intro v bz;have kc: ∀{p:Addr} {u:Value},w.cell? p=some u→v.cell? p=some u:=fun h=>(bz.cell (World.block_lt_of_cell? w _ h)).trans h
  exact⟨kc c0,kc c1,kc c2⟩
 refine wp_region_held (S:=fun v=>v.cell? ⟨b,0,none⟩=some (.slice A s.l.length c)∧v.cell? ⟨b,1,none⟩=some (.slice J js.length d)∧v.cell? ⟨b,2,none⟩=some (.int .i64 s.pol)) (by kernel_rfl) ?_;change wpAnyH _ _ _ _ _ _ _ _ (World.drew _);have Bv0:Below w.heap.size w (World.drew w):=zdr br;generalize World.drew w=v0 at Bv0⊢;have hS0:=hSk Bv0;refine tq 0 56 (.pointer (some ⟨b,0,none⟩)) rfl (fun _ _=>rfl) hS0 ?_;refine tq 1 57 (.pointer (some ⟨b,0,none⟩)) rfl (fun w _=>by go_simp) hS0 ?_;refine tq 2 58 (.pointer (some ⟨b,0,none⟩)) rfl (fun w _=>by go_simp) hS0 ?_;refine tq 3 59 (.slice A s.l.length c) rfl (fun w hS=>by obtain⟨z0,z1,z2⟩:=hS;go_simp) hS0 ?_;refine tq 4 60 (.pointer (some ⟨b,0,none⟩)) rfl (fun _ _=>rfl) hS0 ?_;refine tq 5 61 (.pointer (some ⟨b,0,none⟩)) rfl (fun w _=>by go_simp) hS0 ?_;refine tq 6 62 (.pointer (some ⟨b,1,none⟩)) rfl (fun w _=>by go_simp) hS0 ?_;refine tq 7 63 (.slice J js.length d) rfl (fun w hS=>by obtain⟨z0,z1,z2⟩:=hS;go_simp) hS0 ?_;refine tq 8 64 (.pointer (some ⟨b,0,none⟩)) rfl (fun _ _=>rfl) hS0 ?_;refine tq 9 65 (.pointer (some ⟨b,0,none⟩)) rfl (fun w _=>by go_simp) hS0 ?_;refine tq 10 66 (.pointer (some ⟨b,2,none⟩)) rfl (fun w _=>by go_simp) hS0 ?_;refine tq 11 67 (.int .i64 s.pol) rfl (fun w hS=>by obtain⟨z0,z1,z2⟩:=hS;go_simp) hS0 ?_;refine tq 12 68 (.int .i64 n) rfl (fun _ _=>rfl) hS0 ?_;refine wpAnyH_all (rs:=[13,17]) (by kernel_rfl) (by simp) ?_;intro j hj;simp only[Ybz,Yca,or_false] at hj;rcases hj with rfl|rfl
 ·refine co 13 69 rfl 8 Tryz.func8 #[.slice A s.l.length c,.slice J js.length d,.int .i64 s.pol,.int .i64 n] (qid s.pol n hno A c J d v0 (hTS.keep Bv0) (hJS.keep Bv0) hlm hjd hjm) ?_;rintro e vA ⟨rfl,bR⟩;have BvA:=Qa Bv0 bR;have hSvA:=hSk BvA;refine⟨_,rfl,hSvA,?_⟩;simp only[lsS,lsZ];refine tq 14 55 (.tuple #[.agg #[.slice none 0 0,.slice none 0 0,.slice none 0 0,.bool false],.bool false]) rfl (fun _ _=>rfl) hSvA ?_;refine tq 15 70 (.agg #[.slice none 0 0,.slice none 0 0,.slice none 0 0,.bool false]) rfl (fun w _=>by go_simp) hSvA ?_;refine tq 16 71 (.bool false) rfl (fun w _=>by go_simp) hSvA ?_;refine tw 17 ?_;refine Vr 17 7 rfl (by rfl) ?_;intro K hK;go_simp
  have bAvB:=bal (Below.refl vA.heap.size vA) (qln (.slice none 0 0) (.slice none 0 0) (.slice none 0 0) false);have NvB:=zha vA (qln (.slice none 0 0) (.slice none 0 0) (.slice none 0 0) false);have BvB:=Qa BvA bAvB;have hSvB:=hSk BvB;refine hK (.pointer (some ⟨vA.heap.size,0,none⟩)) _ hSvB ?_;simp only[lsS,lsZ];clear hK;obtain⟨nb,hnb⟩: ∃nb,vA.heap.size=nb:=⟨_,rfl⟩;have hbn:w.heap.size≤nb:=by rw[←hnb];exact BvA.size
  rw[hnb] at NvB⊢;generalize hvB:vA.alloc _=vB at NvB hSvB BvB bAvB⊢;refine tw 18 ?_;refine Vt 18 rfl (by rfl) ?_;intro K hK;obtain⟨z0,z1,z2,z3⟩:=qdq NvB;have zf:=fun i=>zfz NvB i
  have hz:=qft NvB (.slice none 0 0) (.slice none 0 0) (.slice none 0 0) false;obtain⟨hzB,hzG⟩:=hz;have BF:=BvB.grown hzG BvB.size (fun k hk=>by cases hk;exact hbn);go_simp
  refine hK _ (hSk BF) ?_;refine tq 19 8 (.bool false) rfl (fun _ _=>rfl) (hSk BF) ?_;refine wpAnyH_done (by kernel_rfl) ?_ _;go_wp2_with fail;go_ret;exact⟨rfl,D.keep BF,(Frm.refl B b w).thru hBw BF⟩
 ·refine Vr 17 7 rfl (by rfl) ?_;intro K hK;go_simp
  have bAvA:=bal (Below.refl v0.heap.size v0) (qln (.slice none 0 0) (.slice none 0 0) (.slice none 0 0) false);have NvA:=zha v0 (qln (.slice none 0 0) (.slice none 0 0) (.slice none 0 0) false);have BvA:=Qa Bv0 bAvA;have hSvA:=hSk BvA;refine hK (.pointer (some ⟨v0.heap.size,0,none⟩)) _ hSvA ?_;simp only[lsS,lsZ];clear hK;obtain⟨nb,hnb⟩: ∃nb,v0.heap.size=nb:=⟨_,rfl⟩;have hbn:w.heap.size≤nb:=by rw[←hnb];exact Bv0.size
  rw[hnb] at NvA⊢;generalize hvA:v0.alloc _=vA at NvA hSvA BvA⊢;refine tw 13 ?_;refine co 13 69 rfl 8 Tryz.func8 #[.slice A s.l.length c,.slice J js.length d,.int .i64 s.pol,.int .i64 n] (qid s.pol n hno A c J d vA (hTS.keep BvA) (hJS.keep BvA) hlm hjd hjm) ?_;rintro e vB ⟨rfl,bR⟩;have BvB:=Qa BvA bR;have hSvB:=hSk BvB;refine⟨_,rfl,hSvB,?_⟩;simp only[lsS,lsZ];refine tq 14 55 (.tuple #[.agg #[.slice none 0 0,.slice none 0 0,.slice none 0 0,.bool false],.bool false]) rfl (fun _ _=>rfl) hSvB ?_;refine tq 15 70 (.agg #[.slice none 0 0,.slice none 0 0,.slice none 0 0,.bool false]) rfl (fun w _=>by go_simp) hSvB ?_;refine tq 16 71 (.bool false) rfl (fun w _=>by go_simp) hSvB ?_;have NvB:=bh bR NvA;refine tw 18 ?_;refine Vt 18 rfl (by rfl) ?_;intro K hK;obtain⟨z0,z1,z2,z3⟩:=qdq NvB;have zf:=fun i=>zfz NvB i
  have hz:=qft NvB (.slice none 0 0) (.slice none 0 0) (.slice none 0 0) false;obtain⟨hzB,hzG⟩:=hz;have BF:=BvB.grown hzG BvB.size (fun k hk=>by cases hk;exact hbn);go_simp
  refine hK _ (hSk BF) ?_;refine tq 19 8 (.bool false) rfl (fun _ _=>rfl) (hSk BF) ?_;refine wpAnyH_done (by kernel_rfl) ?_ _;go_wp2_with fail;go_ret;exact⟨rfl,D.keep BF,(Frm.refl B b w).thru hBw BF⟩
end Go.Proofs.YtmkjmancmiphfaaGreatDoor

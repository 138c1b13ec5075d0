/-
  LowShare, CriticalOf, HighShare: the reference's.
  CriticalOf, HighShare, Implicit, HoldsPlain: the reference's.
  HighShare, Implicit, HoldsPlain: the reference's.
-/
import Derived.Test.YtmkjmancmiphfaaGreatDoorRb15
import Derived.Test.YtmkjmancmiphfaaGreatDoorRb08
namespace Go.Proofs.YtmkjmancmiphfaaGreatDoor
set_option maxHeartbeats 8000000
set_option maxRecDepth 1000000
open Go.RowKit
theorem qil(n d:Int)(w:World)(h:qtr n d=true):
  Calls Tryz.prog 112 #[.int .i64 n,.int .i64 d] w fun e w'=>e=.returned (.tuple #[rv (mkRat n d.toNat),.bool true])∧Below w.heap.size w w':=by
 refine(qh5 n d w).mono ?_;rintro e w1 (⟨_,rfl,b1⟩|⟨hf,_,_⟩)
 ·exact⟨rfl,b1⟩
 ·rw[h] at hf;cases hf
theorem qye{l:List Tk}(h:qad l=true)(crit high:Bool)(k:Nat):RIn (qau crit high (l.take k)):=
 qba (qih (Sub.sub (List.take_sublist k l)) h) crit high
theorem q6h{t:Tk}(h:vld t=true)(high:Bool):RIn (shr high t):=by
 have h1:=q5l (high:=high) h;have h2:=q0f (high:=high) h;exact qj8 (n:=1) h1.1 (by simpa using h1.2) (by omega) (by omega)
theorem qdf(A:ZA)(l:List Tk)(c:Nat)(crit:Bool)(w:World)(h:TS w A l)(hm:l.length≤maxLen):
  Calls Tryz.prog 108 #[.slice A l.length c,.bool crit] w fun e w'=>e=.returned (qje l crit false)∧Below w.heap.size w w':=by
 cases hS:qad l with
 |false=>
  have hv:qje l crit false=sv 0 0:=by simp[qje,hS]
  rw[hv];clear hv;go_enter Tryz.func108,Tryz.ntmps108;go_wp2_with fail;refine(qac A l c _ (h.keep (bal (bal br _) _)) hm).mono ?_;rw[hS];rintro e w1 ⟨rfl,b1⟩;obtain⟨q0,q1⟩:=q00 w (.cells #[.int .i64 0,.int .i64 0] 54) (.cells #[.int .i64 0,.int .i64 1] 54);have hB:=(b1.block w.heap.size (by simp;omega)).trans q0;obtain⟨x0,x1,xf⟩:=qak hB;clear hB q0 q1;go_wp2_with fail;refine bodyPost_ret (v:=sv 0 0) (by simp[results,Tryz.results108,go_sem,x0,x1]) rfl ⟨rfl,?_⟩;exact bst (bst (qaa (bal (bal br _) _) b1) (p:=⟨w.heap.size,0,none⟩) (zlr _) _) (p:=⟨w.heap.size,1,none⟩) (zlr _) _
 |true=>
  have HS:=zhi hS;have hl5:=(qaj hS).1;have hv:qje l crit false=rv (qau crit false l):=by simp[qje,hS]
  rw[hv];clear hv hS;go_enter Tryz.func108,Tryz.ntmps108;go_wp2_with fail;refine(qac A l c _ (h.keep (bal (bal br _) _)) hm).mono ?_;rw[HS.out];rintro e w1 ⟨rfl,b1⟩;obtain⟨q0,q1⟩:=q00 w (.cells #[.int .i64 0,.int .i64 0] 54) (.cells #[.int .i64 0,.int .i64 1] 54);have hB:=zhi ((b1.block w.heap.size (by simp;omega)).trans q0);have hO:=zhi ((b1.block (w.heap.size+1) (by simp)).trans q1);have hz1:=b1.size;simp only[World.size_alloc] at hz1;have hb1:=qaa (bal (bal (Below.refl w.heap.size w) _) _) b1;clear q0 q1;go_wp2_with fail
  go_loopw [6] (fun i wr=> ∃k:Nat,i=.int .i64 (k:Int)∧k≤l.length∧Below w.heap.size w wr∧w.heap.size+1<wr.heap.size∧Hid (wr.heap[w.heap.size]? =some (.cells #[.int .i64 0,.int .i64 0] 54 (0,0)))∧
   Hid (wr.heap[w.heap.size+1]? =some (.cells #[.int .i64 (qau crit false (l.take k)).num,.int .i64 ((qau crit false (l.take k)).den:Int)] 54 (0,0)))) (fun i _=>l.length-(intOf i).toNat)
  case atStart=>exact⟨0,rfl,by omega,hb1,by omega,hB,by simpa [qau] using hO⟩
  case round=>
   clear hB hO;obtain⟨k,rfl,hk,hb,hzr,hB,hO⟩:=hrel;by_cases hlt:k<l.length
   ·obtain⟨b,off,rfl,hbl,hc⟩:=h.keep hb (by omega);obtain⟨c0,c1,c2,c3,c4⟩:=qby hc k hlt;clear hc;have hvt:=(qaj HS.out).2 _ (List.getElem_mem hlt);have hnv:=qbz hvt;obtain⟨n1,n2,n3,n4,n5⟩:=hnv;have hts:=zhi (qi8 crit false l k hlt);have r1:=zhi (qye HS.out crit false k);by_cases hcr:l[k].crit=crit
    ·have hcb:(l[k].crit==crit)=true:=by simp[hcr]
     have Hcr:=zhi hcr;have r2:Hid (RIn (shr false l[k])):=q6h hvt false
     have r3:Hid (RIn (qau crit false (l.take k)+shr false l[k])):=by
      have:=qye HS.out crit false (k+1);rw[hts.out,if_pos hcr] at this;exact this
     have hin:Hid (qtr l[k].low l[k].every=true):=by simp[Hid,qtr];omega
     have hsh:Hid (mkRat l[k].low l[k].every.toNat=shr false l[k]):=rfl;clear hcr hvt;obtain⟨wo,rfl⟩: ∃wo:World,wo=wr:=⟨_,rfl⟩
     have S_of: ∀w':World,Below wo.heap.size wo w'→w'.cell? ⟨b,off+k*5,none⟩=some (.int .i64 l[k].low)∧w'.cell? ⟨b,off+k*5+3,none⟩=some (.int .i64 l[k].every)∧Below wo.heap.size wo w':=fun w' hw=>
      ⟨(hw.cell (p:=⟨b,off+k*5,none⟩) hbl).trans c0,(hw.cell (p:=⟨b,off+k*5+3,none⟩) hbl).trans c3,hw⟩
     go_wp2_with fail
     go_region_held3 (fun w'=>w'.cell? ⟨b,off+k*5,none⟩=some (.int .i64 l[k].low)∧w'.cell? ⟨b,off+k*5+3,none⟩=some (.int .i64 l[k].every)∧Below wo.heap.size wo w')
      ((refine S_of _ ?_;first|assumption|exact zdr br|exact zdr (bal br _)|exact(by assumption:_∧_∧Below wo.heap.size wo _).2.2|(refine bal ?_ _;first|assumption|exact(by assumption:_∧_∧Below wo.heap.size wo _).2.2)|(refine bst (bst ?_ (p:=⟨_,0,none⟩) ?_ _) (p:=⟨_,1,none⟩) ?_ _<;>first|assumption|exact(by assumption:_∧_∧Below wo.heap.size wo _).2.2|exact zlr _|exact B5.size)))
      (first
       |(go_at_call 112;refine(qil _ _ (World.drew (World.alloc _ _)) hin.out).mono ?_;rw[hsh.out];rintro e w5 ⟨rfl,b5⟩;have HN:=zhi ((b5.block wo.heap.size (by show wo.heap.size<(World.alloc wo _).heap.size;rw[World.size_alloc];exact Nat.lt_succ_self _)).trans (zha wo _));have hn5:wo.heap.size<w5.heap.size:=zlt (by show wo.heap.size<(World.alloc wo _).heap.size;rw[World.size_alloc];exact Nat.lt_succ_self _) b5.size;have B5:Below wo.heap.size wo w5:=qaa (by first|assumption|exact(by assumption:_∧_∧Below wo.heap.size wo _).2.2) b5;obtain⟨y0,y1,yf⟩:=qak HN.out)
       |(go_at_call 112;refine(qil _ _ _ hin.out).mono ?_;rw[hsh.out];rintro e w5 ⟨rfl,b5⟩;have B5:Below wo.heap.size wo w5:=qaa (by first|assumption|exact(by assumption:_∧_∧Below wo.heap.size wo _).2.2) b5))
     all_goals(rename_i hS;replace hS:=hS.2.2)
     ·have hN:=zha w5 (.cells #[.int .i64 (shr false l[k]).num,.int .i64 ((shr false l[k]).den:Int)] 54 (0,0));have hnb:w.heap.size+1≠w5.heap.size:=by have:=B5.size;omega
      generalize hw:World.alloc w5 _=wx at hN hS⊢;clear hw;have pO:=(hS.block _ hzr).trans hO.out;have pB:=zhi ((hS.block w.heap.size (by omega)).trans hB.out);obtain⟨n0,n1,nf⟩:=qak hN;obtain⟨p0,p1,pf⟩:=qak pO;have PO:=zhi pO;have hzx:=hS.size;clear hN pO;go_wp2_with fail;refine(qdq (qau crit false (l.take k)) (shr false l[k]) _ r1.out r2.out r3.out).mono ?_;rintro e w7 ⟨rfl,b7⟩;have hz7:=b7.size;have sO:=(b7.block (w.heap.size+1) (by omega)).trans PO.out;have SB:=zhi ((b7.block w.heap.size (by omega)).trans pB.out);clear n0 n1 nf p0 p1 pf;obtain⟨p0,p1,pf⟩:=qak sO;have SO:=zhi sO;clear sO;go_wp2_with fail;go_roundw
      case rel=>
       refine⟨k+1,by go_num,by omega,bst (bst (qaa (qaa hb hS) b7) (p:=⟨w.heap.size+1,0,none⟩) (Nat.le_succ _) _) (p:=⟨w.heap.size+1,1,none⟩) (Nat.le_succ _) _,by simp;omega,?_,?_⟩
       ·exact(Below.heap_setCell _ _ _ _ (by simp)).trans ((Below.heap_setCell _ _ _ _ (by simp)).trans SB.out)
       ·rw[Hid,hts.out,if_pos Hcr.out];exact qej SO.out _ _
      case measure=>simp[intOf];omega
     ·have hN:=qej HN.out (.int .i64 (shr false l[k]).num) (.int .i64 ((shr false l[k]).den:Int));have hnb:w.heap.size+1≠wo.heap.size:=by omega
      generalize hw:(World.setCell (World.setCell w5 ⟨wo.heap.size,0,none⟩ _) ⟨wo.heap.size,1,none⟩ _)=wx at hN hS⊢;clear hw;have pO:=(hS.block _ hzr).trans hO.out;have pB:=zhi ((hS.block w.heap.size (by omega)).trans hB.out);obtain⟨n0,n1,nf⟩:=qak hN;obtain⟨p0,p1,pf⟩:=qak pO;have PO:=zhi pO;have hzx:=hS.size;clear hN pO;go_wp2_with fail;refine(qdq (qau crit false (l.take k)) (shr false l[k]) _ r1.out r2.out r3.out).mono ?_;rintro e w7 ⟨rfl,b7⟩;have hz7:=b7.size;have sO:=(b7.block (w.heap.size+1) (by omega)).trans PO.out;have SB:=zhi ((b7.block w.heap.size (by omega)).trans pB.out);clear n0 n1 nf p0 p1 pf;obtain⟨p0,p1,pf⟩:=qak sO;have SO:=zhi sO;clear sO;go_wp2_with fail;go_roundw
      case rel=>
       refine⟨k+1,by go_num,by omega,bst (bst (qaa (qaa hb hS) b7) (p:=⟨w.heap.size+1,0,none⟩) (Nat.le_succ _) _) (p:=⟨w.heap.size+1,1,none⟩) (Nat.le_succ _) _,by simp;omega,?_,?_⟩
       ·exact(Below.heap_setCell _ _ _ _ (by simp)).trans ((Below.heap_setCell _ _ _ _ (by simp)).trans SB.out)
       ·rw[Hid,hts.out,if_pos Hcr.out];exact qej SO.out _ _
      case measure=>simp[intOf];omega
    ·have hcb:(l[k].crit==crit)=false:=by simp[hcr]
     have Hcr:=zhi hcr;clear hcr;go_wp2_with fail;go_roundw
     case rel=>exact⟨k+1,by go_num,by omega,hb,hzr,hB,by rw[Hid,hts.out,if_neg Hcr.out,Rat.add_zero];exact hO⟩
     case measure=>simp[intOf];omega
   ·have hO':=hO.out;rw[List.take_of_length_le (by omega)] at hO';obtain⟨s0,s1,sf⟩:=qak hO';obtain⟨z0,z1,zf⟩:=qak hB.out;clear hO';go_wp2_with fail;refine bodyPost_ret (v:=rv (qau crit false l)) (by simp[results,Tryz.results108,go_sem,z0,z1]) rfl ⟨rfl,?_⟩;exact bst (bst hb (p:=⟨w.heap.size,0,none⟩) (zlr _) _) (p:=⟨w.heap.size,1,none⟩) (zlr _) _
def qov(t:Tk):Tk:={t with low:=t.high}
def qf4(l:List Tk):List Tk:=(l.filter (·.crit)).map qov
theorem qzg(l:List Tk)(t:Tk):qf4 (l++[t])=qf4 l++(if t.crit then [qov t] else []):=by
 simp only[qf4,List.filter_append,List.map_append];cases h:t.crit<;>simp[h]
theorem qow(l:List Tk):(qf4 l).length≤l.length:=by
 rw[qf4,List.length_map];exact List.length_filter_le _ _
theorem q1e{l:List Tk}(h:qad l=true):qad (qf4 l)=true:=by
 obtain⟨h1,h2⟩:=qaj h;have:=qow l;simp only[qad,Bool.and_eq_true,decide_eq_true_eq,List.all_eq_true];refine⟨by omega,fun t ht=>?_⟩;simp only[qf4,List.mem_map,List.mem_filter] at ht;obtain⟨s,⟨hs,hc⟩,rfl⟩:=ht;have hb:=qbz (h2 s hs);simp only[vld,qov,hc,Bool.true_or,Bool.and_true,decide_eq_true_eq];omega
theorem quk(l:List Tk):qau true false (qf4 l)=qau true true l:=by
 induction l with
 |nil=>rfl
 |cons t l ih=>
  cases h:t.crit with
  |false=>
   have e:qf4 (t::l)=qf4 l:=by simp[qf4,h]
   rw[e,ih];simp[qau,h,Rat.zero_add]
  |true=>
   have e:qf4 (t::l)=qov t::qf4 l:=by simp[qf4,h]
   rw[e];have h2:(qov t).crit=true:=h;have h3:shr false (qov t)=shr true t:=rfl;simp only[qau,h,h2,if_true,h3,ih]
theorem qk6(A:ZA)(l:List Tk)(c:Nat)(w:World)(h:TS w A l)(hS:qad l=true):
  Calls Tryz.prog 202 #[.slice A l.length c] w (q3d w (qf4 l)):=by
 have hl5:=(qaj hS).1;have hm:l.length≤maxLen:=by unfold maxLen;omega
 have HS:=zhi hS;clear hS;go_enter Tryz.func202,Tryz.ntmps202;go_wp2_with fail;go_loopw [3,4] (fun v i wr=> ∃(k n:Nat) (A':ZA) (c':Nat),i=.int .i64 (k:Int)∧v=.slice A' n c'∧k≤l.length∧Hid ((qf4 (l.take k)).length=n)∧n≤5∧OT w.heap.size wr A' c' (qf4 (l.take k))∧Below w.heap.size w wr) (fun _ i _=>l.length-(intOf i).toNat)
 case atStart=>exact⟨0,0,_,0,rfl,rfl,by omega,rfl,by omega,qa7 w _ (zlr _),bal br _⟩
 case round=>
  obtain⟨k,n,A',c',rfl,rfl,hk,hn,hn5,hO,hb⟩:=hrel;by_cases hlt:k<l.length
  ·have hsn:Hid (qf4 (l.take (k+1))=qf4 (l.take k)++(if l[k].crit then [qov l[k]] else [])):=by rw[Hid,List.take_succ_eq_append_getElem hlt,qzg]
   have hn6:(qf4 (l.take (k+1))).length≤5:=by
    have:=qow (l.take (k+1));simp at this;omega
   go_wp2_with fail;refine(qac A l c _ (h.keep hb) hm).mono ?_;rw[HS.out];rintro e w1 ⟨rfl,b1⟩;have B1:=qaa hb b1;have O1:=qa3 hO b1;obtain⟨b,off,rfl,hbl,hc⟩:=h.keep B1 (by omega);obtain⟨c0,c1,c2,c3,c4⟩:=qby hc k hlt;clear hc;cases hcr:l[k].crit with
   |false=>
    rw[hcr] at c4;have Hcr:=zhi hcr;clear hcr;go_wp2_with fail;go_roundw
    case rel=>exact⟨k+1,n,A',c',by go_num,rfl,by omega,by rw[Hid,hsn.out,Hcr.out];simpa using hn.out,hn5,by rw[hsn.out,Hcr.out];simpa using qbf O1 _,bal B1 _⟩
    case measure=>simp[intOf];omega
   |true=>
    rw[hcr] at c4;have hsn2:Hid (qf4 (l.take (k+1))=qf4 (l.take k)++[qov l[k]]):=by rw[Hid,hsn.out,hcr];rfl
    have hcells:Hid ((qov l[k]).cells=[.int .i64 l[k].high,.int .i64 l[k].high,.int .i64 l[k].due,.int .i64 l[k].every,.bool true]):=by simp[Hid,Tk.cells,qov,hcr]
    have hn7:n+1≤5:=by
     rw[hsn2.out,List.length_append,hn.out] at hn6;simpa using hn6
    clear hcr;go_wp2_with (at_builtin;refine qcd _ rfl _ _ rfl w.heap.size A' (qf4 (l.take k)) n c' hn.out rfl (qbf (qbf O1 _) _) (w1.heap.size+1) 1 (qov l[k]) _ 58 rfl (by have:=zha (w1.alloc (.cells #[.int .i64 l[k].high,.int .i64 l[k].high,.int .i64 l[k].due,.int .i64 l[k].every,.bool true] 58)) (.cells #[.int .i64 l[k].high,.int .i64 l[k].high,.int .i64 l[k].due,.int .i64 l[k].every,.bool true] 58 (0,0));rw[World.size_alloc] at this;exact this) (by rw[hcells.out]) (by rw[hn.out];omega) (by have:=B1.size;simp;omega) ?_;intro A3 c3' w3 hO3 hg3 hb3)
    go_roundw
    case rel=>exact⟨k+1,n+1,A3,c3',by go_num,rfl,by omega,by rw[Hid,hsn2.out,List.length_append,hn.out];rfl,hn7,by rw[hsn2.out];exact hO3,(bal (bal B1 _) _).trans hb3⟩
    case measure=>simp[intOf];omega
  ·obtain rfl:k=l.length:=by omega
   go_wp2_with fail;have e:l.take l.length=l:=List.take_length;rw[e] at hO hn;have Hn:=hn.out;subst Hn;go_ret;exact⟨A',c',rfl,hO,hb⟩
theorem qdr(A:ZA)(l:List Tk)(c:Nat)(w:World)(h:TS w A l)(hm:l.length≤maxLen):
  Calls Tryz.prog 151 #[.slice A l.length c] w fun e w'=>e=.returned (qje l true true)∧Below w.heap.size w w':=by
 cases hS:qad l with
 |false=>
  have hv:qje l true true=sv 0 0:=by simp[qje,hS]
  rw[hv];clear hv;go_enter Tryz.func151,Tryz.ntmps151;go_wp2_with fail;refine(qac A l c _ (h.keep (bal br _)) hm).mono ?_;rw[hS];rintro e w1 ⟨rfl,b1⟩;have hB:=(b1.block w.heap.size (by simp)).trans (zha w _);obtain⟨x0,x1,xf⟩:=qak hB;clear hB;go_wp2_with fail;refine bodyPost_ret (v:=sv 0 0) (by simp[results,Tryz.results151,go_sem,x0,x1]) rfl ⟨rfl,?_⟩;exact bst (bst (qaa (bal br _) b1) (p:=⟨w.heap.size,0,none⟩) (zlr _) _) (p:=⟨w.heap.size,1,none⟩) (zlr _) _
 |true=>
  have HS:=zhi hS;have hv:qje l true true=rv (qau true true l):=by simp[qje,hS]
  have hv2:Hid (qje (qf4 l) true false=rv (qau true true l)):=by simp[Hid,qje,q1e hS,quk]
  have hlm:Hid ((qf4 l).length≤maxLen):=by
   have:=qow l;simp only[Hid];omega
  rw[hv];clear hv;go_enter Tryz.func151,Tryz.ntmps151;go_wp2_with fail;refine(qac A l c _ (h.keep (bal br _)) hm).mono ?_;rw[hS];clear hS;rintro e w1 ⟨rfl,b1⟩;have B1:=qaa (bal (Below.refl w.heap.size w) _) b1;have hz1:=b1.size;simp only[World.size_alloc] at hz1;go_wp2_with fail;refine(qk6 A l c _ (h.keep B1) HS.out).mono ?_;rintro e w2 ⟨A2,c2,rfl,o2,b2⟩;have hz2:=b2.size;go_wp2_with fail;refine(qdf A2 (qf4 l) c2 true _ o2.ts hlm.out).mono ?_;rw[hv2.out];rintro e w3 ⟨rfl,b3⟩;have hB:=((b3.block w.heap.size (by omega)).trans ((b2.block w.heap.size (by omega)).trans (b1.block w.heap.size (by simp)))).trans (zha w _);obtain⟨x0,x1,xf⟩:=qak hB;clear hB;obtain⟨r,hr⟩: ∃r,qau true true l=r:=⟨_,rfl⟩;rw[hr];have Hr:=zhi hr;clear hr;go_wp2_with fail;refine bodyPost_ret (v:=rv r) (by simp[results,Tryz.results151,go_sem,x0,x1]) rfl ⟨by rw[Hr.out],?_⟩;exact bst (bst (qaa (qaa B1 b2) b3) (p:=⟨w.heap.size,0,none⟩) (zlr _) _) (p:=⟨w.heap.size,1,none⟩) (zlr _) _
theorem qcq(w:World):Calls Tryz.prog 66 #[] w fun e w'=>e=.returned (sv 1 1)∧Below w.heap.size w w':=by
 go_enter Tryz.func66,Tryz.ntmps66;go_wp2_with fail;exact bodyPost_ret (v:=sv 1 1) (by simp[results,Tryz.results66,go_sem]) rfl ⟨rfl,bal br _⟩
def q1f(a:Rat):Int:=if a.num<(a.den:Int) then-1 else if(a.den:Int)<a.num then 1 else 0
theorem q33(a:Rat):q6g a 1=q1f a:=by simp[q6g,q1f]
theorem q6i:RIn 1:=⟨by decide,by decide,by decide⟩
theorem qed(a:Rat)(w:World)(ha:RIn a):
  Calls Tryz.prog 110 #[rv a,sv 1 1] w fun e w'=>e=.returned (.int .i64 (q1f a))∧Below w.heap.size w w':=by
 have h:=ql1 a 1 w ha q6i;rw[q33] at h;exact h
theorem qjr(a:Rat):decide (q1f a≤0)=qk1 a:=by
 unfold q1f qk1;split
 ·simp;omega
 ·split
  ·simp;omega
  ·simp;omega
theorem q6j(a:Rat):decide (0<q1f a)= !qk1 a:=by
 rw[←qjr,←decide_not];simp
theorem q6k(a:Rat):(q1f a==0)=(a.num==(a.den:Int)):=by
 rw[Bool.eq_iff_iff,beq_iff_eq,beq_iff_eq];unfold q1f;split
 ·omega
 ·split<;>omega
theorem qk7(a:Rat): -1≤q1f a∧q1f a≤1:=by
 unfold q1f;split
 ·omega
 ·split<;>omega
theorem qgr(A:ZA)(l:List Tk)(c:Nat)(w:World)(h:TS w A l)(hm:l.length≤maxLen):
  Calls Tryz.prog 106 #[.slice A l.length c] w fun e w'=>e=.returned (.bool (qec l))∧Below w.heap.size w w':=by
 have hm':=hm;unfold maxLen at hm';cases hS:qad l with
 |false=>
  have Hf:Hid (qec l=false):=by simp[Hid,qec,hS]
  have hne:0<l.length:=by
   cases l with
   |nil=>simp[qad] at hS
   |cons=>simp
  go_enter Tryz.func106,Tryz.ntmps106;go_wp2_with fail;go_loopw [3] (fun i wr=>i=.int .i64 0∧Below w.heap.size w wr) (fun _ _=>0)
  case atStart=>exact⟨rfl,br⟩
  case round=>
   obtain⟨rfl,hb⟩:=hrel;go_wp2_with fail;refine(qac A l c _ (h.keep hb) hm).mono ?_;rw[hS];rintro e w1 ⟨rfl,b1⟩;go_wp2_with fail;refine(qac A l c _ (h.keep (qaa hb b1)) hm).mono ?_;rw[hS];rintro e w2 ⟨rfl,b2⟩;go_wp2_with fail;go_ret;exact⟨by rw[Hf.out];rfl,qaa (qaa hb b1) b2⟩
 |true=>
  have hl5:=(qaj hS).1;have Hs:=zhi hS;have Hf:Hid (qec l=qjn l l.length):=by simp[Hid,qec,hS]
  clear hS;go_enter Tryz.func106,Tryz.ntmps106;go_wp2_with fail;go_loopw [3] (fun i wr=> ∃k:Nat,k≤l.length∧i=.int .i64 (k:Int)∧Hid (qjn l k=true)∧Below w.heap.size w wr) (fun i _=>l.length-(intOf i).toNat)
  case atStart=>exact⟨0,by omega,rfl,rfl,br⟩
  case round=>
   obtain⟨k,hk,rfl,hall,hb⟩:=hrel;by_cases hlt:k<l.length
   ·go_wp2_with fail;refine(qac A l c _ (h.keep hb) hm).mono ?_;rw[Hs.out];rintro e w1 ⟨rfl,b1⟩;have B1:=qaa hb b1;obtain⟨b,off,rfl,hbl,hc⟩:=h.keep B1 (by omega);obtain⟨c0,c1,c2,c3,c4⟩:=qav hc k hlt;clear hc;have q0:(0:Int)≤(k:Int):=by omega
    have q1:(k:Int)<(l.length:Int):=by omega
    by_cases hd:(qag l k).due=(qag l k).every
    ·have hgood:=zhi (qom hall.out hd);have hne:((qag l k).due !=(qag l k).every)=false:=by simp[hd]
     clear hd;go_wp2_with fail;go_quiet (fail)
     go_wp2_with fail;go_roundw
     case rel=>exact⟨k+1,by omega,by go_num,hgood,bdr B1 _⟩
     case measure=>simp[intOf];omega
    ·have hbad:=zhi (qrf hlt hd);have hne:((qag l k).due !=(qag l k).every)=true:=by simpa using hd
     clear hd;go_wp2_with fail;go_quiet (fail)
     go_wp2_with fail;go_ret;exact⟨by rw[Hf.out,hbad.out];rfl,bdr B1 _⟩
   ·have hk':Hid (k=l.length):=show k=l.length by omega
    go_wp2_with fail;refine(qac A l c _ (h.keep hb) hm).mono ?_;rw[Hs.out];rintro e w1 ⟨rfl,b1⟩;go_wp2_with fail;go_ret;have ha:=hall.out;rw[hk'.out] at ha;exact⟨by rw[Hf.out,ha];rfl,qaa hb b1⟩
theorem qul{l:List Tk}(h:qad l=true):RIn (ua l+uh l)∧RIn (ua l+ub l):=by
 obtain⟨hl5,hall⟩:=qaj h;have p1:=qij false l hall;have p2:=qij true l hall;have hpl:=zll (qt5 l hall) (qx5 hl5);have d1:=qgs false false l hall;have d2:=qgs true true l hall;have d3:=qgs true false l hall;have b1:=qgy false false l hall;have b2:=qgy true true l hall;have b3:=qgy true false l hall;have h5:((l.length:Nat):Rat)≤5:=by exact_mod_cast hl5
 have hn0:qdz true l*qdz false l≠0:=Nat.mul_ne_zero (by omega) (by omega)
 have key: ∀x y:Rat,0≤x→0≤y→x≤5→y≤5→x.den∣qdz false l→y.den∣qdz true l→RIn (x+y):=by
  intro x y x0 y0 x5 y5 dx dy;have hd:=qk3 hn0 (Nat.dvd_trans dx (Nat.dvd_mul_left _ _)) (Nat.dvd_trans dy (Nat.dvd_mul_right _ _));have h1:x+y≤((10:Nat):Rat):=by grind
  have h3:=qho h1;have h6:=Nat.le_of_dvd (by omega) hd;exact⟨qic (by grind),by omega,by omega⟩
 exact⟨key _ _ b1.1 b2.1 (Rat.le_trans b1.2 h5) (Rat.le_trans b2.2 h5) d1 d2,key _ _ b1.1 b3.1 (Rat.le_trans b1.2 h5) (Rat.le_trans b3.2 h5) d1 d3⟩
theorem qhc(A:ZA)(l:List Tk)(c:Nat)(w:World)(h:TS w A l)(hm:l.length≤maxLen):
  Calls Tryz.prog 107 #[.slice A l.length c] w fun e w'=>e=.returned (.bool (qbh l))∧Below w.heap.size w w':=by
 cases hI:qec l with
 |false=>
  have Hf:Hid (qbh l=false):=by simp[Hid,qbh,hI]
  go_enter Tryz.func107,Tryz.ntmps107;go_wp2_with fail;refine(qgr A l c _ h hm).mono ?_;rw[hI];rintro e w1 ⟨rfl,b1⟩;go_wp2_with fail;go_ret;exact⟨by rw[Hf.out];rfl,b1⟩
 |true=>
  have hs:=qgo hI;have Hf:Hid (qbh l=qk1 (ua l+uh l)):=by simp[Hid,qbh,hI]
  have ea:Hid (qje l false false=rv (ua l)):=qc1 hs false false;have eh:Hid (qje l true true=rv (uh l)):=qc1 hs true true;have ra:Hid (RIn (ua l)):=qba hs false false;have rh:Hid (RIn (uh l)):=qba hs true true;have rs:Hid (RIn (ua l+uh l)):=(qul hs).1;clear hs;go_enter Tryz.func107,Tryz.ntmps107;go_wp2_with fail;refine(qgr A l c _ h hm).mono ?_;rw[hI];rintro e w1 ⟨rfl,b1⟩;go_wp2_with fail;refine(qdf A l c false _ (h.keep b1) hm).mono ?_;rw[ea.out];rintro e w2 ⟨rfl,b2⟩;have B2:=qaa b1 b2;go_wp2_with fail;refine(qdr A l c _ (h.keep B2) hm).mono ?_;rw[eh.out];rintro e w3 ⟨rfl,b3⟩;have B3:=qaa B2 b3;go_wp2_with fail;refine(qdq (ua l) (uh l) _ ra.out rh.out rs.out).mono ?_;rintro e w4 ⟨rfl,b4⟩;have B4:=qaa B3 b4;generalize ua l+uh l=r at*;go_wp2_with fail;have hB:=zha w4 (.cells #[.int .i64 r.num,.int .i64 (r.den:Int)] 54 (0,0));have hbl:w4.heap.size<(w4.alloc (.cells #[.int .i64 r.num,.int .i64 (r.den:Int)] 54 (0,0))).heap.size:=by simp
  have B5:=bal B4 (.cells #[.int .i64 r.num,.int .i64 (r.den:Int)] 54 (0,0));generalize hg:World.alloc w4 _=wx at hB hbl B5⊢;clear hg
  have S_of: ∀w':World,Below wx.heap.size wx w'→w'.cell? ⟨w4.heap.size,0,none⟩=some (.int .i64 r.num)∧w'.cell? ⟨w4.heap.size,1,none⟩=some (.int .i64 (r.den:Int))∧Below wx.heap.size wx w':=fun w' hw=>by
   obtain⟨h0,h1,_⟩:=qak ((hw.block _ hbl).trans hB);exact⟨h0,h1,hw⟩
  clear hB;have hq:=zhi (qjr r);have hcb:=qk7 r
  go_region_held3 (fun w'=>w'.cell? ⟨w4.heap.size,0,none⟩=some (.int .i64 r.num)∧w'.cell? ⟨w4.heap.size,1,none⟩=some (.int .i64 (r.den:Int))∧Below wx.heap.size wx w')
   ((refine S_of _ ?_;first|assumption|exact zdr br|exact(by assumption:_∧_∧Below wx.heap.size wx _).2.2))
   (first
    |(go_at_call 66;refine(qcq _).mono ?_;rintro e w5 ⟨rfl,b5⟩;have B6:Below wx.heap.size wx w5:=qaa (by first|assumption|exact(by assumption:_∧_∧Below wx.heap.size wx _).2.2) b5)
    |(go_at_call 110;refine(qed r _ rs.out).mono ?_;rintro e w6 ⟨rfl,b6⟩;have B7:Below wx.heap.size wx w6:=qaa (by first|assumption|exact(by assumption:_∧_∧Below wx.heap.size wx _).2.2) b6))
  all_goals go_wp2_with fail
  all_goals go_ret
  all_goals exact⟨by rw[Hf.out,←hq.out];rfl,qaa B5 (by first|assumption|exact(by assumption:_∧_∧Below wx.heap.size wx _).2.2)⟩
end Go.Proofs.YtmkjmancmiphfaaGreatDoor

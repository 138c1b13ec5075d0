/-
  LowShare, CriticalOf, HighShare: the reference's.
  CriticalOf, HighShare, Implicit, HoldsPlain: the reference's.
  HighShare, Implicit, HoldsPlain: the reference's.
-/
import Derived.Test.YtmkjmancmiphfaaGreatDoorRc15
import Derived.Test.YtmkjmancmiphfaaGreatDoorRc08
namespace Go.Proofs.YtmkjmancmiphfaaGreatDoor
set_option maxHeartbeats 8000000
set_option maxRecDepth 1000000
open Go.RowKit
theorem qg2(n d:Int)(w:World)(h:qsn n d=true):
  Calls Tryz.prog 112 #[.int .i64 n,.int .i64 d] w fun e w'=>e=.returned (.tuple #[rv (mkRat n d.toNat),.bool true])∧Below w.heap.size w w':=by
 refine(qgm n d w).mono ?_;rintro e w1 (⟨_,rfl,b1⟩|⟨hf,_,_⟩)
 ·exact⟨rfl,b1⟩
 ·rw[h] at hf;cases hf
theorem qxe{l:List Tk}(h:Qe l=true)(crit high:Bool)(k:Nat):RIn (Qu crit high (l.take k)):=
 Vd (qgy (Sub.sub (List.take_sublist k l)) h) crit high
theorem q50{t:Tk}(h:vld t=true)(high:Bool):RIn (shr high t):=by
 have h1:=q43 (high:=high) h;have h2:=qzo (high:=high) h;exact qiu (n:=1) h1.1 (by simpa using h1.2) (by omega) (by omega)
theorem qbt(A:ZA)(l:List Tk)(c:Nat)(crit:Bool)(w:World)(h:TS w A l)(hm:l.length≤maxLen):
  Calls Tryz.prog 108 #[.slice A l.length c,.bool crit] w fun e w'=>e=.returned (qhv l crit false)∧Below w.heap.size w w':=by
 cases hS:Qe l with
 |false=>
  have hv:qhv l crit false=sv 0 0:=by simp[qhv,hS]
  rw[hv];clear hv;go_enter Tryz.func108,Tryz.ntmps108;go_wp2_with fail;refine(Qd A l c _ (h.keep (bal (bal br _) _)) hm).mono ?_;rw[hS];rintro e w1 ⟨rfl,b1⟩;obtain⟨q0,q1⟩:=q0c w (.cells #[.int .i64 0,.int .i64 0] 54) (.cells #[.int .i64 0,.int .i64 1] 54);have hB:=(b1.block w.heap.size (by simp;omega)).trans q0;obtain⟨x0,x1,xf⟩:=Qk hB;clear hB q0 q1;go_wp2_with fail;refine bodyPost_ret (v:=sv 0 0) (by simp[results,Tryz.results108,go_sem,x0,x1]) rfl ⟨rfl,?_⟩;exact bst (bst (Qa (bal (bal br _) _) b1) (p:=⟨w.heap.size,0,none⟩) (zlr _) _) (p:=⟨w.heap.size,1,none⟩) (zlr _) _
 |true=>
  have HS:=zhi hS;have hl5:=(Qj hS).1;have hv:qhv l crit false=rv (Qu crit false l):=by simp[qhv,hS]
  rw[hv];clear hv hS;go_enter Tryz.func108,Tryz.ntmps108;go_wp2_with fail;refine(Qd A l c _ (h.keep (bal (bal br _) _)) hm).mono ?_;rw[HS.out];rintro e w1 ⟨rfl,b1⟩;obtain⟨q0,q1⟩:=q0c w (.cells #[.int .i64 0,.int .i64 0] 54) (.cells #[.int .i64 0,.int .i64 1] 54);have hB:=zhi ((b1.block w.heap.size (by simp;omega)).trans q0);have hO:=zhi ((b1.block (w.heap.size+1) (by simp)).trans q1);have hz1:=b1.size;simp only[Yah] at hz1;have hb1:=Qa (bal (bal (Below.refl w.heap.size w) _) _) b1;clear q0 q1;go_wp2_with fail
  go_loopw [6] (fun i wr=> ∃k:Nat,i=.int .i64 (k:Int)∧k≤l.length∧Below w.heap.size w wr∧w.heap.size+1<wr.heap.size∧Hid (wr.heap[w.heap.size]? =some (.cells #[.int .i64 0,.int .i64 0] 54 (0,0)))∧
   Hid (wr.heap[w.heap.size+1]? =some (.cells #[.int .i64 (Qu crit false (l.take k)).num,.int .i64 ((Qu crit false (l.take k)).den:Int)] 54 (0,0)))) (fun i _=>l.length-(intOf i).toNat)
  case atStart=>exact⟨0,rfl,by omega,hb1,by omega,hB,by simpa [Qu] using hO⟩
  case round=>
   clear hB hO;obtain⟨k,rfl,hk,hb,hzr,hB,hO⟩:=hrel;by_cases hlt:k<l.length
   ·obtain⟨b,off,rfl,hbl,hc⟩:=h.keep hb (by omega);obtain⟨c0,c1,c2,c3,c4⟩:=qaa hc k hlt;clear hc;have hvt:=(Qj HS.out).2 _ (Yao hlt);have hnv:=qac hvt;obtain⟨n1,n2,n3,n4,n5⟩:=hnv;have hts:=zhi (qhp crit false l k hlt);have r1:=zhi (qxe HS.out crit false k);by_cases hcr:l[k].crit=crit
    ·have hcb:(l[k].crit==crit)=true:=by simp[hcr]
     have Hcr:=zhi hcr;have r2:Hid (RIn (shr false l[k])):=q50 hvt false
     have r3:Hid (RIn (Qu crit false (l.take k)+shr false l[k])):=by
      have:=qxe HS.out crit false (k+1);rw[hts.out,Yav hcr] at this;exact this
     have hin:Hid (qsn l[k].low l[k].every=true):=by simp[Hid,qsn];omega
     have hsh:Hid (mkRat l[k].low l[k].every.toNat=shr false l[k]):=rfl;clear hcr hvt;obtain⟨wo,rfl⟩: ∃wo:World,wo=wr:=⟨_,rfl⟩
     have S_of: ∀w':World,Below wo.heap.size wo w'→w'.cell? ⟨b,off+k*5,none⟩=some (.int .i64 l[k].low)∧w'.cell? ⟨b,off+k*5+3,none⟩=some (.int .i64 l[k].every)∧Below wo.heap.size wo w':=fun w' hw=>
      ⟨(hw.cell (p:=⟨b,off+k*5,none⟩) hbl).trans c0,(hw.cell (p:=⟨b,off+k*5+3,none⟩) hbl).trans c3,hw⟩
     go_wp2_with fail
     go_region_held3 (fun w'=>w'.cell? ⟨b,off+k*5,none⟩=some (.int .i64 l[k].low)∧w'.cell? ⟨b,off+k*5+3,none⟩=some (.int .i64 l[k].every)∧Below wo.heap.size wo w')
      ((refine S_of _ ?_;first|assumption|exact zdr br|exact zdr (bal br _)|exact(by assumption:_∧_∧Below wo.heap.size wo _).2.2|(refine bal ?_ _;first|assumption|exact(by assumption:_∧_∧Below wo.heap.size wo _).2.2)|(refine bst (bst ?_ (p:=⟨_,0,none⟩) ?_ _) (p:=⟨_,1,none⟩) ?_ _<;>first|assumption|exact(by assumption:_∧_∧Below wo.heap.size wo _).2.2|exact zlr _|exact B5.size)))
      (first
       |(go_at_call 112;refine(qg2 _ _ (World.drew (World.alloc _ _)) hin.out).mono ?_;rw[hsh.out];rintro e w5 ⟨rfl,b5⟩;have HN:=zhi ((b5.block wo.heap.size (by show wo.heap.size<(World.alloc wo _).heap.size;rw[Yah];exact Ybe _)).trans (zha wo _));have hn5:wo.heap.size<w5.heap.size:=zlt (by show wo.heap.size<(World.alloc wo _).heap.size;rw[Yah];exact Ybe _) b5.size;have B5:Below wo.heap.size wo w5:=Qa (by first|assumption|exact(by assumption:_∧_∧Below wo.heap.size wo _).2.2) b5;obtain⟨y0,y1,yf⟩:=Qk HN.out)
       |(go_at_call 112;refine(qg2 _ _ _ hin.out).mono ?_;rw[hsh.out];rintro e w5 ⟨rfl,b5⟩;have B5:Below wo.heap.size wo w5:=Qa (by first|assumption|exact(by assumption:_∧_∧Below wo.heap.size wo _).2.2) b5))
     all_goals(rename_i hS;replace hS:=hS.2.2)
     ·have hN:=zha w5 (.cells #[.int .i64 (shr false l[k]).num,.int .i64 ((shr false l[k]).den:Int)] 54 (0,0));have hnb:w.heap.size+1≠w5.heap.size:=by have:=B5.size;omega
      generalize hw:World.alloc w5 _=wx at hN hS⊢;clear hw;have pO:=(hS.block _ hzr).trans hO.out;have pB:=zhi ((hS.block w.heap.size (by omega)).trans hB.out);obtain⟨n0,n1,nf⟩:=Qk hN;obtain⟨p0,p1,pf⟩:=Qk pO;have PO:=zhi pO;have hzx:=hS.size;clear hN pO;go_wp2_with fail;refine(qb3 (Qu crit false (l.take k)) (shr false l[k]) _ r1.out r2.out r3.out).mono ?_;rintro e w7 ⟨rfl,b7⟩;have hz7:=b7.size;have sO:=(b7.block (w.heap.size+1) (by omega)).trans PO.out;have SB:=zhi ((b7.block w.heap.size (by omega)).trans pB.out);clear n0 n1 nf p0 p1 pf;obtain⟨p0,p1,pf⟩:=Qk sO;have SO:=zhi sO;clear sO;go_wp2_with fail;go_roundw
      case rel=>
       refine⟨k+1,by go_num,by omega,bst (bst (Qa (Qa hb hS) b7) (p:=⟨w.heap.size+1,0,none⟩) (Ydr _) _) (p:=⟨w.heap.size+1,1,none⟩) (Ydr _) _,by simp;omega,?_,?_⟩
       ·exact(Yal _ _ _ _ (by simp)).trans ((Yal _ _ _ _ (by simp)).trans SB.out)
       ·rw[Hid,hts.out,Yav Hcr.out];exact qcz SO.out _ _
      case measure=>simp[intOf];omega
     ·have hN:=qcz HN.out (.int .i64 (shr false l[k]).num) (.int .i64 ((shr false l[k]).den:Int));have hnb:w.heap.size+1≠wo.heap.size:=by omega
      generalize hw:(World.setCell (World.setCell w5 ⟨wo.heap.size,0,none⟩ _) ⟨wo.heap.size,1,none⟩ _)=wx at hN hS⊢;clear hw;have pO:=(hS.block _ hzr).trans hO.out;have pB:=zhi ((hS.block w.heap.size (by omega)).trans hB.out);obtain⟨n0,n1,nf⟩:=Qk hN;obtain⟨p0,p1,pf⟩:=Qk pO;have PO:=zhi pO;have hzx:=hS.size;clear hN pO;go_wp2_with fail;refine(qb3 (Qu crit false (l.take k)) (shr false l[k]) _ r1.out r2.out r3.out).mono ?_;rintro e w7 ⟨rfl,b7⟩;have hz7:=b7.size;have sO:=(b7.block (w.heap.size+1) (by omega)).trans PO.out;have SB:=zhi ((b7.block w.heap.size (by omega)).trans pB.out);clear n0 n1 nf p0 p1 pf;obtain⟨p0,p1,pf⟩:=Qk sO;have SO:=zhi sO;clear sO;go_wp2_with fail;go_roundw
      case rel=>
       refine⟨k+1,by go_num,by omega,bst (bst (Qa (Qa hb hS) b7) (p:=⟨w.heap.size+1,0,none⟩) (Ydr _) _) (p:=⟨w.heap.size+1,1,none⟩) (Ydr _) _,by simp;omega,?_,?_⟩
       ·exact(Yal _ _ _ _ (by simp)).trans ((Yal _ _ _ _ (by simp)).trans SB.out)
       ·rw[Hid,hts.out,Yav Hcr.out];exact qcz SO.out _ _
      case measure=>simp[intOf];omega
    ·have hcb:(l[k].crit==crit)=false:=by simp[hcr]
     have Hcr:=zhi hcr;clear hcr;go_wp2_with fail;go_roundw
     case rel=>exact⟨k+1,by go_num,by omega,hb,hzr,hB,by rw[Hid,hts.out,Yaq Hcr.out,Rat.add_zero];exact hO⟩
     case measure=>simp[intOf];omega
   ·have hO':=hO.out;rw[Yar (by omega)] at hO';obtain⟨s0,s1,sf⟩:=Qk hO';obtain⟨z0,z1,zf⟩:=Qk hB.out;clear hO';go_wp2_with fail;refine bodyPost_ret (v:=rv (Qu crit false l)) (by simp[results,Tryz.results108,go_sem,z0,z1]) rfl ⟨rfl,?_⟩;exact bst (bst hb (p:=⟨w.heap.size,0,none⟩) (zlr _) _) (p:=⟨w.heap.size,1,none⟩) (zlr _) _
def qnn(t:Tk):Tk:={t with low:=t.high}
def qek(l:List Tk):List Tk:=(l.filter (·.crit)).map qnn
theorem qyl(l:List Tk)(t:Tk):qek (l++[t])=qek l++(if t.crit then [qnn t] else []):=by
 simp only[qek,Ycr,Ybg];cases h:t.crit<;>simp[h]
theorem qno(l:List Tk):(qek l).length≤l.length:=by
 rw[qek,Ybh];exact List.length_filter_le _ _
theorem q0q{l:List Tk}(h:Qe l=true):Qe (qek l)=true:=by
 obtain⟨h1,h2⟩:=Qj h;have:=qno l;simp only[Qe,Yac,Yae,Yaz];refine⟨by omega,fun t ht=>?_⟩;simp only[qek,List.mem_map,List.mem_filter] at ht;obtain⟨s,⟨hs,hc⟩,rfl⟩:=ht;have hb:=qac (h2 s hs);simp only[vld,qnn,hc,Bool.true_or,Bool.and_true,Yae];omega
theorem qth(l:List Tk):Qu true false (qek l)=Qu true true l:=by
 induction l with
 |nil=>rfl
 |cons t l ih=>
  cases h:t.crit with
  |false=>
   have e:qek (t::l)=qek l:=by simp[qek,h]
   rw[e,ih];simp[Qu,h,Rat.zero_add]
  |true=>
   have e:qek (t::l)=qnn t::qek l:=by simp[qek,h]
   rw[e];have h2:(qnn t).crit=true:=h;have h3:shr false (qnn t)=shr true t:=rfl;simp only[Qu,h,h2,if_true,h3,ih]
theorem qju(A:ZA)(l:List Tk)(c:Nat)(w:World)(h:TS w A l)(hS:Qe l=true):
  Calls Tryz.prog 202 #[.slice A l.length c] w (q2t w (qek l)):=by
 have hl5:=(Qj hS).1;have hm:l.length≤maxLen:=by unfold maxLen;omega
 have HS:=zhi hS;clear hS;go_enter Tryz.func202,Tryz.ntmps202;go_wp2_with fail;go_loopw [3,4] (fun v i wr=> ∃(k n:Nat) (A':ZA) (c':Nat),i=.int .i64 (k:Int)∧v=.slice A' n c'∧k≤l.length∧Hid ((qek (l.take k)).length=n)∧n≤5∧OT w.heap.size wr A' c' (qek (l.take k))∧Below w.heap.size w wr) (fun _ i _=>l.length-(intOf i).toNat)
 case atStart=>exact⟨0,0,_,0,rfl,rfl,by omega,rfl,by omega,Q8 w _ (zlr _),bal br _⟩
 case round=>
  obtain⟨k,n,A',c',rfl,rfl,hk,hn,hn5,hO,hb⟩:=hrel;by_cases hlt:k<l.length
  ·have hsn:Hid (qek (l.take (k+1))=qek (l.take k)++(if l[k].crit then [qnn l[k]] else [])):=by rw[Hid,Yad hlt,qyl]
   have hn6:(qek (l.take (k+1))).length≤5:=by
    have:=qno (l.take (k+1));simp at this;omega
   go_wp2_with fail;refine(Qd A l c _ (h.keep hb) hm).mono ?_;rw[HS.out];rintro e w1 ⟨rfl,b1⟩;have B1:=Qa hb b1;have O1:=Q5 hO b1;obtain⟨b,off,rfl,hbl,hc⟩:=h.keep B1 (by omega);obtain⟨c0,c1,c2,c3,c4⟩:=qaa hc k hlt;clear hc;cases hcr:l[k].crit with
   |false=>
    rw[hcr] at c4;have Hcr:=zhi hcr;clear hcr;go_wp2_with fail;go_roundw
    case rel=>exact⟨k+1,n,A',c',by go_num,rfl,by omega,by rw[Hid,hsn.out,Hcr.out];simpa using hn.out,hn5,by rw[hsn.out,Hcr.out];simpa using Vb O1 _,bal B1 _⟩
    case measure=>simp[intOf];omega
   |true=>
    rw[hcr] at c4;have hsn2:Hid (qek (l.take (k+1))=qek (l.take k)++[qnn l[k]]):=by rw[Hid,hsn.out,hcr];rfl
    have hcells:Hid ((qnn l[k]).cells=[.int .i64 l[k].high,.int .i64 l[k].high,.int .i64 l[k].due,.int .i64 l[k].every,.bool true]):=by simp[Hid,Tk.cells,qnn,hcr]
    have hn7:n+1≤5:=by
     rw[hsn2.out,Yaa,hn.out] at hn6;simpa using hn6
    clear hcr;go_wp2_with (at_builtin;refine qaq _ rfl _ _ rfl w.heap.size A' (qek (l.take k)) n c' hn.out rfl (Vb (Vb O1 _) _) (w1.heap.size+1) 1 (qnn l[k]) _ 58 rfl (by have:=zha (w1.alloc (.cells #[.int .i64 l[k].high,.int .i64 l[k].high,.int .i64 l[k].due,.int .i64 l[k].every,.bool true] 58)) (.cells #[.int .i64 l[k].high,.int .i64 l[k].high,.int .i64 l[k].due,.int .i64 l[k].every,.bool true] 58 (0,0));rw[Yah] at this;exact this) (by rw[hcells.out]) (by rw[hn.out];omega) (by have:=B1.size;simp;omega) ?_;intro A3 c3' w3 hO3 hg3 hb3)
    go_roundw
    case rel=>exact⟨k+1,n+1,A3,c3',by go_num,rfl,by omega,by rw[Hid,hsn2.out,Yaa,hn.out];rfl,hn7,by rw[hsn2.out];exact hO3,(bal (bal B1 _) _).trans hb3⟩
    case measure=>simp[intOf];omega
  ·obtain rfl:k=l.length:=by omega
   go_wp2_with fail;have e:l.take l.length=l:=Ybi;rw[e] at hO hn;have Hn:=hn.out;subst Hn;go_ret;exact⟨A',c',rfl,hO,hb⟩
theorem qb4(A:ZA)(l:List Tk)(c:Nat)(w:World)(h:TS w A l)(hm:l.length≤maxLen):
  Calls Tryz.prog 151 #[.slice A l.length c] w fun e w'=>e=.returned (qhv l true true)∧Below w.heap.size w w':=by
 cases hS:Qe l with
 |false=>
  have hv:qhv l true true=sv 0 0:=by simp[qhv,hS]
  rw[hv];clear hv;go_enter Tryz.func151,Tryz.ntmps151;go_wp2_with fail;refine(Qd A l c _ (h.keep (bal br _)) hm).mono ?_;rw[hS];rintro e w1 ⟨rfl,b1⟩;have hB:=(b1.block w.heap.size (by simp)).trans (zha w _);obtain⟨x0,x1,xf⟩:=Qk hB;clear hB;go_wp2_with fail;refine bodyPost_ret (v:=sv 0 0) (by simp[results,Tryz.results151,go_sem,x0,x1]) rfl ⟨rfl,?_⟩;exact bst (bst (Qa (bal br _) b1) (p:=⟨w.heap.size,0,none⟩) (zlr _) _) (p:=⟨w.heap.size,1,none⟩) (zlr _) _
 |true=>
  have HS:=zhi hS;have hv:qhv l true true=rv (Qu true true l):=by simp[qhv,hS]
  have hv2:Hid (qhv (qek l) true false=rv (Qu true true l)):=by simp[Hid,qhv,q0q hS,qth]
  have hlm:Hid ((qek l).length≤maxLen):=by
   have:=qno l;simp only[Hid];omega
  rw[hv];clear hv;go_enter Tryz.func151,Tryz.ntmps151;go_wp2_with fail;refine(Qd A l c _ (h.keep (bal br _)) hm).mono ?_;rw[hS];clear hS;rintro e w1 ⟨rfl,b1⟩;have B1:=Qa (bal (Below.refl w.heap.size w) _) b1;have hz1:=b1.size;simp only[Yah] at hz1;go_wp2_with fail;refine(qju A l c _ (h.keep B1) HS.out).mono ?_;rintro e w2 ⟨A2,c2,rfl,o2,b2⟩;have hz2:=b2.size;go_wp2_with fail;refine(qbt A2 (qek l) c2 true _ o2.ts hlm.out).mono ?_;rw[hv2.out];rintro e w3 ⟨rfl,b3⟩;have hB:=((b3.block w.heap.size (by omega)).trans ((b2.block w.heap.size (by omega)).trans (b1.block w.heap.size (by simp)))).trans (zha w _);obtain⟨x0,x1,xf⟩:=Qk hB;clear hB;obtain⟨r,hr⟩: ∃r,Qu true true l=r:=⟨_,rfl⟩;rw[hr];have Hr:=zhi hr;clear hr;go_wp2_with fail;refine bodyPost_ret (v:=rv r) (by simp[results,Tryz.results151,go_sem,x0,x1]) rfl ⟨by rw[Hr.out],?_⟩;exact bst (bst (Qa (Qa B1 b2) b3) (p:=⟨w.heap.size,0,none⟩) (zlr _) _) (p:=⟨w.heap.size,1,none⟩) (zlr _) _
theorem qa6(w:World):Calls Tryz.prog 66 #[] w fun e w'=>e=.returned (sv 1 1)∧Below w.heap.size w w':=by
 go_enter Tryz.func66,Tryz.ntmps66;go_wp2_with fail;exact bodyPost_ret (v:=sv 1 1) (by simp[results,Tryz.results66,go_sem]) rfl ⟨rfl,bal br _⟩
def q0r(a:Rat):Int:=if a.num<(a.den:Int) then-1 else if(a.den:Int)<a.num then 1 else 0
theorem q3m(a:Rat):q5z a 1=q0r a:=by simp[q5z,q0r]
theorem q51:RIn 1:=⟨by decide,by decide,by decide⟩
theorem qcs(a:Rat)(w:World)(ha:RIn a):
  Calls Tryz.prog 110 #[rv a,sv 1 1] w fun e w'=>e=.returned (.int .i64 (q0r a))∧Below w.heap.size w w':=by
 have h:=qkp a 1 w ha q51;rw[q3m] at h;exact h
theorem qh8(a:Rat):decide (q0r a≤0)=qjq a:=by
 unfold q0r qjq;split
 ·simp;omega
 ·split
  ·simp;omega
  ·simp;omega
theorem q52(a:Rat):decide (0<q0r a)= !qjq a:=by
 rw[←qh8,←decide_not];simp
theorem q53(a:Rat):(q0r a==0)=(a.num==(a.den:Int)):=by
 rw[Bool.eq_iff_iff,Yef,Yef];unfold q0r;split
 ·omega
 ·split<;>omega
theorem qjv(a:Rat): -1≤q0r a∧q0r a≤1:=by
 unfold q0r;split
 ·omega
 ·split<;>omega
theorem qe8(A:ZA)(l:List Tk)(c:Nat)(w:World)(h:TS w A l)(hm:l.length≤maxLen):
  Calls Tryz.prog 106 #[.slice A l.length c] w fun e w'=>e=.returned (.bool (qcp l))∧Below w.heap.size w w':=by
 have hm':=hm;unfold maxLen at hm';cases hS:Qe l with
 |false=>
  have Hf:Hid (qcp l=false):=by simp[Hid,qcp,hS]
  have hne:0<l.length:=by
   cases l with
   |nil=>simp[Qe] at hS
   |cons=>simp
  go_enter Tryz.func106,Tryz.ntmps106;go_wp2_with fail;go_loopw [3] (fun i wr=>i=.int .i64 0∧Below w.heap.size w wr) (fun _ _=>0)
  case atStart=>exact⟨rfl,br⟩
  case round=>
   obtain⟨rfl,hb⟩:=hrel;go_wp2_with fail;refine(Qd A l c _ (h.keep hb) hm).mono ?_;rw[hS];rintro e w1 ⟨rfl,b1⟩;go_wp2_with fail;refine(Qd A l c _ (h.keep (Qa hb b1)) hm).mono ?_;rw[hS];rintro e w2 ⟨rfl,b2⟩;go_wp2_with fail;go_ret;exact⟨by rw[Hf.out];rfl,Qa (Qa hb b1) b2⟩
 |true=>
  have hl5:=(Qj hS).1;have Hs:=zhi hS;have Hf:Hid (qcp l=qh4 l l.length):=by simp[Hid,qcp,hS]
  clear hS;go_enter Tryz.func106,Tryz.ntmps106;go_wp2_with fail;go_loopw [3] (fun i wr=> ∃k:Nat,k≤l.length∧i=.int .i64 (k:Int)∧Hid (qh4 l k=true)∧Below w.heap.size w wr) (fun i _=>l.length-(intOf i).toNat)
  case atStart=>exact⟨0,by omega,rfl,rfl,br⟩
  case round=>
   obtain⟨k,hk,rfl,hall,hb⟩:=hrel;by_cases hlt:k<l.length
   ·go_wp2_with fail;refine(Qd A l c _ (h.keep hb) hm).mono ?_;rw[Hs.out];rintro e w1 ⟨rfl,b1⟩;have B1:=Qa hb b1;obtain⟨b,off,rfl,hbl,hc⟩:=h.keep B1 (by omega);obtain⟨c0,c1,c2,c3,c4⟩:=Qv hc k hlt;clear hc;have q0:(0:Int)≤(k:Int):=by omega
    have q1:(k:Int)<(l.length:Int):=by omega
    by_cases hd:(Qg l k).due=(Qg l k).every
    ·have hgood:=zhi (qnd hall.out hd);have hne:((Qg l k).due !=(Qg l k).every)=false:=by simp[hd]
     clear hd;go_wp2_with fail;go_quiet (fail)
     go_wp2_with fail;go_roundw
     case rel=>exact⟨k+1,by omega,by go_num,hgood,bdr B1 _⟩
     case measure=>simp[intOf];omega
    ·have hbad:=zhi (qp7 hlt hd);have hne:((Qg l k).due !=(Qg l k).every)=true:=by simpa using hd
     clear hd;go_wp2_with fail;go_quiet (fail)
     go_wp2_with fail;go_ret;exact⟨by rw[Hf.out,hbad.out];rfl,bdr B1 _⟩
   ·have hk':Hid (k=l.length):=show k=l.length by omega
    go_wp2_with fail;refine(Qd A l c _ (h.keep hb) hm).mono ?_;rw[Hs.out];rintro e w1 ⟨rfl,b1⟩;go_wp2_with fail;go_ret;have ha:=hall.out;rw[hk'.out] at ha;exact⟨by rw[Hf.out,ha];rfl,Qa hb b1⟩
theorem qti{l:List Tk}(h:Qe l=true):RIn (ua l+uh l)∧RIn (ua l+ub l):=by
 obtain⟨hl5,hall⟩:=Qj h;have p1:=qg0 false l hall;have p2:=qg0 true l hall;have hpl:=zll (qs2 l hall) (qw5 hl5);have d1:=qe9 false false l hall;have d2:=qe9 true true l hall;have d3:=qe9 true false l hall;have b1:=qff false false l hall;have b2:=qff true true l hall;have b3:=qff true false l hall;have h5:((l.length:Nat):Rat)≤5:=by exact_mod_cast hl5
 have hn0:qcc true l*qcc false l≠0:=Nat.mul_ne_zero (by omega) (by omega)
 have key: ∀x y:Rat,0≤x→0≤y→x≤5→y≤5→x.den∣qcc false l→y.den∣qcc true l→RIn (x+y):=by
  intro x y x0 y0 x5 y5 dx dy;have hd:=qjs hn0 (Nat.dvd_trans dx (Nat.dvd_mul_left _ _)) (Nat.dvd_trans dy (Nat.dvd_mul_right _ _));have h1:x+y≤((10:Nat):Rat):=by grind
  have h3:=qf4 h1;have h6:=Ycm (by omega) hd;exact⟨qgt (by grind),by omega,by omega⟩
 exact⟨key _ _ b1.1 b2.1 (Rat.le_trans b1.2 h5) (Rat.le_trans b2.2 h5) d1 d2,key _ _ b1.1 b3.1 (Rat.le_trans b1.2 h5) (Rat.le_trans b3.2 h5) d1 d3⟩
theorem qfs(A:ZA)(l:List Tk)(c:Nat)(w:World)(h:TS w A l)(hm:l.length≤maxLen):
  Calls Tryz.prog 107 #[.slice A l.length c] w fun e w'=>e=.returned (.bool (Vj l))∧Below w.heap.size w w':=by
 cases hI:qcp l with
 |false=>
  have Hf:Hid (Vj l=false):=by simp[Hid,Vj,hI]
  go_enter Tryz.func107,Tryz.ntmps107;go_wp2_with fail;refine(qe8 A l c _ h hm).mono ?_;rw[hI];rintro e w1 ⟨rfl,b1⟩;go_wp2_with fail;go_ret;exact⟨by rw[Hf.out];rfl,b1⟩
 |true=>
  have hs:=qe5 hI;have Hf:Hid (Vj l=qjq (ua l+uh l)):=by simp[Hid,Vj,hI]
  have ea:Hid (qhv l false false=rv (ua l)):=qbh hs false false;have eh:Hid (qhv l true true=rv (uh l)):=qbh hs true true;have ra:Hid (RIn (ua l)):=Vd hs false false;have rh:Hid (RIn (uh l)):=Vd hs true true;have rs:Hid (RIn (ua l+uh l)):=(qti hs).1;clear hs;go_enter Tryz.func107,Tryz.ntmps107;go_wp2_with fail;refine(qe8 A l c _ h hm).mono ?_;rw[hI];rintro e w1 ⟨rfl,b1⟩;go_wp2_with fail;refine(qbt A l c false _ (h.keep b1) hm).mono ?_;rw[ea.out];rintro e w2 ⟨rfl,b2⟩;have B2:=Qa b1 b2;go_wp2_with fail;refine(qb4 A l c _ (h.keep B2) hm).mono ?_;rw[eh.out];rintro e w3 ⟨rfl,b3⟩;have B3:=Qa B2 b3;go_wp2_with fail;refine(qb3 (ua l) (uh l) _ ra.out rh.out rs.out).mono ?_;rintro e w4 ⟨rfl,b4⟩;have B4:=Qa B3 b4;generalize ua l+uh l=r at*;go_wp2_with fail;have hB:=zha w4 (.cells #[.int .i64 r.num,.int .i64 (r.den:Int)] 54 (0,0));have hbl:w4.heap.size<(w4.alloc (.cells #[.int .i64 r.num,.int .i64 (r.den:Int)] 54 (0,0))).heap.size:=by simp
  have B5:=bal B4 (.cells #[.int .i64 r.num,.int .i64 (r.den:Int)] 54 (0,0));generalize hg:World.alloc w4 _=wx at hB hbl B5⊢;clear hg
  have S_of: ∀w':World,Below wx.heap.size wx w'→w'.cell? ⟨w4.heap.size,0,none⟩=some (.int .i64 r.num)∧w'.cell? ⟨w4.heap.size,1,none⟩=some (.int .i64 (r.den:Int))∧Below wx.heap.size wx w':=fun w' hw=>by
   obtain⟨h0,h1,_⟩:=Qk ((hw.block _ hbl).trans hB);exact⟨h0,h1,hw⟩
  clear hB;have hq:=zhi (qh8 r);have hcb:=qjv r
  go_region_held3 (fun w'=>w'.cell? ⟨w4.heap.size,0,none⟩=some (.int .i64 r.num)∧w'.cell? ⟨w4.heap.size,1,none⟩=some (.int .i64 (r.den:Int))∧Below wx.heap.size wx w')
   ((refine S_of _ ?_;first|assumption|exact zdr br|exact(by assumption:_∧_∧Below wx.heap.size wx _).2.2))
   (first
    |(go_at_call 66;refine(qa6 _).mono ?_;rintro e w5 ⟨rfl,b5⟩;have B6:Below wx.heap.size wx w5:=Qa (by first|assumption|exact(by assumption:_∧_∧Below wx.heap.size wx _).2.2) b5)
    |(go_at_call 110;refine(qcs r _ rs.out).mono ?_;rintro e w6 ⟨rfl,b6⟩;have B7:Below wx.heap.size wx w6:=Qa (by first|assumption|exact(by assumption:_∧_∧Below wx.heap.size wx _).2.2) b6))
  all_goals go_wp2_with fail
  all_goals go_ret
  all_goals exact⟨by rw[Hf.out,←hq.out];rfl,Qa B5 (by first|assumption|exact(by assumption:_∧_∧Below wx.heap.size wx _).2.2)⟩
end Go.Proofs.YtmkjmancmiphfaaGreatDoor

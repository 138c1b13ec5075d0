/-
  FactorOf: the reference's.
-/
import Derived.Test.YtmkjmancmiphfaaGreatDoorRc16
namespace Go.Proofs.YtmkjmancmiphfaaGreatDoor
set_option maxHeartbeats 8000000
set_option maxRecDepth 1000000
open Go.RowKit
theorem qtj{N D:Int}(h0:0≤N)(h1:1≤D): ∃h:Nat,h=Nat.gcd D.toNat N.toNat∧0<h∧(h:Int)≤D∧N.tdiv (h:Int)=(mkRat N D.toNat).num∧D.tdiv (h:Int)=((mkRat N D.toNat).den:Int):=by
 obtain⟨n,rfl⟩: ∃k:Nat,N=(k:Int):=⟨N.toNat,(Yay h0).symm⟩;obtain⟨d,rfl⟩: ∃k:Nat,D=(k:Int):=⟨D.toNat,(Yay (by omega)).symm⟩;simp only[Yam];have hd:d≠0:=by omega
 have hg:0<Nat.gcd d n:=Ydj _ (by omega);have hle:Nat.gcd d n≤d:=Ycm (by omega) (Nat.gcd_dvd_left _ _);refine⟨_,rfl,hg,by omega,?_,?_⟩
 ·rw[qgr _ _ hd,Ydu,Yby (by omega)];simp
 ·rw[qgs _ _ hd,Ydu,Yby (by omega)];simp
theorem qdo(A:ZA)(l:List Tk)(c:Nat)(w:World)(h:TS w A l)(hm:l.length≤maxLen):
  Calls Tryz.prog 67 #[.slice A l.length c] w fun e w'=>e=.returned (qkn l)∧Below w.heap.size w w':=by
 cases hI:qcp l with
 |false=>
  have Hf:=zhi (qh6 (qxa hI) (.inl hI));go_enter Tryz.func67,Tryz.ntmps67;go_wp2_with fail;refine(qe8 A l c _ (h.keep (bal br _)) hm).mono ?_;rw[hI];rintro e w1 ⟨rfl,b1⟩;have hB:=(b1.block w.heap.size (by simp)).trans (zha w _);obtain⟨x0,x1,xf⟩:=Qk hB;clear hB;go_wp2_with fail;refine bodyPost_ret (v:=.tuple #[sv 0 0,.bool false]) (by simp[results,Tryz.results67,go_sem,x0,x1]) rfl ⟨by rw[Hf.out],?_⟩;exact bst (bst (Qa (bal br _) b1) (p:=⟨w.heap.size,0,none⟩) (zlr _) _) (p:=⟨w.heap.size,1,none⟩) (zlr _) _
 |true=>
  have hs:=qe5 hI;have ea:Hid (qhv l false false=rv (ua l)):=qbh hs false false;have eb:Hid (qhv l true false=rv (ub l)):=qbh hs true false;have ra:=Vd hs false false;have rb:=Vd hs true false;have rs:Hid (RIn (ua l+ub l)):=(qti hs).2;change RIn (ua l) at ra;change RIn (ub l) at rb;have HS:=zhi hs;clear hs;go_enter Tryz.func67,Tryz.ntmps67;go_wp2_with fail;refine(qe8 A l c _ (h.keep (bal br _)) hm).mono ?_;rw[hI];rintro e w1 ⟨rfl,b1⟩;have B1:=Qa (bal (Below.refl w.heap.size w) _) b1;go_wp2_with fail;refine(qfs A l c _ (h.keep B1) hm).mono ?_;cases hP:Vj l with
  |true=>
   have Hf:Hid (qkn l=.tuple #[sv 1 1,.bool true]):=by simp[Hid,qkn,hP]
   rintro e w2 ⟨rfl,b2⟩;have B2:=Qa B1 b2;have hz1:=b1.size;have hz2:=b2.size;simp only[Yah] at hz1;go_wp2_with fail;refine(qa6 _).mono ?_;rintro e w3 ⟨rfl,b3⟩;have hB:=(b3.block w.heap.size (by omega)).trans ((Qa b1 b2).block w.heap.size (by simp));have hB:=hB.trans (zha w _);obtain⟨x0,x1,xf⟩:=Qk hB;clear hB;go_wp2_with fail;refine bodyPost_ret (v:=.tuple #[sv 1 1,.bool true]) (by simp[results,Tryz.results67,go_sem,x0,x1]) rfl ⟨by rw[Hf.out],?_⟩;exact bst (bst (Qa B2 b3) (p:=⟨w.heap.size,0,none⟩) (zlr _) _) (p:=⟨w.heap.size,1,none⟩) (zlr _) _
  |false=>
   rintro e w2 ⟨rfl,b2⟩;have B2:=Qa B1 b2;have HB2:=zhi (((Qa b1 b2).block w.heap.size (by simp)).trans (zha w _));have hz2:w.heap.size<w2.heap.size:=by have:=b1.size;have:=b2.size;simp only[Yah] at*;omega
   go_wp2_with fail;refine(qbt A l c false _ (h.keep B2) hm).mono ?_;rw[ea.out];rintro e w3 ⟨rfl,b3⟩;have B3:=Qa B2 b3;have hz3:=b3.size;have HB3:=zhi ((b3.block w.heap.size hz2).trans HB2.out);go_wp2_with fail;refine(qbt A l c true _ (h.keep (bal B3 _)) hm).mono ?_;rw[eb.out];rintro e w4 ⟨rfl,b4⟩;have B4:=Qa (bal B3 _) b4;have hz4:=b4.size;simp only[Yah] at hz4;have k0:=(b4.block w3.heap.size (by simp)).trans (zha w3 _);have HB4:=zhi ((b4.block w.heap.size (by simp;omega)).trans ((Yaj _ _ _ (by omega)).trans HB3.out));obtain⟨x0,x1,xf⟩:=Qk k0;have K0:=zhi k0;clear k0 HB3 HB2;have hn3:w3.heap.size<w4.heap.size:=by omega
   have hn3':w3.heap.size≠w4.heap.size:=by omega
   go_wp2_with fail;refine(qb3 (ua l) (ub l) _ ra rb rs.out).mono ?_;rintro e w5 ⟨rfl,b5⟩;have B5:=Qa (bal B4 _) b5;have hz5:=b5.size;simp only[Yah] at hz5;have k0:=(b5.block w3.heap.size (by simp;omega)).trans ((Yaj _ _ _ hn3).trans K0.out);have k1:=(b5.block w4.heap.size (by simp)).trans (zha w4 _);have k2:=(b5.block w.heap.size (by simp;omega)).trans ((Yaj _ _ _ (by omega)).trans HB4.out);clear x0 x1 xf;have K0:=zhi k0;have K1:=zhi k1;have K2:=zhi k2;clear k0 k1 k2 HB4;go_wp2_with fail;obtain⟨so,hso⟩: ∃r,ua l+ub l=r:=⟨_,rfl⟩;rw[hso] at rs⊢;have hfs:Hid (ua l+ub l=so):=hso;clear hso;have hB:=zha w5 (.cells #[.int .i64 so.num,.int .i64 (so.den:Int)] 54 (0,0));have hB0:=fun o=>(Yaj w5 o w3.heap.size (by omega)).trans K0.out
   have hB1:=fun o=>(Yaj w5 o w4.heap.size (by omega)).trans K1.out
   have hB2:=fun o=>(Yaj w5 o w.heap.size (by omega)).trans K2.out
   have B6:=bal B5 (.cells #[.int .i64 so.num,.int .i64 (so.den:Int)] 54 (0,0));have hz6:w5.heap.size<(w5.alloc (.cells #[.int .i64 so.num,.int .i64 (so.den:Int)] 54 (0,0))).heap.size:=by simp
   generalize hg:World.alloc w5 _=wx at hB B6 hz6⊢;replace hB0:=hB0 (.cells #[.int .i64 so.num,.int .i64 (so.den:Int)] 54 (0,0));replace hB1:=hB1 (.cells #[.int .i64 so.num,.int .i64 (so.den:Int)] 54 (0,0));replace hB2:=hB2 (.cells #[.int .i64 so.num,.int .i64 (so.den:Int)] 54 (0,0));rw[hg] at hB0 hB1 hB2;have hzx0:w3.heap.size<wx.heap.size:=by omega
   have hzx1:w4.heap.size<wx.heap.size:=by omega
   have hzx2:w.heap.size<wx.heap.size:=by omega
   have HB0:=zhi hB0;have HB1:=zhi hB1;have HB2:=zhi hB2;have HBs:=zhi hB;clear hg hB0 hB1 hB2 hB K0 K1 K2;have hq:=q52 so;have hq2:=q53 (ua l)
   have S_of: ∀w':World,Below wx.heap.size wx w'→w'.cell? ⟨w5.heap.size,0,none⟩=some (.int .i64 so.num)∧w'.cell? ⟨w5.heap.size,1,none⟩=some (.int .i64 (so.den:Int))∧w'.cell? ⟨w3.heap.size,0,none⟩=some (.int .i64 (ua l).num)∧w'.cell? ⟨w3.heap.size,1,none⟩=some (.int .i64 ((ua l).den:Int))∧Below wx.heap.size wx w':=fun w' hw=>by
    obtain⟨h0,h1,_⟩:=Qk ((hw.block _ hz6).trans HBs.out);obtain⟨h2,h3,_⟩:=Qk ((hw.block _ hzx0).trans HB0.out);exact⟨h0,h1,h2,h3,hw⟩
   cases hfit:qjq so with
   |false=>
    have Hf:=zhi (qh6 hP (.inr (q0d (by rw[hfs.out];exact hfit))));rw[hfit] at hq;obtain⟨s0,s1,_⟩:=Qk HBs.out;clear hfit;first
    |go_region_with (first
      |(go_at_call 66;refine(qa6 _).mono ?_;rintro e w6 ⟨rfl,b6⟩;have B7:Below wx.heap.size wx w6:=Qa (zdr br) b6;obtain⟨t0,t1,_,_,_⟩:=S_of w6 B7)
      |(go_at_call 110;refine(qcs so _ rs.out).mono ?_;rintro e w7 ⟨rfl,b7⟩;have B8:Below wx.heap.size wx w7:=Qa B7 b7))
    |fail
    all_goals
     have hR:=(B8.block w.heap.size hzx2).trans HB2.out;obtain⟨z0,z1,zf⟩:=Qk hR;clear hR;go_wp2_with fail;refine bodyPost_ret (v:=.tuple #[sv 0 0,.bool false]) (by simp[results,Tryz.results67,go_sem,z0,z1]) rfl ⟨by rw[Hf.out],?_⟩;exact bst (bst (Qa B6 B8) (p:=⟨w.heap.size,0,none⟩) (zlr _) _) (p:=⟨w.heap.size,1,none⟩) (zlr _) _
   |true=>
    have Hfit:=zhi hfit;rw[hfit] at hq;clear hfit;have Hra:=zhi ra;have Hrb:=zhi rb;have BB:Below wx.heap.size wx wx:=br;cases hne:((ua l).num==((ua l).den:Int)) with
    |true=>
     have Hf:=zhi (qh6 hP (.inr (q0e hne)));rw[hne] at hq2;clear hne ra rb
     go_region_held3 (fun w'=>w'.cell? ⟨w5.heap.size,0,none⟩=some (.int .i64 so.num)∧w'.cell? ⟨w5.heap.size,1,none⟩=some (.int .i64 (so.den:Int))∧w'.cell? ⟨w3.heap.size,0,none⟩=some (.int .i64 (ua l).num)∧w'.cell? ⟨w3.heap.size,1,none⟩=some (.int .i64 ((ua l).den:Int))∧Below wx.heap.size wx w')
      ((refine S_of _ ?_;first|assumption|exact zdr br|exact(by assumption:_∧_∧_∧_∧Below wx.heap.size wx _).2.2.2.2))
      (first
       |(go_at_call 66;refine(qa6 _).mono ?_;rintro e w6 ⟨rfl,b6⟩;have B7:Below wx.heap.size wx w6:=Qa (by first|assumption|exact(by assumption:_∧_∧_∧_∧Below wx.heap.size wx _).2.2.2.2) b6)
       |(go_at_call 110;refine(qcs _ _ (by first|exact rs.out|exact Hra.out)).mono ?_;rintro e w8 ⟨rfl,b8⟩;have B9:Below wx.heap.size wx w8:=Qa (by first|assumption|exact(by assumption:_∧_∧_∧_∧Below wx.heap.size wx _).2.2.2.2) b8))
     all_goals
      have B9':=(by first|assumption|exact(by assumption:_∧_∧_∧_∧Below wx.heap.size wx _).2.2.2.2:Below wx.heap.size wx w8);have hR:=(B9'.block w.heap.size hzx2).trans HB2.out;obtain⟨z0,z1,zf⟩:=Qk hR;clear hR;go_wp2_with fail;refine bodyPost_ret (v:=.tuple #[sv 0 0,.bool false]) (by simp[results,Tryz.results67,go_sem,z0,z1]) rfl ⟨by rw[Hf.out],?_⟩;exact bst (bst (Qa B6 B9') (p:=⟨w.heap.size,0,none⟩) (zlr _) _) (p:=⟨w.heap.size,1,none⟩) (zlr _) _
    |false=>
     have hno:qe4 l=false:=by simp[qe4,hfs.out,Hfit.out,hne]
     have hok:=qyg HS.out hno;have Hf:Hid (qkn l=.tuple #[rv (qm1 l),.bool true]):=by simp[Hid,qkn,hP,hI,hno]
     obtain⟨m1,m2,m3,m4,m5,m6,m7,m8,m9,m10,m11,m12⟩:=hok;obtain⟨hh,hh0,hhp,hhle,hhn,hhd⟩:=qtj m6 m8;have efr:mkRat ((ub l).num*((ua l).den:Int)) (((ub l).den:Int)*(((ua l).den:Int)-(ua l).num)).toNat=qm1 l:=rfl;rw[efr] at hhn hhd;obtain⟨ff,hff⟩: ∃f,qm1 l=f:=⟨_,rfl⟩;rw[hff] at hhn hhd m10 Hf;obtain⟨f1,f2,f3,f4⟩:=qcb m10;obtain⟨ra1,ra2,ra3,ra4⟩:=qcb ra;obtain⟨rb1,rb2,rb3,rb4⟩:=qcb rb;have G:=fun(w:World)=>qnm (((ub l).den:Int)*(((ua l).den:Int)-(ua l).num)) ((ub l).num*((ua l).den:Int)) w (by omega) m6 (by omega) (by omega)
     rw[←hh0] at G;have W7:Hid (IntKind.i64.wrap (((ub l).num*((ua l).den:Int)).tdiv (hh:Int))=ff.num):=by rw[Hid,hhn];exact Yai _ (by omega)
     have W8:Hid (IntKind.i64.wrap ((((ub l).den:Int)*(((ua l).den:Int)-(ua l).num)).tdiv (hh:Int))=(ff.den:Int)):=by rw[Hid,hhd];exact Yai _ (by omega)
     have hhz:((hh:Int)==0)=false:=beq_eq_false_iff_ne.2 (by omega);have HG:=zhi G;have Hff:=zhi m10;rw[hne] at hq2;clear hne ra rb m10 m11 m12 hno efr hff hhn hhd hh0 G
     go_region_held3 (fun w'=>w'.cell? ⟨w5.heap.size,0,none⟩=some (.int .i64 so.num)∧w'.cell? ⟨w5.heap.size,1,none⟩=some (.int .i64 (so.den:Int))∧w'.cell? ⟨w3.heap.size,0,none⟩=some (.int .i64 (ua l).num)∧w'.cell? ⟨w3.heap.size,1,none⟩=some (.int .i64 ((ua l).den:Int))∧Below wx.heap.size wx w')
      ((refine S_of _ ?_;first|assumption|exact zdr br|exact(by assumption:_∧_∧_∧_∧Below wx.heap.size wx _).2.2.2.2))
      (first
       |(go_at_call 66;refine(qa6 _).mono ?_;rintro e w6 ⟨rfl,b6⟩;have B7:Below wx.heap.size wx w6:=Qa (by first|assumption|exact(by assumption:_∧_∧_∧_∧Below wx.heap.size wx _).2.2.2.2) b6)
       |(go_at_call 110;refine(qcs _ _ (by first|exact rs.out|exact Hra.out)).mono ?_;rintro e w8 ⟨rfl,b8⟩;have B9:Below wx.heap.size wx w8:=Qa (by first|assumption|exact(by assumption:_∧_∧_∧_∧Below wx.heap.size wx _).2.2.2.2) b8))
     all_goals
      have B9':=(by first|assumption|exact(by assumption:_∧_∧_∧_∧Below wx.heap.size wx _).2.2.2.2:Below wx.heap.size wx w8);clear hq hq2;have kR:=zhi ((B9'.block w.heap.size hzx2).trans HB2.out);obtain⟨x0,x1,xf⟩:=Qk ((B9'.block w3.heap.size hzx0).trans HB0.out);obtain⟨y0,y1,yf⟩:=Qk ((B9'.block w4.heap.size hzx1).trans HB1.out);have hz8:=B9'.size;go_wp2_with fail;refine(HG.out _).mono ?_;rintro e w9 ⟨rfl,b9⟩;have hz9:=b9.size;have kR2:=zhi ((b9.block w.heap.size (by omega)).trans kR.out);clear x0 x1 xf y0 y1 yf;have B10:=Qa (Qa B6 B9') b9;go_wp2_with fail;have x7:=W7.out;have x8:=W8.out
      go_region_with (first
       |(go_at_call 112;refine(qb8 ff _ Hff.out).mono ?_;rintro e w10 ⟨rfl,c3⟩;have hC3:=(c3.block w.heap.size (by show w.heap.size<w9.heap.size;omega)).trans kR2.out;obtain⟨y0,y1,yf⟩:=Qk hC3;have hz3:=c3.size;have B11:=Qa (zdr B10) c3;clear hC3))
     all_goals clear x7 x8
     all_goals go_wp2_with fail
     all_goals
      refine bodyPost_ret (v:=.tuple #[rv ff,.bool true]) (by simp[results,Tryz.results67,go_sem,y0,y1]) rfl ⟨by rw[Hf.out],?_⟩;exact bst (bst B11 (p:=⟨w.heap.size,0,none⟩) (zlr _) _) (p:=⟨w.heap.size,1,none⟩) (zlr _) _
end Go.Proofs.YtmkjmancmiphfaaGreatDoor

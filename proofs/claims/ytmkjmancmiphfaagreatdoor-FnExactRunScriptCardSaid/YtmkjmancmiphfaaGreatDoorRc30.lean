/-
  HoldsVirtual: the reference's.
-/
import Derived.Test.YtmkjmancmiphfaaGreatDoorRc17
namespace Go.Proofs.YtmkjmancmiphfaaGreatDoor
set_option maxHeartbeats 8000000
set_option maxRecDepth 1000000
open Go.RowKit
theorem q6c(a b:Rat):mkRat (a.num*b.num) ((a.den:Int)*(b.den:Int)).toNat=a*b:=by
 rw[←Ybr,Yam,q42]
theorem qd2(A:ZA)(l:List Tk)(c:Nat)(w:World)(h:TS w A l)(hm:l.length≤maxLen):
  Calls Tryz.prog 148 #[.slice A l.length c] w fun e w'=>e=.returned (.bool (qcd l))∧Below w.heap.size w w':=by
 cases hP:Vj l with
 |true=>
  have Hf:=zhi (qko hP);have HP:=zhi hP;have Hv:Hid (qkn l=.tuple #[sv 1 1,.bool true]):=by simp[Hid,qkn,hP]
  clear hP;go_enter Tryz.func148,Tryz.ntmps148;go_wp2_with fail;refine(qdo A l c _ h hm).mono ?_;rw[Hv.out];rintro e w1 ⟨rfl,b1⟩;go_wp2_with fail;refine(qfs A l c _ (h.keep (bal b1 _)) hm).mono ?_;rw[HP.out];rintro e w2 ⟨rfl,b2⟩;go_wp2_with fail;go_ret;exact⟨by rw[Hf.out];rfl,Qa (bal b1 _) b2⟩
 |false=>
  by_cases hI:qcp l=true∧qe4 l=false
  case neg=>
   have ho:qcp l=false∨qe4 l=true:=by
    cases h1:qcp l with
    |false=>exact .inl rfl
    |true=>
     cases h2:qe4 l with
     |true=>exact .inr rfl
     |false=>exact absurd ⟨h1,h2⟩ hI
   have Hf:=zhi (qqc hP ho);have Hv:=zhi (qh6 hP ho);clear hP ho hI;go_enter Tryz.func148,Tryz.ntmps148;go_wp2_with fail;refine(qdo A l c _ h hm).mono ?_;rw[Hv.out];rintro e w1 ⟨rfl,b1⟩;go_wp2_with fail;go_ret;exact⟨by rw[Hf.out];rfl,bal b1 _⟩
  obtain⟨hi,hn⟩:=hI;have Hf:=zhi (qme hP hi hn);have Hv:Hid (qkn l=.tuple #[rv (qm1 l),.bool true]):=by simp[Hid,qkn,hP,hi,hn]
  have hs:=qe5 hi;have hok:=qyg hs hn;have ea:Hid (qhv l false false=rv (ua l)):=qbh hs false false;have eh:Hid (qhv l true true=rv (uh l)):=qbh hs true true;have ra:RIn (ua l):=Vd hs false false;have rh:Hid (RIn (uh l)):=Vd hs true true;have rf:RIn (qm1 l):=hok.facIn;have rm:RIn (qm1 l*ua l):=hok.mulIn;have rs:Hid (RIn (qm1 l*ua l+uh l)):=hok.sumIn;have HP:=zhi hP;clear hP hi hn hs hok;generalize qm1 l=f at*;generalize ua l=a at*;generalize uh l=u at*;obtain⟨a0,a1,a2,a3⟩:=qcb ra;obtain⟨f0,f1,f2,f3⟩:=qcb rf;obtain⟨p0,p1,p2,p3⟩:=qcb rm;have m1:=qbp f0 f1 a0 a1 (by omega);have m2:=qbp (show 0≤(f.den:Int) by omega) f3 (show 0≤(a.den:Int) by omega) a3 (by omega);have m4:1≤(f.den:Int)*(a.den:Int):=by have:=Int.mul_pos (show(0:Int)<f.den by omega) (show(0:Int)<a.den by omega);omega
  obtain⟨hh,hh0,hhp,hhle,hhn,hhd⟩:=qtj m1.1 m4;rw[q6c] at hhn hhd;have G:=fun(w:World)=>qnm ((f.den:Int)*(a.den:Int)) (f.num*a.num) w m2.1 m1.1 (Int.le_trans m2.2 (by decide)) (Int.le_trans m1.2 (by decide))
  rw[←hh0] at G;obtain⟨q,hq⟩: ∃q,f*a=q:=⟨_,rfl⟩;rw[hq] at hhn hhd rm rs Hf p0 p1 p2 p3;have W7:Hid (IntKind.i64.wrap ((f.num*a.num).tdiv (hh:Int))=q.num):=by rw[Hid,hhn];exact Yai _ (by omega)
  have W8:Hid (IntKind.i64.wrap (((f.den:Int)*(a.den:Int)).tdiv (hh:Int))=(q.den:Int)):=by rw[Hid,hhd];exact Yai _ (by omega)
  have hhz:((hh:Int)==0)=false:=beq_eq_false_iff_ne.2 (by omega);have hhz2: ¬hh=0:=by omega
  have HG:=zhi G;have Rm:=zhi rm;obtain⟨m10,m11⟩:=m1;obtain⟨m20,m21⟩:=m2;clear hq hhn hhd hh0 G rm ra rf;go_enter Tryz.func148,Tryz.ntmps148;go_wp2_with fail;refine(qdo A l c _ h hm).mono ?_;rw[Hv.out];rintro e w1 ⟨rfl,b1⟩;go_wp2_with fail;have B1:=bal b1 (.cells #[.int .i64 f.num,.int .i64 (f.den:Int)] 54 (0,0));refine(qfs A l c _ (h.keep B1) hm).mono ?_;rw[HP.out];rintro e w2 ⟨rfl,b2⟩;have B2:=Qa B1 b2;have hz2:=b2.size;simp only[Yah] at hz2;have K1:=zhi ((b2.block w1.heap.size (by simp)).trans (zha w1 _));go_wp2_with fail;refine(qbt A l c false _ (h.keep B2) hm).mono ?_;rw[ea.out];rintro e w3 ⟨rfl,b3⟩;have B3:=Qa B2 b3;have hz3:=b3.size;have k1:=(b3.block w1.heap.size (by omega)).trans K1.out;obtain⟨x0,x1,xf⟩:=Qk k1;have hn3:w1.heap.size<w3.heap.size:=by omega
  have hn3':w1.heap.size≠w3.heap.size:=by omega
  clear k1;go_wp2_with fail;refine(HG.out _).mono ?_;rintro e w4 ⟨rfl,b4⟩;have B4:=Qa (bal B3 _) b4;clear x0 x1 xf K1;go_wp2_with fail;have x7:=W7.out;have x8:=W8.out
  go_region_with (first
    |(go_at_call 112;refine(qb8 q (World.drew (World.alloc _ _)) Rm.out).mono ?_;rintro e w5 ⟨rfl,b5⟩;have HN:=zhi ((b5.block w4.heap.size (by show w4.heap.size<(World.alloc w4 _).heap.size;rw[Yah];exact Ybe _)).trans (zha w4 _));have hn5:w4.heap.size<w5.heap.size:=zlt (by show w4.heap.size<(World.alloc w4 _).heap.size;rw[Yah];exact Ybe _) b5.size;have B5:Below w4.heap.size w4 w5:=Qa (zdr (bal br _)) b5;obtain⟨y0,y1,yf⟩:=Qk HN.out)
    |(go_at_call 112;refine(qb8 q _ Rm.out).mono ?_;rintro e w5 ⟨rfl,b5⟩;have B5:Below w4.heap.size w4 w5:=Qa (zdr br) b5))
  all_goals clear x7 x8
  ·have hS:=bal B5 (.cells #[.int .i64 q.num,.int .i64 (q.den:Int)] 54 (0,0));have hN:=zha w5 (.cells #[.int .i64 q.num,.int .i64 (q.den:Int)] 54 (0,0));obtain⟨nb,hnb⟩: ∃n,w5.heap.size=n:=⟨_,rfl⟩;have hnx:w5.heap.size<(w5.alloc (.cells #[.int .i64 q.num,.int .i64 (q.den:Int)] 54 (0,0))).heap.size:=by simp
   generalize hw:World.alloc w5 _=wy at hN hS hnx⊢;rw[hnb] at hN hnx⊢;clear hw hnb;have By:=Qa B4 hS;clear hS;have HN2:=zhi hN;have Hnx:=zhi hnx;clear hN
   have S_of: ∀w':World,Below wy.heap.size wy w'→w'.cell? ⟨nb,0,none⟩=some (.int .i64 q.num)∧w'.cell? ⟨nb,1,none⟩=some (.int .i64 (q.den:Int))∧Below wy.heap.size wy w':=fun w' hw=>by
    obtain⟨h0,h1,_⟩:=Qk ((hw.block _ Hnx.out).trans HN2.out);exact⟨h0,h1,hw⟩
   clear hnx;go_wp2_with fail
   go_region_held3 (fun w'=>w'.cell? ⟨nb,0,none⟩=some (.int .i64 q.num)∧w'.cell? ⟨nb,1,none⟩=some (.int .i64 (q.den:Int))∧Below wy.heap.size wy w')
    ((refine S_of _ ?_;first|assumption|exact zdr br|exact zdr (bal br _)|exact(by assumption:_∧_∧Below wy.heap.size wy _).2.2|(refine bal ?_ _;first|assumption|exact(by assumption:_∧_∧Below wy.heap.size wy _).2.2)|(refine bst (bst ?_ (p:=⟨_,0,none⟩) ?_ _) (p:=⟨_,1,none⟩) ?_ _<;>first|assumption|exact(by assumption:_∧_∧Below wy.heap.size wy _).2.2|exact zlr _|exact B6.size|exact B7.size)))
    (first
     |(go_at_call 151;refine(qb4 A l c (World.drew (World.alloc _ _)) (h.keep (Qa By (by first|assumption|exact(by assumption:_∧_∧Below wy.heap.size wy _).2.2))) hm).mono ?_;rw[eh.out];rintro e w6 ⟨rfl,b6⟩;have HN6:=zhi ((b6.block wy.heap.size (by show wy.heap.size<(World.alloc wy _).heap.size;rw[Yah];exact Ybe _)).trans (zha wy _));have hn6:wy.heap.size<w6.heap.size:=zlt (by show wy.heap.size<(World.alloc wy _).heap.size;rw[Yah];exact Ybe _) b6.size;have B6:Below wy.heap.size wy w6:=Qa (by first|assumption|exact(by assumption:_∧_∧Below wy.heap.size wy _).2.2) b6)
     |(go_at_call 151;refine(qb4 A l c _ (h.keep (Qa By (by first|assumption|exact(by assumption:_∧_∧Below wy.heap.size wy _).2.2))) hm).mono ?_;rw[eh.out];rintro e w6 ⟨rfl,b6⟩;have B6:Below wy.heap.size wy w6:=Qa (by first|assumption|exact(by assumption:_∧_∧Below wy.heap.size wy _).2.2) b6)
     |(go_at_call 109;refine(qb3 q u (World.alloc _ _) Rm.out rh.out rs.out).mono ?_;rintro e w7 ⟨rfl,b7⟩;have qb:=(b7.block w6.heap.size (by rw[Yah];exact Ybe _)).trans (zha w6 _);have B7:Below wy.heap.size wy w7:=Qa (by first|assumption|exact(by assumption:_∧_∧Below wy.heap.size wy _).2.2) b7;have HQ:=zhi qb;obtain⟨y0,y1,yf⟩:=Qk qb;clear qb)
     |(go_at_call 109;refine(qb3 q u _ Rm.out rh.out rs.out).mono ?_;rintro e w7 ⟨rfl,b7⟩;have q6:=hn6;have qN:=HN6.out;have qb:=(b7.block wy.heap.size q6).trans qN;have B7:Below wy.heap.size wy w7:=Qa (by first|assumption|exact(by assumption:_∧_∧Below wy.heap.size wy _).2.2) b7;have HQ:=zhi qb;obtain⟨y0,y1,yf⟩:=Qk qb;clear qb qN)
     |(go_at_call 109;refine(qb3 q u _ Rm.out rh.out rs.out).mono ?_;rintro e w7 ⟨rfl,b7⟩;have B7:Below wy.heap.size wy w7:=Qa (by first|assumption|exact(by assumption:_∧_∧Below wy.heap.size wy _).2.2) b7))
   all_goals(rename_i hS;replace hS:=hS.2.2)
   ·have hN:=zha w7 (.cells #[.int .i64 (q+u).num,.int .i64 ((q+u).den:Int)] 54 (0,0));obtain⟨nz,hnb⟩: ∃n,w7.heap.size=n:=⟨_,rfl⟩;have hnz:w7.heap.size<(w7.alloc (.cells #[.int .i64 (q+u).num,.int .i64 ((q+u).den:Int)] 54 (0,0))).heap.size:=by simp
    generalize hw:World.alloc w7 _=wz at hN hS hnz⊢;rw[hnb] at hN hnz⊢;clear hw hnb;have Bz:=Qa By hS;clear hS;generalize q+u=r at*;have HN3:=zhi hN;have Hnz:=zhi hnz;clear hN
    have S_of: ∀w':World,Below wz.heap.size wz w'→w'.cell? ⟨nz,0,none⟩=some (.int .i64 r.num)∧w'.cell? ⟨nz,1,none⟩=some (.int .i64 (r.den:Int))∧Below wz.heap.size wz w':=fun w' hw=>by
     obtain⟨h0,h1,_⟩:=Qk ((hw.block _ Hnz.out).trans HN3.out);exact⟨h0,h1,hw⟩
    clear hnz;have hq:=zhi (qh8 r);have hcb:=qjv r;go_wp2_with fail
    go_region_held3 (fun w'=>w'.cell? ⟨nz,0,none⟩=some (.int .i64 r.num)∧w'.cell? ⟨nz,1,none⟩=some (.int .i64 (r.den:Int))∧Below wz.heap.size wz w')
     ((refine S_of _ ?_;first|assumption|exact zdr br|exact(by assumption:_∧_∧Below wz.heap.size wz _).2.2))
     (first
      |(go_at_call 66;refine(qa6 _).mono ?_;rintro e w8 ⟨rfl,b8⟩;have B8:Below wz.heap.size wz w8:=Qa (by first|assumption|exact(by assumption:_∧_∧Below wz.heap.size wz _).2.2) b8)
      |(go_at_call 110;refine(qcs r _ rs.out).mono ?_;rintro e w9 ⟨rfl,b9⟩;have B9:Below wz.heap.size wz w9:=Qa (by first|assumption|exact(by assumption:_∧_∧Below wz.heap.size wz _).2.2) b9))
    all_goals go_wp2_with fail
    all_goals go_ret
    all_goals exact⟨by rw[Hf.out,←hq.out];rfl,Qa Bz (by first|assumption|exact(by assumption:_∧_∧Below wz.heap.size wz _).2.2)⟩
   ·have hN:=qcz HQ.out (.int .i64 (q+u).num) (.int .i64 ((q+u).den:Int))
    have hnz:w6.heap.size<(World.setCell (World.setCell w7 ⟨w6.heap.size,0,none⟩ (.int .i64 (q+u).num)) ⟨w6.heap.size,1,none⟩ (.int .i64 ((q+u).den:Int))).heap.size:=by
     have h1:w6.heap.size<w7.heap.size:=zlt (by rw[Yah];exact Ybe _) b7.size;simpa [World.setCell] using h1
    generalize hw:(World.setCell (World.setCell w7 ⟨w6.heap.size,0,none⟩ _) ⟨w6.heap.size,1,none⟩ _)=wz at hN hS hnz⊢;clear hw;obtain⟨nz,hnb⟩: ∃n,w6.heap.size=n:=⟨_,rfl⟩;rw[hnb] at hN hnz⊢;clear hnb;have Bz:=Qa By hS;clear hS;generalize q+u=r at*;have HN3:=zhi hN;have Hnz:=zhi hnz;clear hN
    have S_of: ∀w':World,Below wz.heap.size wz w'→w'.cell? ⟨nz,0,none⟩=some (.int .i64 r.num)∧w'.cell? ⟨nz,1,none⟩=some (.int .i64 (r.den:Int))∧Below wz.heap.size wz w':=fun w' hw=>by
     obtain⟨h0,h1,_⟩:=Qk ((hw.block _ Hnz.out).trans HN3.out);exact⟨h0,h1,hw⟩
    clear hnz;have hq:=zhi (qh8 r);have hcb:=qjv r;go_wp2_with fail
    go_region_held3 (fun w'=>w'.cell? ⟨nz,0,none⟩=some (.int .i64 r.num)∧w'.cell? ⟨nz,1,none⟩=some (.int .i64 (r.den:Int))∧Below wz.heap.size wz w')
     ((refine S_of _ ?_;first|assumption|exact zdr br|exact(by assumption:_∧_∧Below wz.heap.size wz _).2.2))
     (first
      |(go_at_call 66;refine(qa6 _).mono ?_;rintro e w8 ⟨rfl,b8⟩;have B8:Below wz.heap.size wz w8:=Qa (by first|assumption|exact(by assumption:_∧_∧Below wz.heap.size wz _).2.2) b8)
      |(go_at_call 110;refine(qcs r _ rs.out).mono ?_;rintro e w9 ⟨rfl,b9⟩;have B9:Below wz.heap.size wz w9:=Qa (by first|assumption|exact(by assumption:_∧_∧Below wz.heap.size wz _).2.2) b9))
    all_goals go_wp2_with fail
    all_goals go_ret
    all_goals exact⟨by rw[Hf.out,←hq.out];rfl,Qa Bz (by first|assumption|exact(by assumption:_∧_∧Below wz.heap.size wz _).2.2)⟩
   ·have hN:=qcz HQ.out (.int .i64 (q+u).num) (.int .i64 ((q+u).den:Int))
    have hnz:wy.heap.size<(World.setCell (World.setCell w7 ⟨wy.heap.size,0,none⟩ (.int .i64 (q+u).num)) ⟨wy.heap.size,1,none⟩ (.int .i64 ((q+u).den:Int))).heap.size:=by
     have h1:wy.heap.size<w7.heap.size:=zlt hn6 b7.size;simpa [World.setCell] using h1
    generalize hw:(World.setCell (World.setCell w7 ⟨wy.heap.size,0,none⟩ _) ⟨wy.heap.size,1,none⟩ _)=wz at hN hS hnz⊢;clear hw;obtain⟨nz,hnb⟩: ∃n,wy.heap.size=n:=⟨_,rfl⟩;rw[hnb] at hN hnz⊢;clear hnb;have Bz:=Qa By hS;clear hS;generalize q+u=r at*;have HN3:=zhi hN;have Hnz:=zhi hnz;clear hN
    have S_of: ∀w':World,Below wz.heap.size wz w'→w'.cell? ⟨nz,0,none⟩=some (.int .i64 r.num)∧w'.cell? ⟨nz,1,none⟩=some (.int .i64 (r.den:Int))∧Below wz.heap.size wz w':=fun w' hw=>by
     obtain⟨h0,h1,_⟩:=Qk ((hw.block _ Hnz.out).trans HN3.out);exact⟨h0,h1,hw⟩
    clear hnz;have hq:=zhi (qh8 r);have hcb:=qjv r;go_wp2_with fail
    go_region_held3 (fun w'=>w'.cell? ⟨nz,0,none⟩=some (.int .i64 r.num)∧w'.cell? ⟨nz,1,none⟩=some (.int .i64 (r.den:Int))∧Below wz.heap.size wz w')
     ((refine S_of _ ?_;first|assumption|exact zdr br|exact(by assumption:_∧_∧Below wz.heap.size wz _).2.2))
     (first
      |(go_at_call 66;refine(qa6 _).mono ?_;rintro e w8 ⟨rfl,b8⟩;have B8:Below wz.heap.size wz w8:=Qa (by first|assumption|exact(by assumption:_∧_∧Below wz.heap.size wz _).2.2) b8)
      |(go_at_call 110;refine(qcs r _ rs.out).mono ?_;rintro e w9 ⟨rfl,b9⟩;have B9:Below wz.heap.size wz w9:=Qa (by first|assumption|exact(by assumption:_∧_∧Below wz.heap.size wz _).2.2) b9))
    all_goals go_wp2_with fail
    all_goals go_ret
    all_goals exact⟨by rw[Hf.out,←hq.out];rfl,Qa Bz (by first|assumption|exact(by assumption:_∧_∧Below wz.heap.size wz _).2.2)⟩
  ·have hS:=bst (bst B5 (p:=⟨w4.heap.size,0,none⟩) (zlr _) (.int .i64 q.num)) (p:=⟨w4.heap.size,1,none⟩) (zlr _) (.int .i64 (q.den:Int));have hN:=qcz HN.out (.int .i64 q.num) (.int .i64 (q.den:Int));obtain⟨nb,hnb⟩: ∃n,w4.heap.size=n:=⟨_,rfl⟩;have hnx:w4.heap.size<(World.setCell (World.setCell w5 ⟨w4.heap.size,0,none⟩ (.int .i64 q.num)) ⟨w4.heap.size,1,none⟩ (.int .i64 (q.den:Int))).heap.size:=by simpa [World.setCell] using hn5
   generalize hw:(World.setCell (World.setCell w5 ⟨w4.heap.size,0,none⟩ _) ⟨w4.heap.size,1,none⟩ _)=wy at hN hS hnx⊢;clear hw hnb nb;obtain⟨nb,hnb⟩: ∃n,w4.heap.size=n:=⟨_,rfl⟩;rw[hnb] at hN hnx⊢;clear hnb;have By:=Qa B4 hS;clear hS;have HN2:=zhi hN;have Hnx:=zhi hnx;clear hN
   have S_of: ∀w':World,Below wy.heap.size wy w'→w'.cell? ⟨nb,0,none⟩=some (.int .i64 q.num)∧w'.cell? ⟨nb,1,none⟩=some (.int .i64 (q.den:Int))∧Below wy.heap.size wy w':=fun w' hw=>by
    obtain⟨h0,h1,_⟩:=Qk ((hw.block _ Hnx.out).trans HN2.out);exact⟨h0,h1,hw⟩
   clear hnx;go_wp2_with fail
   go_region_held3 (fun w'=>w'.cell? ⟨nb,0,none⟩=some (.int .i64 q.num)∧w'.cell? ⟨nb,1,none⟩=some (.int .i64 (q.den:Int))∧Below wy.heap.size wy w')
    ((refine S_of _ ?_;first|assumption|exact zdr br|exact zdr (bal br _)|exact(by assumption:_∧_∧Below wy.heap.size wy _).2.2|(refine bal ?_ _;first|assumption|exact(by assumption:_∧_∧Below wy.heap.size wy _).2.2)|(refine bst (bst ?_ (p:=⟨_,0,none⟩) ?_ _) (p:=⟨_,1,none⟩) ?_ _<;>first|assumption|exact(by assumption:_∧_∧Below wy.heap.size wy _).2.2|exact zlr _|exact B6.size|exact B7.size)))
    (first
     |(go_at_call 151;refine(qb4 A l c (World.drew (World.alloc _ _)) (h.keep (Qa By (by first|assumption|exact(by assumption:_∧_∧Below wy.heap.size wy _).2.2))) hm).mono ?_;rw[eh.out];rintro e w6 ⟨rfl,b6⟩;have HN6:=zhi ((b6.block wy.heap.size (by show wy.heap.size<(World.alloc wy _).heap.size;rw[Yah];exact Ybe _)).trans (zha wy _));have hn6:wy.heap.size<w6.heap.size:=zlt (by show wy.heap.size<(World.alloc wy _).heap.size;rw[Yah];exact Ybe _) b6.size;have B6:Below wy.heap.size wy w6:=Qa (by first|assumption|exact(by assumption:_∧_∧Below wy.heap.size wy _).2.2) b6)
     |(go_at_call 151;refine(qb4 A l c _ (h.keep (Qa By (by first|assumption|exact(by assumption:_∧_∧Below wy.heap.size wy _).2.2))) hm).mono ?_;rw[eh.out];rintro e w6 ⟨rfl,b6⟩;have B6:Below wy.heap.size wy w6:=Qa (by first|assumption|exact(by assumption:_∧_∧Below wy.heap.size wy _).2.2) b6)
     |(go_at_call 109;refine(qb3 q u (World.alloc _ _) Rm.out rh.out rs.out).mono ?_;rintro e w7 ⟨rfl,b7⟩;have qb:=(b7.block w6.heap.size (by rw[Yah];exact Ybe _)).trans (zha w6 _);have B7:Below wy.heap.size wy w7:=Qa (by first|assumption|exact(by assumption:_∧_∧Below wy.heap.size wy _).2.2) b7;have HQ:=zhi qb;obtain⟨y0,y1,yf⟩:=Qk qb;clear qb)
     |(go_at_call 109;refine(qb3 q u _ Rm.out rh.out rs.out).mono ?_;rintro e w7 ⟨rfl,b7⟩;have q6:=hn6;have qN:=HN6.out;have qb:=(b7.block wy.heap.size q6).trans qN;have B7:Below wy.heap.size wy w7:=Qa (by first|assumption|exact(by assumption:_∧_∧Below wy.heap.size wy _).2.2) b7;have HQ:=zhi qb;obtain⟨y0,y1,yf⟩:=Qk qb;clear qb qN)
     |(go_at_call 109;refine(qb3 q u _ Rm.out rh.out rs.out).mono ?_;rintro e w7 ⟨rfl,b7⟩;have B7:Below wy.heap.size wy w7:=Qa (by first|assumption|exact(by assumption:_∧_∧Below wy.heap.size wy _).2.2) b7))
   all_goals(rename_i hS;replace hS:=hS.2.2)
   ·have hN:=zha w7 (.cells #[.int .i64 (q+u).num,.int .i64 ((q+u).den:Int)] 54 (0,0));obtain⟨nz,hnb⟩: ∃n,w7.heap.size=n:=⟨_,rfl⟩;have hnz:w7.heap.size<(w7.alloc (.cells #[.int .i64 (q+u).num,.int .i64 ((q+u).den:Int)] 54 (0,0))).heap.size:=by simp
    generalize hw:World.alloc w7 _=wz at hN hS hnz⊢;rw[hnb] at hN hnz⊢;clear hw hnb;have Bz:=Qa By hS;clear hS;generalize q+u=r at*;have HN3:=zhi hN;have Hnz:=zhi hnz;clear hN
    have S_of: ∀w':World,Below wz.heap.size wz w'→w'.cell? ⟨nz,0,none⟩=some (.int .i64 r.num)∧w'.cell? ⟨nz,1,none⟩=some (.int .i64 (r.den:Int))∧Below wz.heap.size wz w':=fun w' hw=>by
     obtain⟨h0,h1,_⟩:=Qk ((hw.block _ Hnz.out).trans HN3.out);exact⟨h0,h1,hw⟩
    clear hnz;have hq:=zhi (qh8 r);have hcb:=qjv r;go_wp2_with fail
    go_region_held3 (fun w'=>w'.cell? ⟨nz,0,none⟩=some (.int .i64 r.num)∧w'.cell? ⟨nz,1,none⟩=some (.int .i64 (r.den:Int))∧Below wz.heap.size wz w')
     ((refine S_of _ ?_;first|assumption|exact zdr br|exact(by assumption:_∧_∧Below wz.heap.size wz _).2.2))
     (first
      |(go_at_call 66;refine(qa6 _).mono ?_;rintro e w8 ⟨rfl,b8⟩;have B8:Below wz.heap.size wz w8:=Qa (by first|assumption|exact(by assumption:_∧_∧Below wz.heap.size wz _).2.2) b8)
      |(go_at_call 110;refine(qcs r _ rs.out).mono ?_;rintro e w9 ⟨rfl,b9⟩;have B9:Below wz.heap.size wz w9:=Qa (by first|assumption|exact(by assumption:_∧_∧Below wz.heap.size wz _).2.2) b9))
    all_goals go_wp2_with fail
    all_goals go_ret
    all_goals exact⟨by rw[Hf.out,←hq.out];rfl,Qa Bz (by first|assumption|exact(by assumption:_∧_∧Below wz.heap.size wz _).2.2)⟩
   ·have hN:=qcz HQ.out (.int .i64 (q+u).num) (.int .i64 ((q+u).den:Int))
    have hnz:w6.heap.size<(World.setCell (World.setCell w7 ⟨w6.heap.size,0,none⟩ (.int .i64 (q+u).num)) ⟨w6.heap.size,1,none⟩ (.int .i64 ((q+u).den:Int))).heap.size:=by
     have h1:w6.heap.size<w7.heap.size:=zlt (by rw[Yah];exact Ybe _) b7.size;simpa [World.setCell] using h1
    generalize hw:(World.setCell (World.setCell w7 ⟨w6.heap.size,0,none⟩ _) ⟨w6.heap.size,1,none⟩ _)=wz at hN hS hnz⊢;clear hw;obtain⟨nz,hnb⟩: ∃n,w6.heap.size=n:=⟨_,rfl⟩;rw[hnb] at hN hnz⊢;clear hnb;have Bz:=Qa By hS;clear hS;generalize q+u=r at*;have HN3:=zhi hN;have Hnz:=zhi hnz;clear hN
    have S_of: ∀w':World,Below wz.heap.size wz w'→w'.cell? ⟨nz,0,none⟩=some (.int .i64 r.num)∧w'.cell? ⟨nz,1,none⟩=some (.int .i64 (r.den:Int))∧Below wz.heap.size wz w':=fun w' hw=>by
     obtain⟨h0,h1,_⟩:=Qk ((hw.block _ Hnz.out).trans HN3.out);exact⟨h0,h1,hw⟩
    clear hnz;have hq:=zhi (qh8 r);have hcb:=qjv r;go_wp2_with fail
    go_region_held3 (fun w'=>w'.cell? ⟨nz,0,none⟩=some (.int .i64 r.num)∧w'.cell? ⟨nz,1,none⟩=some (.int .i64 (r.den:Int))∧Below wz.heap.size wz w')
     ((refine S_of _ ?_;first|assumption|exact zdr br|exact(by assumption:_∧_∧Below wz.heap.size wz _).2.2))
     (first
      |(go_at_call 66;refine(qa6 _).mono ?_;rintro e w8 ⟨rfl,b8⟩;have B8:Below wz.heap.size wz w8:=Qa (by first|assumption|exact(by assumption:_∧_∧Below wz.heap.size wz _).2.2) b8)
      |(go_at_call 110;refine(qcs r _ rs.out).mono ?_;rintro e w9 ⟨rfl,b9⟩;have B9:Below wz.heap.size wz w9:=Qa (by first|assumption|exact(by assumption:_∧_∧Below wz.heap.size wz _).2.2) b9))
    all_goals go_wp2_with fail
    all_goals go_ret
    all_goals exact⟨by rw[Hf.out,←hq.out];rfl,Qa Bz (by first|assumption|exact(by assumption:_∧_∧Below wz.heap.size wz _).2.2)⟩
   ·have hN:=qcz HQ.out (.int .i64 (q+u).num) (.int .i64 ((q+u).den:Int))
    have hnz:wy.heap.size<(World.setCell (World.setCell w7 ⟨wy.heap.size,0,none⟩ (.int .i64 (q+u).num)) ⟨wy.heap.size,1,none⟩ (.int .i64 ((q+u).den:Int))).heap.size:=by
     have h1:wy.heap.size<w7.heap.size:=zlt hn6 b7.size;simpa [World.setCell] using h1
    generalize hw:(World.setCell (World.setCell w7 ⟨wy.heap.size,0,none⟩ _) ⟨wy.heap.size,1,none⟩ _)=wz at hN hS hnz⊢;clear hw;obtain⟨nz,hnb⟩: ∃n,wy.heap.size=n:=⟨_,rfl⟩;rw[hnb] at hN hnz⊢;clear hnb;have Bz:=Qa By hS;clear hS;generalize q+u=r at*;have HN3:=zhi hN;have Hnz:=zhi hnz;clear hN
    have S_of: ∀w':World,Below wz.heap.size wz w'→w'.cell? ⟨nz,0,none⟩=some (.int .i64 r.num)∧w'.cell? ⟨nz,1,none⟩=some (.int .i64 (r.den:Int))∧Below wz.heap.size wz w':=fun w' hw=>by
     obtain⟨h0,h1,_⟩:=Qk ((hw.block _ Hnz.out).trans HN3.out);exact⟨h0,h1,hw⟩
    clear hnz;have hq:=zhi (qh8 r);have hcb:=qjv r;go_wp2_with fail
    go_region_held3 (fun w'=>w'.cell? ⟨nz,0,none⟩=some (.int .i64 r.num)∧w'.cell? ⟨nz,1,none⟩=some (.int .i64 (r.den:Int))∧Below wz.heap.size wz w')
     ((refine S_of _ ?_;first|assumption|exact zdr br|exact(by assumption:_∧_∧Below wz.heap.size wz _).2.2))
     (first
      |(go_at_call 66;refine(qa6 _).mono ?_;rintro e w8 ⟨rfl,b8⟩;have B8:Below wz.heap.size wz w8:=Qa (by first|assumption|exact(by assumption:_∧_∧Below wz.heap.size wz _).2.2) b8)
      |(go_at_call 110;refine(qcs r _ rs.out).mono ?_;rintro e w9 ⟨rfl,b9⟩;have B9:Below wz.heap.size wz w9:=Qa (by first|assumption|exact(by assumption:_∧_∧Below wz.heap.size wz _).2.2) b9))
    all_goals go_wp2_with fail
    all_goals go_ret
    all_goals exact⟨by rw[Hf.out,←hq.out];rfl,Qa Bz (by first|assumption|exact(by assumption:_∧_∧Below wz.heap.size wz _).2.2)⟩
end Go.Proofs.YtmkjmancmiphfaaGreatDoor

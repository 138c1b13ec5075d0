/-
  The walks of HoldsPlain, FactorOf, HoldsVirtual, HoldsBy: the program's.
-/
import Derived.Test.YtmkjmancmiphfaaGreatDoorRc07
namespace Go.Proofs.YtmkjmancmiphfaaGreatDoor
set_option maxHeartbeats 8000000
set_option maxRecDepth 1000000
open Go.RowKit
theorem qbh{l:List Tk}(h:Qe l=true)(crit high:Bool):qhv l crit high=rv (Qu crit high l):=by simp[qhv,h]
theorem Vd{l:List Tk}(h:Qe l=true)(crit high:Bool):RIn (Qu crit high l):=by
 obtain⟨hl5,hall⟩:=Qj h;have:=ql9 hall hl5 crit high;exact⟨this.1,by omega,by omega⟩
def qkn(l:List Tk):Value:=if Vj l then .tuple #[sv 1 1,.bool true] else if qcp l&& !qe4 l then .tuple #[rv (qm1 l),.bool true] else .tuple #[sv 0 0,.bool false]
theorem qfo(A:ZA)(l:List Tk)(c:Nat)(w:World)(h:TS w A l)(hm:l.length≤maxLen):
  Calls Tryz.prog 61 #[.slice A l.length c] w fun e w'=>e=.returned (.bool (Vj l))∧Below w.heap.size w w':=by
 cases hI:qcp l with
 |false=>
  have Hf:Hid (Vj l=false):=by simp[Hid,Vj,hI]
  go_enter Tryz.func61,Tryz.ntmps61;go_wp2_with fail;refine(qe3 A l c _ h hm).mono ?_;rw[hI];rintro e w1 ⟨rfl,b1⟩;go_wp2_with fail;go_ret;exact⟨by rw[Hf.out];rfl,b1⟩
 |true=>
  have Hf:Hid (Vj l=qjq (ua l+uh l)):=by simp[Hid,Vj,hI]
  have hs:=qe5 hI;have ea:Hid (qhv l false false=rv (ua l)):=qbh hs false false;have eh:Hid (qhv l true true=rv (uh l)):=qbh hs true true;have ra:=Vd hs false false;have rh:=Vd hs true true;clear hs;change RIn (ua l) at ra;change RIn (uh l) at rh;go_enter Tryz.func61,Tryz.ntmps61;go_wp2_with fail;refine(qe3 A l c _ h hm).mono ?_;rw[hI];rintro e w1 ⟨rfl,b1⟩;go_wp2_with fail;refine(qcj A l c false _ (h.keep b1)).mono ?_;rw[ea.out];rintro e w2 ⟨rfl,b2⟩;have B2:=Qa b1 b2;go_wp2_with fail;refine(qgi A l c _ (h.keep B2)).mono ?_;rw[eh.out];rintro e w3 ⟨rfl,b3⟩;have B3:=Qa B2 b3;go_wp2_with fail;refine(qnf (ua l) (uh l) _ ra rh).mono ?_;rintro e w4 ⟨rfl,b4⟩;have B4:=Qa B3 b4;go_wp2_with fail;refine(qng (ua l+uh l) _).mono ?_;rintro e w5 ⟨rfl,b5⟩;go_wp2_with fail;go_ret;exact⟨by rw[Hf.out];rfl,Qa B4 b5⟩
theorem q0c(w:World)(A B:Obj):((w.alloc A).alloc B).heap[w.heap.size]? =some A∧((w.alloc A).alloc B).heap[w.heap.size+1]? =some B:=by
 refine⟨?_,?_⟩
 ·show((w.heap.push A).push B)[_]? =_;rw[Ycd,Yaq (by simp),Ycd,Yav rfl]
 ·show((w.heap.push A).push B)[_]? =_;rw[Ycd,Yav (by simp)]
theorem qh6{l:List Tk}(hp:Vj l=false)(h:qcp l=false∨qe4 l=true):qkn l=.tuple #[sv 0 0,.bool false]:=by
 unfold qkn;rw[hp];rcases h with h|h<;>simp[h]
theorem qxa{l:List Tk}(h:qcp l=false):Vj l=false:=by simp[Vj,h]
theorem q0d{l:List Tk}(h:qjq (ua l+ub l)=false):qe4 l=true:=by simp[qe4,h]
theorem q0e{l:List Tk}(h:((ua l).num==((ua l).den:Int))=true):qe4 l=true:=by simp[qe4,h]
theorem qbs(A:ZA)(l:List Tk)(c:Nat)(w:World)(h:TS w A l)(hm:l.length≤maxLen):
  Calls Tryz.prog 28 #[.slice A l.length c] w fun e w'=>e=.returned (qkn l)∧Below w.heap.size w w':=by
 cases hI:qcp l with
 |false=>
  have Hf:=zhi (qh6 (qxa hI) (.inl hI));go_enter Tryz.func28,Tryz.ntmps28;go_wp2_with fail;refine(qe3 A l c _ (h.keep (bal br _)) hm).mono ?_;rw[hI];rintro e w1 ⟨rfl,b1⟩;have hB:=(b1.block w.heap.size (by simp)).trans (zha w _);obtain⟨x0,x1,xf⟩:=Qk hB;clear hB;go_wp2_with fail;refine bodyPost_ret (v:=.tuple #[sv 0 0,.bool false]) (by simp[results,Tryz.results28,go_sem,x0,x1]) rfl ⟨by rw[Hf.out],?_⟩;exact bst (bst (Qa (bal br _) b1) (p:=⟨w.heap.size,0,none⟩) (zlr _) _) (p:=⟨w.heap.size,1,none⟩) (zlr _) _
 |true=>
  have hs:=qe5 hI;have ea:Hid (qhv l false false=rv (ua l)):=qbh hs false false;have eb:Hid (qhv l true false=rv (ub l)):=qbh hs true false;have ra:=Vd hs false false;have rb:=Vd hs true false;change RIn (ua l) at ra;change RIn (ub l) at rb;have HS:=zhi hs;clear hs;go_enter Tryz.func28,Tryz.ntmps28;go_wp2_with fail;refine(qe3 A l c _ (h.keep (bal br _)) hm).mono ?_;rw[hI];rintro e w1 ⟨rfl,b1⟩;have B1:=Qa (bal (Below.refl w.heap.size w) _) b1;go_wp2_with fail;refine(qfo A l c _ (h.keep B1) hm).mono ?_;cases hP:Vj l with
  |true=>
   have Hf:Hid (qkn l=.tuple #[sv 1 1,.bool true]):=by simp[Hid,qkn,hP]
   rintro e w2 ⟨rfl,b2⟩;have B2:=Qa B1 b2;have hB:=(Qa b1 b2).block w.heap.size (by simp);have hB:=hB.trans (zha w _);obtain⟨x0,x1,xf⟩:=Qk hB;clear hB;go_wp2_with fail;refine bodyPost_ret (v:=.tuple #[sv 1 1,.bool true]) (by simp[results,Tryz.results28,go_sem,x0,x1]) rfl ⟨by rw[Hf.out],?_⟩;exact bst (bst B2 (p:=⟨w.heap.size,0,none⟩) (zlr _) _) (p:=⟨w.heap.size,1,none⟩) (zlr _) _
  |false=>
   rintro e w2 ⟨rfl,b2⟩;have B2:=Qa B1 b2;have HB2:=zhi (((Qa b1 b2).block w.heap.size (by simp)).trans (zha w _));go_wp2_with fail;refine(qcj A l c false _ (h.keep B2)).mono ?_;rw[ea.out];rintro e w3 ⟨rfl,b3⟩;have B3:=Qa B2 b3;go_wp2_with fail;refine(qcj A l c true _ (h.keep B3)).mono ?_;rw[eb.out];rintro e w4 ⟨rfl,b4⟩;have B4:=Qa B3 b4;have hz:w.heap.size<w4.heap.size:=by have:=b1.size;have:=b2.size;have:=b3.size;have:=b4.size;simp only[Yah] at*;omega
   have HB4:=zhi (((Qa b3 b4).block w.heap.size (by have:=b1.size;have:=b2.size;simp only[Yah] at*;omega)).trans HB2.out);go_wp2_with fail;refine(qnf (ua l) (ub l) _ ra rb).mono ?_;rintro e w5 ⟨rfl,b5⟩;have B5:=Qa (bal (bal B4 _) _) b5;have hz5:=b5.size;simp only[Yah] at hz5;obtain⟨q0,q1⟩:=q0c w4 (.cells #[.int .i64 (ua l).num,.int .i64 ((ua l).den:Int)] 54) (.cells #[.int .i64 (ub l).num,.int .i64 ((ub l).den:Int)] 54);have q0:=zhi ((b5.block w4.heap.size (by simp;omega)).trans q0);have q1:=zhi ((b5.block (w4.heap.size+1) (by simp)).trans q1);have q2:=zhi ((b5.block w.heap.size (by simp;omega)).trans ((Yaj _ _ _ (by simp;omega)).trans ((Yaj _ _ _ hz).trans HB4.out)));go_wp2_with fail;refine(qng (ua l+ub l) _).mono ?_;rintro e w6 ⟨rfl,b6⟩;have B6:=Qa B5 b6;have hz6:=b6.size;have k2:=(b6.block w.heap.size (by omega)).trans q2.out;have k0:=(b6.block w4.heap.size (by omega)).trans q0.out;have k1:=(b6.block (w4.heap.size+1) (by omega)).trans q1.out;clear q0 q1 q2 HB2 HB4;obtain⟨z0,z1,zf⟩:=Qk k2;obtain⟨x0,x1,xf⟩:=Qk k0;obtain⟨y0,y1,yf⟩:=Qk k1;have K2:=zhi k2;have K0:=zhi k0;have K1:=zhi k1;clear k0 k1 k2;cases hfit:qjq (ua l+ub l) with
   |false=>
    have Hf:=zhi (qh6 hP (.inr (q0d hfit)));clear hfit;go_wp2_with fail;refine bodyPost_ret (v:=.tuple #[sv 0 0,.bool false]) (by simp[results,Tryz.results28,go_sem,z0,z1]) rfl ⟨by rw[Hf.out],?_⟩;exact bst (bst B6 (p:=⟨w.heap.size,0,none⟩) (zlr _) _) (p:=⟨w.heap.size,1,none⟩) (zlr _) _
   |true=>
    cases hne:((ua l).num==((ua l).den:Int)) with
    |true=>
     have Hf:=zhi (qh6 hP (.inr (q0e hne)));clear hfit;go_wp2_with fail;refine bodyPost_ret (v:=.tuple #[sv 0 0,.bool false]) (by simp[results,Tryz.results28,go_sem,z0,z1]) rfl ⟨by rw[Hf.out],?_⟩;exact bst (bst B6 (p:=⟨w.heap.size,0,none⟩) (zlr _) _) (p:=⟨w.heap.size,1,none⟩) (zlr _) _
    |false=>
     have hno:qe4 l=false:=by simp[qe4,hfit,hne]
     have hok:=qyg HS.out hno;have Hf:Hid (qkn l=.tuple #[rv (qm1 l),.bool true]):=by simp[Hid,qkn,hP,hI,hno]
     have hfr:Hid (qm1 l=mkRat ((ub l).num*(ua l).den) (((ub l).den:Int)*((ua l).den-(ua l).num)).toNat):=rfl;obtain⟨m1,m2,m3,m4,m5,m6,m7,m8,m9,m10,m11,m12⟩:=hok;obtain⟨ra1,ra2,ra3,ra4⟩:=qcb ra;obtain⟨rb1,rb2,rb3,rb4⟩:=qcb rb;clear hfit hno ra rb m10 m11 m12;go_wp2_with fail;refine(qe2 _ _ _ m6 m8 (by omega) (by omega)).mono ?_;rw[←hfr.out];rintro e w7 ⟨rfl,b7⟩;have B7:=Qa B6 b7;have k2:=(b7.block w.heap.size (by omega)).trans K2.out;clear z0 z1 zf x0 x1 xf y0 y1 yf;obtain⟨z0,z1,zf⟩:=Qk k2;clear k2;generalize qm1 l=f at*;go_wp2_with fail;refine bodyPost_ret (v:=.tuple #[rv f,.bool true]) (by simp[results,Tryz.results28,go_sem,z0,z1]) rfl ⟨by rw[Hf.out],?_⟩;exact bst (bst B7 (p:=⟨w.heap.size,0,none⟩) (zlr _) _) (p:=⟨w.heap.size,1,none⟩) (zlr _) _
theorem qqc{l:List Tk}(hp:Vj l=false)(h:qcp l=false∨qe4 l=true):qcd l=false:=by
 unfold qcd;rw[hp];rcases h with h|h<;>simp[h]
theorem qko{l:List Tk}(hp:Vj l=true):qcd l=true:=by simp[qcd,hp]
theorem qme{l:List Tk}(hp:Vj l=false)(hi:qcp l=true)(hn:qe4 l=false):qcd l=qjq (qm1 l*ua l+uh l):=by simp[qcd,hp,hi,hn]
theorem qdx(A:ZA)(l:List Tk)(c:Nat)(w:World)(h:TS w A l)(hm:l.length≤maxLen):
  Calls Tryz.prog 181 #[.slice A l.length c] w fun e w'=>e=.returned (.bool (qcd l))∧Below w.heap.size w w':=by
 cases hP:Vj l with
 |true=>
  have Hf:=zhi (qko hP);have HP:=zhi hP;have Hv:Hid (qkn l=.tuple #[sv 1 1,.bool true]):=by simp[Hid,qkn,hP]
  clear hP;go_enter Tryz.func181,Tryz.ntmps181;go_wp2_with fail;refine(qbs A l c _ h hm).mono ?_;rw[Hv.out];rintro e w1 ⟨rfl,b1⟩;go_wp2_with fail;have B1:=bal b1 (.cells #[.int .i64 1,.int .i64 1] 54 (0,0));first
  |go_region_with (first
    |(go_at_call 61;refine(qfo A l c _ (h.keep (zdr B1)) hm).mono ?_;rw[HP.out];rintro e w6 ⟨rfl,b6⟩;have B6:Below w.heap.size w w6:=Qa (zdr B1) b6))
  |fail
  all_goals go_wp2_with fail
  all_goals go_ret
  all_goals exact⟨by rw[Hf.out];rfl,by assumption⟩
 |false=>
  by_cases hI:qcp l=true∧qe4 l=false
  case neg=>
   have ho:qcp l=false∨qe4 l=true:=by
    cases h1:qcp l with
    |false=>exact .inl rfl
    |true=>
     cases h2:qe4 l with
     |true=>exact .inr rfl
     |false=>exact absurd ⟨h1,h2⟩ hI
   have Hf:=zhi (qqc hP ho);have Hv:=zhi (qh6 hP ho);clear hP ho hI;go_enter Tryz.func181,Tryz.ntmps181;go_wp2_with fail;refine(qbs A l c _ h hm).mono ?_;rw[Hv.out];rintro e w1 ⟨rfl,b1⟩;go_wp2_with fail;go_quiet (fail)
   go_wp2_with fail;go_ret;exact⟨by rw[Hf.out];rfl,bdr (bal b1 _) _⟩
  obtain⟨hi,hn⟩:=hI;have Hf:=zhi (qme hP hi hn);have Hv:Hid (qkn l=.tuple #[rv (qm1 l),.bool true]):=by simp[Hid,qkn,hP,hi,hn]
  have hs:=qe5 hi;have hok:=qyg hs hn;have ea:Hid (qhv l false false=rv (ua l)):=qbh hs false false;have eh:Hid (qhv l true true=rv (uh l)):=qbh hs true true;have ra:Hid (RIn (ua l)):=Vd hs false false;have rh:Hid (RIn (uh l)):=Vd hs true true;have rf:Hid (RIn (qm1 l)):=hok.facIn;have rm:Hid (RIn (qm1 l*ua l)):=hok.mulIn;have HP:=zhi hP;clear hP hi hn hs hok;generalize qm1 l=f at*;generalize ua l=a at*;generalize uh l=u at*;go_enter Tryz.func181,Tryz.ntmps181;go_wp2_with fail;refine(qbs A l c _ h hm).mono ?_;rw[Hv.out];rintro e w1 ⟨rfl,b1⟩;go_wp2_with fail;have hB:=zha w1 (.cells #[.int .i64 f.num,.int .i64 (f.den:Int)] 54 (0,0));have hbl:w1.heap.size<(w1.alloc (.cells #[.int .i64 f.num,.int .i64 (f.den:Int)] 54 (0,0))).heap.size:=by simp
  have B1:=bal b1 (.cells #[.int .i64 f.num,.int .i64 (f.den:Int)] 54 (0,0));generalize hg:World.alloc w1 _=wx at hB hbl B1⊢;clear hg;have HB:=zhi hB;have HBl:=zhi hbl;clear hB hbl;have B0:Below wx.heap.size wx wx:=br
  have S_of: ∀w':World,Below wx.heap.size wx w'→w'.cell? ⟨w1.heap.size,0,none⟩=some (.int .i64 f.num)∧w'.cell? ⟨w1.heap.size,1,none⟩=some (.int .i64 (f.den:Int))∧Below wx.heap.size wx w':=fun w' hw=>by
   obtain⟨h0,h1,_⟩:=Qk ((hw.block _ HBl.out).trans HB.out);exact⟨h0,h1,hw⟩
  go_region_held3 (fun w'=>w'.cell? ⟨w1.heap.size,0,none⟩=some (.int .i64 f.num)∧w'.cell? ⟨w1.heap.size,1,none⟩=some (.int .i64 (f.den:Int))∧Below wx.heap.size wx w')
   ((refine S_of _ ?_;first|assumption|exact zdr br|exact(by assumption:_∧_∧Below wx.heap.size wx _).2.2))
   (first
    |(go_at_call 61;refine(qfo A l c _ (h.keep (Qa B1 (by first|assumption|exact(by assumption:_∧_∧Below wx.heap.size wx _).2.2))) hm).mono ?_;rw[HP.out];rintro e w5 ⟨rfl,b5⟩;have B5:Below wx.heap.size wx w5:=Qa (by first|assumption|exact(by assumption:_∧_∧Below wx.heap.size wx _).2.2) b5)
    |(go_at_call 62;refine(qcj A l c false _ (h.keep (Qa B1 (by first|assumption|exact(by assumption:_∧_∧Below wx.heap.size wx _).2.2)))).mono ?_;rw[ea.out];rintro e w6 ⟨rfl,b6⟩;have B6:Below wx.heap.size wx w6:=Qa (by first|assumption|exact(by assumption:_∧_∧Below wx.heap.size wx _).2.2) b6)
    |(go_at_call 103;refine(qgi A l c _ (h.keep (Qa B1 (by first|assumption|exact(by assumption:_∧_∧Below wx.heap.size wx _).2.2)))).mono ?_;rw[eh.out];rintro e w7 ⟨rfl,b7⟩;have B7:Below wx.heap.size wx w7:=Qa (by first|assumption|exact(by assumption:_∧_∧Below wx.heap.size wx _).2.2) b7)
    |(go_at_call 228;refine(qyf f a _ rf.out ra.out).mono ?_;rintro e w8 ⟨rfl,b8⟩;have B8:Below wx.heap.size wx w8:=Qa (by first|assumption|exact(by assumption:_∧_∧Below wx.heap.size wx _).2.2) b8)
    |(go_at_call 64;refine(qnf (f*a) u _ rm.out rh.out).mono ?_;rintro e w9 ⟨rfl,b9⟩;have B9:Below wx.heap.size wx w9:=Qa (by first|assumption|exact(by assumption:_∧_∧Below wx.heap.size wx _).2.2) b9)
    |(go_at_call 63;refine(qng (f*a+u) _).mono ?_;rintro e w10 ⟨rfl,b10⟩;have B10:Below wx.heap.size wx w10:=Qa (by first|assumption|exact(by assumption:_∧_∧Below wx.heap.size wx _).2.2) b10))
  all_goals go_wp2_with fail
  all_goals go_ret
  all_goals exact⟨by rw[Hf.out];rfl,Qa B1 (by first|assumption|exact(by assumption:_∧_∧Below wx.heap.size wx _).2.2)⟩
end Go.Proofs.YtmkjmancmiphfaaGreatDoor

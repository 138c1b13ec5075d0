/-
  The walks of HoldsPlain, FactorOf, HoldsVirtual, HoldsBy: the program's.
-/
import Derived.Test.YtmkjmancmiphfaaGreatDoorRb07
namespace Go.Proofs.YtmkjmancmiphfaaGreatDoor
set_option maxHeartbeats 8000000
set_option maxRecDepth 1000000
open Go.RowKit
theorem qc1{l:List Tk}(h:qad l=true)(crit high:Bool):qje l crit high=rv (qau crit high l):=by simp[qje,h]
theorem qba{l:List Tk}(h:qad l=true)(crit high:Bool):RIn (qau crit high l):=by
 obtain⟨hl5,hall⟩:=qaj h;have:=qnk hall hl5 crit high;exact⟨this.1,by omega,by omega⟩
def qlz(l:List Tk):Value:=if qbh l then .tuple #[sv 1 1,.bool true] else if qec l&& !qgn l then .tuple #[rv (qn9 l),.bool true] else .tuple #[sv 0 0,.bool false]
theorem qg7(A:ZA)(l:List Tk)(c:Nat)(w:World)(h:TS w A l)(hm:l.length≤maxLen):
  Calls Tryz.prog 61 #[.slice A l.length c] w fun e w'=>e=.returned (.bool (qbh l))∧Below w.heap.size w w':=by
 cases hI:qec l with
 |false=>
  have Hf:Hid (qbh l=false):=by simp[Hid,qbh,hI]
  go_enter Tryz.func61,Tryz.ntmps61;go_wp2_with fail;refine(qgm A l c _ h hm).mono ?_;rw[hI];rintro e w1 ⟨rfl,b1⟩;go_wp2_with fail;go_ret;exact⟨by rw[Hf.out];rfl,b1⟩
 |true=>
  have Hf:Hid (qbh l=qk1 (ua l+uh l)):=by simp[Hid,qbh,hI]
  have hs:=qgo hI;have ea:Hid (qje l false false=rv (ua l)):=qc1 hs false false;have eh:Hid (qje l true true=rv (uh l)):=qc1 hs true true;have ra:=qba hs false false;have rh:=qba hs true true;clear hs;change RIn (ua l) at ra;change RIn (uh l) at rh;go_enter Tryz.func61,Tryz.ntmps61;go_wp2_with fail;refine(qgm A l c _ h hm).mono ?_;rw[hI];rintro e w1 ⟨rfl,b1⟩;go_wp2_with fail;refine(qd6 A l c false _ (h.keep b1)).mono ?_;rw[ea.out];rintro e w2 ⟨rfl,b2⟩;have B2:=qaa b1 b2;go_wp2_with fail;refine(qh1 A l c _ (h.keep B2)).mono ?_;rw[eh.out];rintro e w3 ⟨rfl,b3⟩;have B3:=qaa B2 b3;go_wp2_with fail;refine(qon (ua l) (uh l) _ ra rh).mono ?_;rintro e w4 ⟨rfl,b4⟩;have B4:=qaa B3 b4;go_wp2_with fail;refine(qoo (ua l+uh l) _).mono ?_;rintro e w5 ⟨rfl,b5⟩;go_wp2_with fail;go_ret;exact⟨by rw[Hf.out];rfl,qaa B4 b5⟩
theorem q00(w:World)(A B:Obj):((w.alloc A).alloc B).heap[w.heap.size]? =some A∧((w.alloc A).alloc B).heap[w.heap.size+1]? =some B:=by
 refine⟨?_,?_⟩
 ·show((w.heap.push A).push B)[_]? =_;rw[Array.getElem?_push,if_neg (by simp),Array.getElem?_push,if_pos rfl]
 ·show((w.heap.push A).push B)[_]? =_;rw[Array.getElem?_push,if_pos (by simp)]
theorem qjp{l:List Tk}(hp:qbh l=false)(h:qec l=false∨qgn l=true):qlz l=.tuple #[sv 0 0,.bool false]:=by
 unfold qlz;rw[hp];rcases h with h|h<;>simp[h]
theorem qya{l:List Tk}(h:qec l=false):qbh l=false:=by simp[qbh,h]
theorem q01{l:List Tk}(h:qk1 (ua l+ub l)=false):qgn l=true:=by simp[qgn,h]
theorem q02{l:List Tk}(h:((ua l).num==((ua l).den:Int))=true):qgn l=true:=by simp[qgn,h]
theorem qde(A:ZA)(l:List Tk)(c:Nat)(w:World)(h:TS w A l)(hm:l.length≤maxLen):
  Calls Tryz.prog 28 #[.slice A l.length c] w fun e w'=>e=.returned (qlz l)∧Below w.heap.size w w':=by
 cases hI:qec l with
 |false=>
  have Hf:=zhi (qjp (qya hI) (.inl hI));go_enter Tryz.func28,Tryz.ntmps28;go_wp2_with fail;refine(qgm A l c _ (h.keep (bal br _)) hm).mono ?_;rw[hI];rintro e w1 ⟨rfl,b1⟩;have hB:=(b1.block w.heap.size (by simp)).trans (zha w _);obtain⟨x0,x1,xf⟩:=qak hB;clear hB;go_wp2_with fail;refine bodyPost_ret (v:=.tuple #[sv 0 0,.bool false]) (by simp[results,Tryz.results28,go_sem,x0,x1]) rfl ⟨by rw[Hf.out],?_⟩;exact bst (bst (qaa (bal br _) b1) (p:=⟨w.heap.size,0,none⟩) (zlr _) _) (p:=⟨w.heap.size,1,none⟩) (zlr _) _
 |true=>
  have hs:=qgo hI;have ea:Hid (qje l false false=rv (ua l)):=qc1 hs false false;have eb:Hid (qje l true false=rv (ub l)):=qc1 hs true false;have ra:=qba hs false false;have rb:=qba hs true false;change RIn (ua l) at ra;change RIn (ub l) at rb;have HS:=zhi hs;clear hs;go_enter Tryz.func28,Tryz.ntmps28;go_wp2_with fail;refine(qgm A l c _ (h.keep (bal br _)) hm).mono ?_;rw[hI];rintro e w1 ⟨rfl,b1⟩;have B1:=qaa (bal (Below.refl w.heap.size w) _) b1;go_wp2_with fail;refine(qg7 A l c _ (h.keep B1) hm).mono ?_;cases hP:qbh l with
  |true=>
   have Hf:Hid (qlz l=.tuple #[sv 1 1,.bool true]):=by simp[Hid,qlz,hP]
   rintro e w2 ⟨rfl,b2⟩;have B2:=qaa B1 b2;have hB:=(qaa b1 b2).block w.heap.size (by simp);have hB:=hB.trans (zha w _);obtain⟨x0,x1,xf⟩:=qak hB;clear hB;go_wp2_with fail;refine bodyPost_ret (v:=.tuple #[sv 1 1,.bool true]) (by simp[results,Tryz.results28,go_sem,x0,x1]) rfl ⟨by rw[Hf.out],?_⟩;exact bst (bst B2 (p:=⟨w.heap.size,0,none⟩) (zlr _) _) (p:=⟨w.heap.size,1,none⟩) (zlr _) _
  |false=>
   rintro e w2 ⟨rfl,b2⟩;have B2:=qaa B1 b2;have HB2:=zhi (((qaa b1 b2).block w.heap.size (by simp)).trans (zha w _));go_wp2_with fail;refine(qd6 A l c false _ (h.keep B2)).mono ?_;rw[ea.out];rintro e w3 ⟨rfl,b3⟩;have B3:=qaa B2 b3;go_wp2_with fail;refine(qd6 A l c true _ (h.keep B3)).mono ?_;rw[eb.out];rintro e w4 ⟨rfl,b4⟩;have B4:=qaa B3 b4;have hz:w.heap.size<w4.heap.size:=by have:=b1.size;have:=b2.size;have:=b3.size;have:=b4.size;simp only[World.size_alloc] at*;omega
   have HB4:=zhi (((qaa b3 b4).block w.heap.size (by have:=b1.size;have:=b2.size;simp only[World.size_alloc] at*;omega)).trans HB2.out);go_wp2_with fail;refine(qon (ua l) (ub l) _ ra rb).mono ?_;rintro e w5 ⟨rfl,b5⟩;have B5:=qaa (bal (bal B4 _) _) b5;have hz5:=b5.size;simp only[World.size_alloc] at hz5;obtain⟨q0,q1⟩:=q00 w4 (.cells #[.int .i64 (ua l).num,.int .i64 ((ua l).den:Int)] 54) (.cells #[.int .i64 (ub l).num,.int .i64 ((ub l).den:Int)] 54);have q0:=zhi ((b5.block w4.heap.size (by simp;omega)).trans q0);have q1:=zhi ((b5.block (w4.heap.size+1) (by simp)).trans q1);have q2:=zhi ((b5.block w.heap.size (by simp;omega)).trans ((Below.heap_alloc _ _ _ (by simp;omega)).trans ((Below.heap_alloc _ _ _ hz).trans HB4.out)));go_wp2_with fail;refine(qoo (ua l+ub l) _).mono ?_;rintro e w6 ⟨rfl,b6⟩;have B6:=qaa B5 b6;have hz6:=b6.size;have k2:=(b6.block w.heap.size (by omega)).trans q2.out;have k0:=(b6.block w4.heap.size (by omega)).trans q0.out;have k1:=(b6.block (w4.heap.size+1) (by omega)).trans q1.out;clear q0 q1 q2 HB2 HB4;obtain⟨z0,z1,zf⟩:=qak k2;obtain⟨x0,x1,xf⟩:=qak k0;obtain⟨y0,y1,yf⟩:=qak k1;have K2:=zhi k2;have K0:=zhi k0;have K1:=zhi k1;clear k0 k1 k2;cases hfit:qk1 (ua l+ub l) with
   |false=>
    have Hf:=zhi (qjp hP (.inr (q01 hfit)));clear hfit;go_wp2_with fail;refine bodyPost_ret (v:=.tuple #[sv 0 0,.bool false]) (by simp[results,Tryz.results28,go_sem,z0,z1]) rfl ⟨by rw[Hf.out],?_⟩;exact bst (bst B6 (p:=⟨w.heap.size,0,none⟩) (zlr _) _) (p:=⟨w.heap.size,1,none⟩) (zlr _) _
   |true=>
    cases hne:((ua l).num==((ua l).den:Int)) with
    |true=>
     have Hf:=zhi (qjp hP (.inr (q02 hne)));clear hfit;go_wp2_with fail;refine bodyPost_ret (v:=.tuple #[sv 0 0,.bool false]) (by simp[results,Tryz.results28,go_sem,z0,z1]) rfl ⟨by rw[Hf.out],?_⟩;exact bst (bst B6 (p:=⟨w.heap.size,0,none⟩) (zlr _) _) (p:=⟨w.heap.size,1,none⟩) (zlr _) _
    |false=>
     have hno:qgn l=false:=by simp[qgn,hfit,hne]
     have hok:=qzb HS.out hno;have Hf:Hid (qlz l=.tuple #[rv (qn9 l),.bool true]):=by simp[Hid,qlz,hP,hI,hno]
     have hfr:Hid (qn9 l=mkRat ((ub l).num*(ua l).den) (((ub l).den:Int)*((ua l).den-(ua l).num)).toNat):=rfl;obtain⟨m1,m2,m3,m4,m5,m6,m7,m8,m9,m10,m11,m12⟩:=hok;obtain⟨ra1,ra2,ra3,ra4⟩:=qdy ra;obtain⟨rb1,rb2,rb3,rb4⟩:=qdy rb;clear hfit hno ra rb m10 m11 m12;go_wp2_with fail;refine(qgl _ _ _ m6 m8 (by omega) (by omega)).mono ?_;rw[←hfr.out];rintro e w7 ⟨rfl,b7⟩;have B7:=qaa B6 b7;have k2:=(b7.block w.heap.size (by omega)).trans K2.out;clear z0 z1 zf x0 x1 xf y0 y1 yf;obtain⟨z0,z1,zf⟩:=qak k2;clear k2;generalize qn9 l=f at*;go_wp2_with fail;refine bodyPost_ret (v:=.tuple #[rv f,.bool true]) (by simp[results,Tryz.results28,go_sem,z0,z1]) rfl ⟨by rw[Hf.out],?_⟩;exact bst (bst B7 (p:=⟨w.heap.size,0,none⟩) (zlr _) _) (p:=⟨w.heap.size,1,none⟩) (zlr _) _
theorem qrk{l:List Tk}(hp:qbh l=false)(h:qec l=false∨qgn l=true):qd0 l=false:=by
 unfold qd0;rw[hp];rcases h with h|h<;>simp[h]
theorem ql0{l:List Tk}(hp:qbh l=true):qd0 l=true:=by simp[qd0,hp]
theorem qno{l:List Tk}(hp:qbh l=false)(hi:qec l=true)(hn:qgn l=false):qd0 l=qk1 (qn9 l*ua l+uh l):=by simp[qd0,hp,hi,hn]
theorem qfg(A:ZA)(l:List Tk)(c:Nat)(w:World)(h:TS w A l)(hm:l.length≤maxLen):
  Calls Tryz.prog 181 #[.slice A l.length c] w fun e w'=>e=.returned (.bool (qd0 l))∧Below w.heap.size w w':=by
 cases hP:qbh l with
 |true=>
  have Hf:=zhi (ql0 hP);have HP:=zhi hP;have Hv:Hid (qlz l=.tuple #[sv 1 1,.bool true]):=by simp[Hid,qlz,hP]
  clear hP;go_enter Tryz.func181,Tryz.ntmps181;go_wp2_with fail;refine(qde A l c _ h hm).mono ?_;rw[Hv.out];rintro e w1 ⟨rfl,b1⟩;go_wp2_with fail;have B1:=bal b1 (.cells #[.int .i64 1,.int .i64 1] 54 (0,0));first
  |go_region_with (first
    |(go_at_call 61;refine(qg7 A l c _ (h.keep (zdr B1)) hm).mono ?_;rw[HP.out];rintro e w6 ⟨rfl,b6⟩;have B6:Below w.heap.size w w6:=qaa (zdr B1) b6))
  |fail
  all_goals go_wp2_with fail
  all_goals go_ret
  all_goals exact⟨by rw[Hf.out];rfl,by assumption⟩
 |false=>
  by_cases hI:qec l=true∧qgn l=false
  case neg=>
   have ho:qec l=false∨qgn l=true:=by
    cases h1:qec l with
    |false=>exact .inl rfl
    |true=>
     cases h2:qgn l with
     |true=>exact .inr rfl
     |false=>exact absurd ⟨h1,h2⟩ hI
   have Hf:=zhi (qrk hP ho);have Hv:=zhi (qjp hP ho);clear hP ho hI;go_enter Tryz.func181,Tryz.ntmps181;go_wp2_with fail;refine(qde A l c _ h hm).mono ?_;rw[Hv.out];rintro e w1 ⟨rfl,b1⟩;go_wp2_with fail;go_quiet (fail)
   go_wp2_with fail;go_ret;exact⟨by rw[Hf.out];rfl,bdr (bal b1 _) _⟩
  obtain⟨hi,hn⟩:=hI;have Hf:=zhi (qno hP hi hn);have Hv:Hid (qlz l=.tuple #[rv (qn9 l),.bool true]):=by simp[Hid,qlz,hP,hi,hn]
  have hs:=qgo hi;have hok:=qzb hs hn;have ea:Hid (qje l false false=rv (ua l)):=qc1 hs false false;have eh:Hid (qje l true true=rv (uh l)):=qc1 hs true true;have ra:Hid (RIn (ua l)):=qba hs false false;have rh:Hid (RIn (uh l)):=qba hs true true;have rf:Hid (RIn (qn9 l)):=hok.facIn;have rm:Hid (RIn (qn9 l*ua l)):=hok.mulIn;have HP:=zhi hP;clear hP hi hn hs hok;generalize qn9 l=f at*;generalize ua l=a at*;generalize uh l=u at*;go_enter Tryz.func181,Tryz.ntmps181;go_wp2_with fail;refine(qde A l c _ h hm).mono ?_;rw[Hv.out];rintro e w1 ⟨rfl,b1⟩;go_wp2_with fail;have hB:=zha w1 (.cells #[.int .i64 f.num,.int .i64 (f.den:Int)] 54 (0,0));have hbl:w1.heap.size<(w1.alloc (.cells #[.int .i64 f.num,.int .i64 (f.den:Int)] 54 (0,0))).heap.size:=by simp
  have B1:=bal b1 (.cells #[.int .i64 f.num,.int .i64 (f.den:Int)] 54 (0,0));generalize hg:World.alloc w1 _=wx at hB hbl B1⊢;clear hg;have HB:=zhi hB;have HBl:=zhi hbl;clear hB hbl;have B0:Below wx.heap.size wx wx:=br
  have S_of: ∀w':World,Below wx.heap.size wx w'→w'.cell? ⟨w1.heap.size,0,none⟩=some (.int .i64 f.num)∧w'.cell? ⟨w1.heap.size,1,none⟩=some (.int .i64 (f.den:Int))∧Below wx.heap.size wx w':=fun w' hw=>by
   obtain⟨h0,h1,_⟩:=qak ((hw.block _ HBl.out).trans HB.out);exact⟨h0,h1,hw⟩
  go_region_held3 (fun w'=>w'.cell? ⟨w1.heap.size,0,none⟩=some (.int .i64 f.num)∧w'.cell? ⟨w1.heap.size,1,none⟩=some (.int .i64 (f.den:Int))∧Below wx.heap.size wx w')
   ((refine S_of _ ?_;first|assumption|exact zdr br|exact(by assumption:_∧_∧Below wx.heap.size wx _).2.2))
   (first
    |(go_at_call 61;refine(qg7 A l c _ (h.keep (qaa B1 (by first|assumption|exact(by assumption:_∧_∧Below wx.heap.size wx _).2.2))) hm).mono ?_;rw[HP.out];rintro e w5 ⟨rfl,b5⟩;have B5:Below wx.heap.size wx w5:=qaa (by first|assumption|exact(by assumption:_∧_∧Below wx.heap.size wx _).2.2) b5)
    |(go_at_call 62;refine(qd6 A l c false _ (h.keep (qaa B1 (by first|assumption|exact(by assumption:_∧_∧Below wx.heap.size wx _).2.2)))).mono ?_;rw[ea.out];rintro e w6 ⟨rfl,b6⟩;have B6:Below wx.heap.size wx w6:=qaa (by first|assumption|exact(by assumption:_∧_∧Below wx.heap.size wx _).2.2) b6)
    |(go_at_call 103;refine(qh1 A l c _ (h.keep (qaa B1 (by first|assumption|exact(by assumption:_∧_∧Below wx.heap.size wx _).2.2)))).mono ?_;rw[eh.out];rintro e w7 ⟨rfl,b7⟩;have B7:Below wx.heap.size wx w7:=qaa (by first|assumption|exact(by assumption:_∧_∧Below wx.heap.size wx _).2.2) b7)
    |(go_at_call 228;refine(qza f a _ rf.out ra.out).mono ?_;rintro e w8 ⟨rfl,b8⟩;have B8:Below wx.heap.size wx w8:=qaa (by first|assumption|exact(by assumption:_∧_∧Below wx.heap.size wx _).2.2) b8)
    |(go_at_call 64;refine(qon (f*a) u _ rm.out rh.out).mono ?_;rintro e w9 ⟨rfl,b9⟩;have B9:Below wx.heap.size wx w9:=qaa (by first|assumption|exact(by assumption:_∧_∧Below wx.heap.size wx _).2.2) b9)
    |(go_at_call 63;refine(qoo (f*a+u) _).mono ?_;rintro e w10 ⟨rfl,b10⟩;have B10:Below wx.heap.size wx w10:=qaa (by first|assumption|exact(by assumption:_∧_∧Below wx.heap.size wx _).2.2) b10))
  all_goals go_wp2_with fail
  all_goals go_ret
  all_goals exact⟨by rw[Hf.out];rfl,qaa B1 (by first|assumption|exact(by assumption:_∧_∧Below wx.heap.size wx _).2.2)⟩
end Go.Proofs.YtmkjmancmiphfaaGreatDoor

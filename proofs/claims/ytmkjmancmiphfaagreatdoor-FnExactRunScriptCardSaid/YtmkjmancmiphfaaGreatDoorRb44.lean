/-
  Words at the desk without a rest, all of them.
-/
import Derived.Test.YtmkjmancmiphfaaGreatDoorRb43
namespace Go.Proofs.YtmkjmancmiphfaaGreatDoor
set_option maxHeartbeats 8000000
set_option maxRecDepth 1000000
open Go.RowKit
def q25(x:List UInt8)(is:Bool)(s s':St):Prop:=
 ∀(B b:Nat) (w:World),Mz B w→qgj B b w s→B≤w.heap.size→Calls Tryz.prog 77 #[.pointer (some ⟨b,0,none⟩),.string ⟨x.toArray⟩] w fun e w'=>e=.returned (.bool is)∧qgj B b w' s'∧Frm B b w w'
def qpv(x r:List UInt8)(is:Bool)(s s':St):Prop:=
 ∀(B b:Nat) (w:World),Mz B w→qgj B b w s→B≤w.heap.size→Calls Tryz.prog 78 #[.pointer (some ⟨b,0,none⟩),.string ⟨x.toArray⟩,.string ⟨r.toArray⟩] w fun e w'=>e=.returned (.bool is)∧qgj B b w' s'∧Frm B b w w'
def qyz(x:List UInt8)(n:Int)(is:Bool)(s s':St):Prop:=
 ∀(B b:Nat) (w:World),Mz B w→qgj B b w s→B≤w.heap.size→Calls Tryz.prog 80 #[.pointer (some ⟨b,0,none⟩),.string ⟨x.toArray⟩,.int .i64 n] w fun e w'=>e=.returned (.bool is)∧qgj B b w' s'∧Frm B b w w'
def DoZ(x:List UInt8)(s s':St):Prop:=
 ∀(B b:Nat) (w:World),Mz B w→qgj B b w s→B≤w.heap.size→Calls Tryz.prog 42 #[.pointer (some ⟨b,0,none⟩),.string ⟨x.toArray⟩] w fun e w'=>e=.returned (.tuple #[])∧qgj B b w' s'∧Frm B b w w'
theorem qea.z{x:List UInt8}{s s':St}(h:qea x s s'):q25 x true s s':=fun B b w hM=>h B b w hM.mx
theorem q5n.z{x r:List UInt8}{s s':St}(h:q5n x r s s'):qpv x r true s s':=fun B b w hM=>h B b w hM.mx
theorem qeu.z{x:List UInt8}{n:Int}{s s':St}(h:qeu x n s s'):qyz x n true s s':=fun B b w hM=>h B b w hM.mx
def qdt(s:Ss)(o:List UInt8):St:=⟨s.l,s.js.length,qgx s.js,s.pol,o⟩
theorem qpw(s:St)(hh:qb2 s.l s.pol=true)(hl:s.l.length≤maxLen)(ho:s.out.length≤700000):qea [104,111,108,100,115] s {s with out:=s.out++([104,111,108,100,115,32,121,101,115]++[10])}:=by
 intro B b w hM D hBw;have D0:=D;obtain⟨A,c,jv,c0,c1,c2,f0,f1,f2,hO,hlc⟩:=D0.cells;go_enter Tryz.func77,Tryz.ntmps77;go_wp2_with fail;go_region_with (go_at_call 125;refine(qbt A s.l c s.pol _ (hO.ts.keep (bdr br _)) hl hlc).mono ?_;rw[hh];rintro e w1 ⟨rfl,b1⟩;replace b1:=qaa (bdr (Below.refl w.heap.size w) _) b1)
 all_goals
  have D1:=D.keep b1;have F1:=(Frm.refl B b w).thru hBw b1;go_wp2_with fail;refine(qa0 D1 [104,111,108,100,115,32,121,101,115] _ (rfl) (by simp<;>omega) (zll hBw F1.size)).mono ?_;rintro e w2 ⟨rfl,D2,F2⟩;go_wp2_with fail;go_ret;exact⟨rfl,D2,F1.trans F2⟩
theorem qqz(s:St)(hh:qb2 s.l s.pol=false)(hl:s.l.length≤maxLen)(ho:s.out.length≤700000):qea [104,111,108,100,115] s {s with out:=s.out++([104,111,108,100,115,32,110,111]++[10])}:=by
 intro B b w hM D hBw;have D0:=D;obtain⟨A,c,jv,c0,c1,c2,f0,f1,f2,hO,hlc⟩:=D0.cells;go_enter Tryz.func77,Tryz.ntmps77;go_wp2_with fail;go_region_with (go_at_call 125;refine(qbt A s.l c s.pol _ (hO.ts.keep (bdr br _)) hl hlc).mono ?_;rw[hh];rintro e w1 ⟨rfl,b1⟩;replace b1:=qaa (bdr (Below.refl w.heap.size w) _) b1)
 all_goals
  have D1:=D.keep b1;have F1:=(Frm.refl B b w).thru hBw b1;go_wp2_with fail;refine(qa0 D1 [104,111,108,100,115,32,110,111] _ (rfl) (by simp<;>omega) (zll hBw F1.size)).mono ?_;rintro e w2 ⟨rfl,D2,F2⟩;go_wp2_with fail;go_ret;exact⟨rfl,D2,F1.trans F2⟩
theorem qli(A B:ZA)(l:List Tk)(c d:Nat)(w:World)(h:TS w A l)(h0:l.length≠0):
  Calls Tryz.prog 179 #[.slice A l.length c,.slice B 0 d] w fun e w'=>e=.returned (.bool false)∧Below w.heap.size w w':=by
 have hne:((0:Int) !=(l.length:Int))=true:=by rw[bne_iff_ne];omega
 clear h0;cases hS:qad l
 all_goals
  go_enter Tryz.func179,Tryz.ntmps179;go_wp2_with fail;refine(qae A l c _ h).mono ?_;rw[hS];rintro e w1 ⟨rfl,b1⟩;go_wp2_with fail;go_ret;exact⟨rfl,b1⟩
theorem qng(A B:ZA)(l:List Tk)(c d:Nat)(w:World)(h:TS w A l)(h0:l.length≠0):
  Calls Tryz.prog 124 #[.slice A l.length c,.slice B 0 d] w fun e w'=>e=.returned (.tuple #[.slice none 0 0,.bool false])∧Below w.heap.size w w':=by
 go_enter Tryz.func124,Tryz.ntmps124;go_wp2_with fail;refine(qli A B l c d _ h h0).mono ?_;rintro e w1 ⟨rfl,b1⟩;go_wp2_with fail;go_ret2;exact⟨rfl,b1⟩
theorem qxr{l:List Tk}(h:qbb l=none):l.length≠0:=by
 intro e;have:l=[]:=List.length_eq_zero_iff.1 e;subst this;simp[qbb,qad,aud] at h
theorem qvm(s:St)(o:List Nat)(hao:qbb s.l=some o)(_hl:s.l.length≤maxLen)(ho:s.out.length≤700000):qea [97,115,115,105,103,110] s ⟨qds s.l o,0,[],s.pol,s.out++(qa9 (qds s.l o)++[10])⟩:=by
 intro B b w hM D hBw;have D0:=D;obtain⟨A,c,jv,c0,c1,c2,f0,f1,f2,hO,hlc⟩:=D0.cells;go_enter Tryz.func77,Tryz.ntmps77;obtain⟨g1,g2,g3⟩:=qff hao;have hl5:=qbj g1;have hol:Hid (o.length=s.l.length):=by have:=g2.length_eq;simpa [Hid] using this
 have ho5:o.length≤5:=by rw[hol.out];exact hl5
 have hx: ∀x∈o,x<s.l.length:=fun x hx=>List.mem_range.1 ((g2.mem_iff).1 hx)
 have e1:qnn s.l=qbr o:=by simp[qnn,hao]
 have e2:(qbb s.l).isSome=true:=by simp[hao]
 have HX:=zhi hx;have H1:=zhi g1;have H2:=zhi g2;have HE1:=zhi e1;have HE2:=zhi e2;clear hx g1 g2 g3 hao e1 e2;go_wp2_with fail;refine(qdl A s.l c _ hO.ts).mono ?_;rw[HE1.out,HE2.out];rintro e w1 ⟨A5,c5,he,o5,b1⟩;rw[qah] at he;subst he;have D1:=D.keep b1;have F1:=(Frm.refl B b w).thru hBw b1;have C1:=D1.cells;clear c0 c1 c2 f0 f1 f2;obtain⟨A3,c3,jv3,c0,c1,c2,f0,f1,f2,hO3,hlc3⟩:=C1;go_wp2_with fail;refine(qii A3 A5 s.l o c3 c5 _ hO3.ts o5.is HX.out (by omega) (by omega) H1.out H2.out).mono ?_;rintro e w1' ⟨A6,c6,rfl,o6,b1'⟩;replace F1:=F1.thru hBw b1';replace D1:=D1.keep b1';go_wp2_with fail;refine(qfj D1 A6 _ c6 (qal o6 (zll hBw b1.size)) (by omega) (zll hBw F1.size)).mono ?_;rintro e w2 ⟨rfl,D2,F2⟩;go_wp2_with fail;go_ret;exact⟨rfl,D2,F1.trans F2⟩
theorem qpx(s:St)(hao:qbb s.l=none)(_hl:s.l.length≤maxLen)(ho:s.out.length≤700000):qea [97,115,115,105,103,110] s {s with out:=s.out++[110,111,10]}:=by
 intro B b w hM D hBw;have D0:=D;obtain⟨A,c,jv,c0,c1,c2,f0,f1,f2,hO,hlc⟩:=D0.cells;go_enter Tryz.func77,Tryz.ntmps77;have h0:=qxr hao;have e1:qnn s.l=[]:=by simp[qnn,hao]
 have e2:(qbb s.l).isSome=false:=by simp[hao]
 have HE1:=zhi e1;have HE2:=zhi e2;clear hao e1 e2;go_wp2_with fail;refine(qdl A s.l c _ hO.ts).mono ?_;rw[HE1.out,HE2.out];rintro e w1 ⟨A5,c5,rfl,o5,b1⟩;have D1:=D.keep b1;have F1:=(Frm.refl B b w).thru hBw b1;have C1:=D1.cells;clear c0 c1 c2 f0 f1 f2;obtain⟨A3,c3,jv3,c0,c1,c2,f0,f1,f2,hO3,hlc3⟩:=C1;go_wp2_with fail;refine(qng A3 A5 s.l c3 c5 _ hO3.ts h0).mono ?_;rintro e w1' ⟨rfl,b1'⟩;replace F1:=F1.thru hBw b1';replace D1:=D1.keep b1';go_wp2_with fail;refine(qke D1 _ (by omega) (zll hBw F1.size)).mono ?_;rintro e w2 ⟨rfl,D2,F2⟩;go_wp2_with fail;go_ret;exact⟨rfl,D2,F1.trans F2⟩
theorem qvn(s:St)(r:Rat)(hr:qlz s.l=.tuple #[rv r,.bool true])(hR:RIn r)(hl:s.l.length≤maxLen)(ho:s.out.length≤700000):qea [102,97,99,116,111,114] s {s with out:=s.out++(([102,97,99,116,111,114,32]++qbi r)++[10])}:=by
 intro B b w hM D hBw;have D0:=D;obtain⟨A,c,jv,c0,c1,c2,f0,f1,f2,hO,hlc⟩:=D0.cells;go_enter Tryz.func77,Tryz.ntmps77;have hnl:=qct r hR;go_wp2_with fail;refine(qde A s.l c _ hO.ts hl).mono ?_;rw[hr];rintro e w1 ⟨rfl,b1⟩;have D1:=D.keep b1;have F1:=(Frm.refl B b w).thru hBw b1;have F1:=F1.thru hBw (bal (Below.refl w1.heap.size w1) (.cells #[.int .i64 r.num,.int .i64 (r.den:Int)] 54 (0,0)));have D1:=D1.keep (bal (Below.refl w1.heap.size w1) (.cells #[.int .i64 r.num,.int .i64 (r.den:Int)] 54 (0,0)));go_wp2_with fail;refine(qeo r hR _ (hM.keep F1.2) (zll hBw F1.size)).mono ?_;rintro e w1' ⟨rfl,b1'⟩;replace F1:=F1.thru hBw b1';replace D1:=D1.keep b1';go_wp2_with fail;refine(qa0 D1 ([102,97,99,116,111,114,32]++qbi r) _ (qan _ _) (by simp<;>omega) (zll hBw F1.size)).mono ?_;rintro e w2 ⟨rfl,D2,F2⟩;go_wp2_with fail;go_ret;exact⟨rfl,D2,F1.trans F2⟩
theorem qpy(s:St)(hr:qlz s.l=.tuple #[sv 0 0,.bool false])(hl:s.l.length≤maxLen)(ho:s.out.length≤700000):qea [102,97,99,116,111,114] s {s with out:=s.out++([110,111,110,101]++[10])}:=by
 intro B b w hM D hBw;have D0:=D;obtain⟨A,c,jv,c0,c1,c2,f0,f1,f2,hO,hlc⟩:=D0.cells;go_enter Tryz.func77,Tryz.ntmps77;go_wp2_with fail;refine(qde A s.l c _ hO.ts hl).mono ?_;rw[hr];rintro e w1 ⟨rfl,b1⟩;have D1:=D.keep b1;have F1:=(Frm.refl B b w).thru hBw b1;have F1:=F1.thru hBw (bal (Below.refl w1.heap.size w1) (.cells #[.int .i64 0,.int .i64 0] 54 (0,0)));have D1:=D1.keep (bal (Below.refl w1.heap.size w1) (.cells #[.int .i64 0,.int .i64 0] 54 (0,0)));go_wp2_with fail;refine(qa0 D1 [110,111,110,101] _ (rfl) (by simp<;>omega) (zll hBw F1.size)).mono ?_;rintro e w2 ⟨rfl,D2,F2⟩;go_wp2_with fail;go_ret;exact⟨rfl,D2,F1.trans F2⟩
theorem qz4(s:St)(_hl:s.l.length≤maxLen)(ho:s.out.length≤700000):qea [115,111,114,116] s ⟨qin s.l,0,[],s.pol,s.out++(qa9 (qin s.l)++[10])⟩:=by
 intro B b w hM D hBw;have D0:=D;obtain⟨A,c,jv,c0,c1,c2,f0,f1,f2,hO,hlc⟩:=D0.cells;go_enter Tryz.func77,Tryz.ntmps77;go_wp2_with fail;refine(qux A s.l c _ hO.ts).mono ?_;rintro e w1 ⟨A1,d1,rfl,o1,b1⟩;have D1:=D.keep b1;have F1:=(Frm.refl B b w).thru hBw b1;go_wp2_with fail;refine(qfj D1 A1 _ d1 (qal o1 hBw) (by omega) (zll hBw b1.size)).mono ?_;rintro e w2 ⟨rfl,D2,F2⟩;go_wp2_with fail;go_ret;exact⟨rfl,D2,F1.trans F2⟩
theorem qvo(s:St)(n:Int)(hr:qsz s.l s.pol=some n)(h0:0≤n)(h9:n≤100000)(hl:s.l.length≤maxLen)(ho:s.out.length≤700000):qea [102,101,119,101,115,116] s {s with out:=s.out++(([102,101,119,101,115,116,32]++num n)++[10])}:=by
 intro B b w hM D hBw;have D0:=D;obtain⟨A,c,jv,c0,c1,c2,f0,f1,f2,hO,hlc⟩:=D0.cells;go_enter Tryz.func77,Tryz.ntmps77;have hnl:=qap n (by omega);go_wp2_with fail;go_region_with (go_at_call 129;refine(qkt A s.l c s.pol _ (hO.ts.keep (bdr br _)) hl hlc).mono ?_;rw[hr,show qgb (some n)=.tuple #[.int .i64 n,.bool true] from rfl];rintro e w1 ⟨rfl,b1⟩;replace b1:=qaa (bdr (Below.refl w.heap.size w) _) b1)
 all_goals
  have D1:=D.keep b1;have F1:=(Frm.refl B b w).thru hBw b1;go_wp2_with fail;refine(qdg (hM.keep F1.2) n h0 (by omega)).mono ?_;rintro e w1' ⟨rfl,b1'⟩;replace F1:=F1.thru hBw b1';replace D1:=D1.keep b1';go_wp2_with fail;refine(qa0 D1 ([102,101,119,101,115,116,32]++num n) _ (qan _ _) (by simp<;>omega) (zll hBw F1.size)).mono ?_;rintro e w2 ⟨rfl,D2,F2⟩;go_wp2_with fail;go_ret;exact⟨rfl,D2,F1.trans F2⟩
theorem qpz(s:St)(hr:qsz s.l s.pol=none)(hl:s.l.length≤maxLen)(ho:s.out.length≤700000):qea [102,101,119,101,115,116] s {s with out:=s.out++([110,111,110,101]++[10])}:=by
 intro B b w hM D hBw;have D0:=D;obtain⟨A,c,jv,c0,c1,c2,f0,f1,f2,hO,hlc⟩:=D0.cells;go_enter Tryz.func77,Tryz.ntmps77;go_wp2_with fail;go_region_with (go_at_call 129;refine(qkt A s.l c s.pol _ (hO.ts.keep (bdr br _)) hl hlc).mono ?_;rw[hr,show qgb none=.tuple #[.int .i64 0,.bool false] from rfl];rintro e w1 ⟨rfl,b1⟩;replace b1:=qaa (bdr (Below.refl w.heap.size w) _) b1)
 all_goals
  have D1:=D.keep b1;have F1:=(Frm.refl B b w).thru hBw b1;go_wp2_with fail;refine(qa0 D1 [110,111,110,101] _ rfl (by simp<;>omega) (zll hBw F1.size)).mono ?_;rintro e w2 ⟨rfl,D2,F2⟩;go_wp2_with fail;go_ret;exact⟨rfl,D2,F1.trans F2⟩
theorem qz5(x:List UInt8)(s:St)(n0:(x==([115,111,114,116]:List UInt8))=false)(n1:(x==([97,115,115,105,103,110]:List UInt8))=false)(n2:(x==([112,108,97,99,101,115]:List UInt8))=false)(n3:(x==([100,101,97,100,108,105,110,101,115]:List UInt8))=false)(n4:(x==([115,104,111,119]:List UInt8))=false)(n5:(x==([104,111,108,100,115]:List UInt8))=false)(n6:(x==([114,101,115,112,111,110,115,101,115]:List UInt8))=false)(n7:(x==([115,104,97,114,101,115]:List UInt8))=false)(n8:(x==([102,97,99,116,111,114]:List UInt8))=false)(n9:(x==([102,101,119,101,115,116]:List UInt8))=false):q25 x false s s:=by
 intro B b w hM D hBw;have D0:=D;obtain⟨A,c,jv,c0,c1,c2,f0,f1,f2,hO,hlc⟩:=D0.cells;go_enter Tryz.func77,Tryz.ntmps77;go_wp2_with fail;go_ret;exact⟨rfl,D,Frm.refl B b w⟩
end Go.Proofs.YtmkjmancmiphfaaGreatDoor

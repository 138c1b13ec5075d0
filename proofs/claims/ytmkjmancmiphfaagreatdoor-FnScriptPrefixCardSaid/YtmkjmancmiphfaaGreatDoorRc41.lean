/-
  DrawRunScript draws a text of at most 30000 bytes.
-/
import Derived.Test.YtmkjmancmiphfaaGreatDoorRc40
namespace Go.Proofs.YtmkjmancmiphfaaGreatDoor
set_option maxHeartbeats 8000000
set_option maxRecDepth 1000000
open Go.RowKit
def qio:List (List UInt8):=[[115,104,111,119],[112,108,97,99,101,115],[100,101,97,100,108,105,110,101,115],[115,111,114,116],[97,115,115,105,103,110],[104,111,108,100,115],[114,101,115,112,111,110,115,101,115],[115,104,97,114,101,115],[102,97,99,116,111,114],[108,101,97,118,101,32,48],[108,101,97,118,101,32,57],[114,97,105,115,101,32,49],[114,117,110,32,50,48],[114,117,110,32,52,48],[114,117,108,101,32,50,48],[119,111,114,115,116,32,50,48],[119,111,114,115,116,32,57,57,57],[104,105,103,104,32,48],[104,105,103,104,32,49],[112,97,99,107,32,49],[112,97,99,107,32,50],[112,97,99,107,32,52],[106,111,98,115,32,48,64,48,58,49],[106,111,98,115,32,48,64,48,58,49,32,48,64,49,58,49],[119,104,97,116],[],[32,115,104,111,119],[114,117,110,32,120],[102,101,119,101,115,116]]
def qi3:List (List UInt8):=[[],[32],[10],[120],[48]]
theorem q6z: ∀x∈qio,x.length≤20:=by decide
theorem q7u: ∀x∈qi3,x.length≤20:=by decide
def q5e:Value→Nat
 | .string s=>s.size
 |_=>0
theorem q2s(W w:World)(g p b:Nat)(L:List (List UInt8))(n:Nat)(hn:n=L.length)(h:RD W w g p)(hp:p+1≤1099511627776)(hb:w.heap[b]? =some (.cells (L.map (fun x=>Value.string ⟨x.toArray⟩)).toArray 9 (0,0)))(hne:b≠g)(h0:0<L.length)(hL:L.length≤1000):
  Calls Tryz.prog 53 #[.pointer (some ⟨g,0,none⟩),.slice (some ⟨b,0,none⟩) n n] w fun e w'=> ∃x,x∈L∧e=.returned (.string ⟨x.toArray⟩)∧RD W w' g (p+1)∧w.grownBy w' (some g):=by
 subst hn;have hrow:=qkt hb;clear hb;go_enter Tryz.func53,Tryz.ntmps53;go_wp2_with fail;refine(qa9 W w g p L.length h hp).mono ?_;rintro e w1 ⟨x,rfl,hx0,hx1,_,hr,hg⟩;have hx1:=hx1 (by omega);obtain⟨k,rfl⟩: ∃k:Nat,x=(k:Int):=⟨x.toNat,(Yay hx0).symm⟩;have hk:k<L.length:=by omega
 have c0:=hg.cell (hrow k hk) (by simp;exact hne);clear hrow;go_wp2
 go_ret;exact⟨_,Yao hk,rfl,hr,hg⟩
theorem qk6(W:World)(A:ZA)(l:List Int)(c:Nat)(h:BS W A l)(hl:l.length≤maxLen)(hlc:l.length≤c):
  Calls Tryz.prog 19 #[.slice A l.length c] W fun e w'=> ∃text:List UInt8,e=.returned (.string ⟨text.toArray⟩)∧text.length≤90000∧Below W.heap.size W w':=by
 have KO:=qsh W A l c W br h hl hlc;clear h hl hlc;go_enter Tryz.func19,Tryz.ntmps19;go_wp2_with fail;refine KO.mono ?_;rintro e w1 ⟨rfl,hr1,_⟩;clear KO;obtain⟨g,hg⟩: ∃g,W.heap.size=g:=⟨_,rfl⟩;rw[hg] at hr1⊢;go_wp2_with fail;refine(qq7 W _ g _ _ [7,5,10,4] _ (hr1.grow (bal br _)) (by omega) (qzr _ _ _ _ _ rfl rfl) (by simp) (by simp) (by rintro a ⟨⟩;have:=hr1.lt;simp;omega)).mono ?_;rintro e w2 ⟨x,hx,rfl,hr2,_⟩
 obtain⟨m0,hm0,rfl⟩: ∃m0:Nat,m0≤10∧x=(m0:Int):=by
  simp only[Ybz,Yca,or_false] at hx;refine⟨x.toNat,?_,?_⟩<;>omega
 clear hx;go_wp2_with fail;go_loopw [4,5] (fun v i wr=> ∃(m:Nat) (o:List UInt8) (q:Nat),i=.int .i64 (m:Int)∧v=.string ⟨o.toArray⟩∧m≤10∧o.length+600*m≤6000∧q+40*m≤1000∧RD W wr g q) (fun _ i _=>(intOf i).toNat)
 case atStart=>exact⟨m0,[],_,rfl,rfl,hm0,by simp;omega,by omega,hr2⟩
 case round=>
  clear hr1 hr2;obtain⟨m,o,q,rfl,rfl,hm10,hol,hq,hr⟩:=hrel;by_cases hm:m=0
  ·subst hm;have hol:o.length≤6000:=by omega
   have hq:q≤1000:=by omega
   go_wp2_with fail;refine(qa9 W _ g q _ hr (by omega)).mono ?_;rintro e w4 ⟨a,rfl,ha0,ha1,_,hr4,_⟩;have ha1:=ha1 (by omega);by_cases h2:a=2∧0<o.length
   ·obtain⟨rfl,hpos⟩:=h2;have hpI:(0:Int)<(o.length:Int):=by omega
    have hwr:IntKind.i64.wrap ((o.length:Int)-1)=((o.length-1:Nat):Int):=by rw[IntKind.wrap_i64];omega
    have hcA:(ByteArray.mk o.toArray).extract 0 (o.length-1)=ByteArray.mk (o.take (o.length-1)).toArray:=by rw[qcu];simp
    go_wp2_with fail;go_ret;exact⟨o.take (o.length-1),by rw[←hcA];rfl,by rw[Yap];omega,hr4.below⟩
   ·go_upto_block 3 with fail
    go_cut [4] from 46 to 70 (fun v wc=> ∃o2:List UInt8,v=.string ⟨o2.toArray⟩∧o2.length≤25000∧RD W wc g (q+1))
    case first=>
     by_cases h0:a=0
     ·subst h0;go_wp2_with fail;go_loopw [4,6] (fun v i wr=> ∃(m:Nat) (o:List UInt8),i=.int .i64 (m:Int)∧v=.string ⟨o.toArray⟩∧m≤201∧o.length≤6000+5*m∧RD W wr g (q+1)) (fun _ i _=>201-(intOf i).toNat)
      case atStart=>exact⟨0,o,rfl,rfl,by omega,by omega,hr4⟩
      case round=>
       obtain⟨m,o,rfl,rfl,hm,hol,hr4⟩:=hrel;by_cases hmm:m≤200
       ·have hmI:(m:Int)≤200:=by omega
        go_wp2_with fail;go_roundw
        case rel=>exact⟨m+1,o++[119,104,97,116,10],by go_num,by simp only[←Qn],by omega,by simp only[Yaa,Yau,Ybl];omega,hr4⟩
        case measure=>simp[intOf];omega
       ·have hmI: ¬(m:Int)≤200:=by omega
        go_wp2_with fail;go_meet
        exact⟨o,rfl,by omega,hr4⟩
     ·have h0':(a==0)=false:=beq_eq_false_iff_ne.2 h0;by_cases h1:a=1
      ·subst h1;go_wp2_with fail;go_loopw [4] (fun v wr=> ∃(o:List UInt8),v=.string ⟨o.toArray⟩∧o.length≤20005∧RD W wr g (q+1)) (fun v _=>20010-q5e v)
       case atStart=>exact⟨o,rfl,by omega,hr4⟩
       case round=>
        obtain⟨o,rfl,hol,hr4⟩:=hrel;by_cases hmm:o.length≤20000
        ·have hmI:(o.length:Int)≤20000:=by omega
         go_wp2_with fail;go_roundw
         case rel=>exact⟨o++[119,104,97,116,10],by simp only[←Qn],by simp only[Yaa,Yau,Ybl];omega,hr4⟩
         case measure=>simp[q5e,Lib.size_eq];omega
        ·have hmI: ¬(o.length:Int)≤20000:=by omega
         go_wp2_with fail;go_meet
         exact⟨o,rfl,by omega,hr4⟩
      ·have h1':(a==1)=false:=beq_eq_false_iff_ne.2 h1;by_cases h3:a=2
       ·subst h3;have hpI: ¬(0:Int)<(o.length:Int):=by omega
        go_wp2_with fail;go_meet
        exact⟨o,rfl,by omega,hr4⟩
       ·have h3':(a==2)=false:=beq_eq_false_iff_ne.2 h3;go_wp2_with fail;go_meet
        exact⟨o,rfl,by omega,hr4⟩
    case rest=>
     obtain⟨o,rfl,hol,hr4⟩:=hcut;by_cases ho0:o.length=0
     ·have ho1:((o.length:Int)==0)=true:=by rw[ho0];rfl
      have hon:o=[]:=List.length_eq_zero_iff.1 ho0;subst hon;go_wp2_with fail;go_ret;exact⟨[],rfl,by simp,hr4.below⟩
     ·have ho1:((o.length:Int)==0)=false:=beq_eq_false_iff_ne.2 (by omega);go_wp2_with fail;refine(qa9 W _ g _ 2 hr4 (by omega)).mono ?_;rintro e w5 ⟨a2,rfl,h20,h21,_,hr5,_⟩;by_cases ha2:a2=0
      ·subst ha2;go_wp2_with fail;go_ret;exact⟨o,rfl,by omega,hr5.below⟩
      ·have ha2':(a2==0)=false:=beq_eq_false_iff_ne.2 ha2;go_wp2_with fail;refine(qa9 W _ g _ (o.length:Int) hr5 (by omega)).mono ?_;rintro e w6 ⟨k0,rfl,hk00,hk01,_,hr6,_⟩;have hk01:=hk01 (by omega);obtain⟨k,rfl⟩: ∃k:Nat,k0=(k:Int):=⟨k0.toNat,(Yay hk00).symm⟩;have hkl:k<o.length:=by omega
       go_wp2_with fail;have hcA:(ByteArray.mk o.toArray).extract 0 k=ByteArray.mk (o.take k).toArray:=by rw[qcu];simp
       have hxa:(o.take k).length≤25000:=by rw[Yap];omega
       generalize o.take k=xa at hcA hxa;go_upto_region 27 with fail;refine wp_region_held (S:=fun _=>True) (by kernel_rfl) ?_;change wpAnyH _ _ _ _ _ _ _ _ (World.drew _);have hr0:=hr6.drewN 1;change RD W (World.drew w6) g _ at hr0;generalize World.drew w6=v0 at hr0⊢;refine tq 0 84 (.string ⟨o.toArray⟩) rfl (fun _ _=>rfl) trivial ?_;refine tq 1 85 (.int .i64 (k:Int)) rfl (fun _ _=>rfl) trivial ?_;refine tq 2 86 (.string ⟨xa.toArray⟩) rfl (fun w _=>by go_simp<;>(first|omega|exact hcA|(simp;omega))) trivial ?_;refine tq 3 87 (.pointer (some ⟨g,0,none⟩)) rfl (fun _ _=>rfl) trivial ?_;refine tq 7 91 (.string ⟨o.toArray⟩) rfl (fun _ _=>rfl) trivial ?_;refine tq 8 92 (.int .i64 (k:Int)) rfl (fun _ _=>rfl) trivial ?_;refine tq 9 93 (.pointer (some ⟨g,0,none⟩)) rfl (fun _ _=>rfl) trivial ?_;refine tw 4 ?_;refine Vr 4 88 rfl (by rfl) ?_;intro K hK;go_simp
       refine hK (.slice (some ⟨v0.heap.size,0,none⟩) 5 5) _ trivial ?_;clear hK;simp only[lsS,lsZ];have hfb:(v0.alloc (.cells (qi3.map (fun x=>Value.string ⟨x.toArray⟩)).toArray 9 (0,0))).heap[v0.heap.size]? =some (.cells (qi3.map (fun x=>Value.string ⟨x.toArray⟩)).toArray 9 (0,0)):=zha _ _;have hr1:=hr0.grow (bal (Below.refl _ v0) (.cells (qi3.map (fun x=>Value.string ⟨x.toArray⟩)).toArray 9 (0,0)));have hgv:v0.heap.size≠g:=by have:=hr0.lt;omega
       change wpAnyH _ _ _ _ _ _ _ _ (v0.alloc (.cells (qi3.map (fun x=>Value.string ⟨x.toArray⟩)).toArray 9 (0,0)));obtain⟨fb,hfbE⟩: ∃fb,v0.heap.size=fb:=⟨_,rfl⟩;rw[hfbE] at hfb hgv⊢;generalize World.alloc v0 _=v1 at hfb hr1⊢;refine tw 5 ?_;refine co 5 89 rfl 53 Tryz.func53 #[.pointer (some ⟨g,0,none⟩),.slice (some ⟨fb,0,none⟩) 5 5] (q2s W v1 g _ fb qi3 5 rfl hr1 (by omega) hfb hgv (by decide) (by decide)) ?_;rintro e v2 ⟨y,hy,rfl,hr2,_⟩;have hyl:=q7u y hy;refine⟨_,rfl,trivial,?_⟩;simp only[lsS,lsZ];refine tq 6 90 (.string ⟨(xa++y).toArray⟩) rfl (fun w _=>by go_simp;rw[Yaq (by simp;omega)];simp[Qn]) trivial ?_;refine tw 10 ?_;refine co 10 94 rfl 25 Tryz.func25 #[.pointer (some ⟨g,0,none⟩),.int .i64 2] (qa9 W v2 g _ 2 hr2 (by omega)) ?_;rintro e v3 ⟨z,rfl,hz0,hz1,_,hr3,_⟩;have hz1:=hz1 (by omega);obtain⟨kj,hkj⟩: ∃kj:Nat,(k:Int)+z=(kj:Int):=⟨((k:Int)+z).toNat,by omega⟩;have hwr:IntKind.i64.wrap (kj:Int)=(kj:Int):=by rw[IntKind.wrap_i64];omega
       have hkl:kj≤o.length:=by omega
       have hcR:(ByteArray.mk o.toArray).extract kj o.length=ByteArray.mk (o.drop kj).toArray:=by rw[qcu];congr 2;rw[Yar (by simp)]
       have hxr:(o.drop kj).length≤25000:=by rw[Ybm];omega
       generalize o.drop kj=xr at hcR hxr;refine⟨_,rfl,trivial,?_⟩;simp only[lsS,lsZ];refine tq 11 95 (.int .i64 (kj:Int)) rfl (fun w _=>by go_simp<;>rw[hwr]) trivial ?_;refine tq 12 96 (.string ⟨xr.toArray⟩) rfl (fun w _=>by go_simp<;>(first|omega|exact hcR|(simp;omega))) trivial ?_;refine tq 13 97 (.string ⟨((xa++y)++xr).toArray⟩) rfl (fun w _=>by go_simp;rw[Yaq (by simp;omega)];simp[Qn]) trivial ?_;refine tq 14 2 (.string ⟨((xa++y)++xr).toArray⟩) rfl (fun _ _=>rfl) trivial ?_;refine wpAnyH_done (by kernel_rfl) ?_ _;go_wp2_with fail;go_ret;exact⟨(xa++y)++xr,rfl,by simp only[Yaa];omega,hr3.below⟩
  ·have hmI:(0:Int)<(m:Int):=by omega
   go_wp2_with fail;refine(qa9 W _ g q _ hr (by omega)).mono ?_;rintro e w4 ⟨a,rfl,ha0,ha1,_,hr4,_⟩;have ha1:=ha1 (by omega);have hol:o.length≤6000:=by omega
   by_cases h0:a=0
   ·subst h0;go_wp2_with fail;refine(qyu W _ g _ hr4 (by omega)).mono ?_;rintro e w5 ⟨A5,c5,l5,q5,rfl,o5,_,hl5,hq5,hr5,_⟩;go_wp2_with fail;refine(qmj A5 l5 c5 _ o5.ts (by unfold maxLen;omega)).mono ?_;rintro e w6 ⟨A6,c6,rfl,o6,b6⟩
    have hs6:(qfv l5).length≤1000:=by
     unfold qfv;split
     ·rw[qel];omega
     ·simp
    generalize qfv l5=l6 at o6 hs6⊢;go_wp2_with fail;refine(qcr A6 l6 c6 _ o6.ts (by omega)).mono ?_;rintro e w7 ⟨rfl,b7⟩;have hfl:=qcq l6;have hr7:=(hr5.grow b6).grow b7;go_wp2_with fail;go_roundw
    case rel=>exact⟨m-1,((o++[116,97,115,107,115,32])++Va l6)++[10],q5,by go_num,by simp only[←Qn],by omega,by simp only[Yaa,Yau,Ybl];omega,by omega,hr7⟩
    case measure=>simp[intOf];omega
   ·have h0':(a==0)=false:=beq_eq_false_iff_ne.2 h0;by_cases h1:a=1
    ·subst h1;go_wp2_with fail;refine(qu1 W _ g _ hr4 (by omega)).mono ?_;rintro e w5 ⟨t5,q5,rfl,_,hq5,hr5,_⟩;go_wp2_with fail;refine(qdn t5 _).mono ?_;rintro e w7 ⟨rfl,b7⟩;have hfl:=qhe t5;have hr7:=hr5.grow b7;go_wp2_with fail;go_roundw
     case rel=>exact⟨m-1,((o++[97,100,109,105,116,32])++Qr t5)++[10],q5,by go_num,by simp only[←Qn],by omega,by simp only[Yaa,Yau,Ybl];omega,by omega,hr7⟩
     case measure=>simp[intOf];omega
    ·have h1':(a==1)=false:=beq_eq_false_iff_ne.2 h1;have hfb:(w4.alloc (.cells (qio.map (fun x=>Value.string ⟨x.toArray⟩)).toArray 9 (0,0))).heap[w4.heap.size]? =some (.cells (qio.map (fun x=>Value.string ⟨x.toArray⟩)).toArray 9 (0,0)):=zha _ _;have hr5:=hr4.grow (bal (Below.refl _ w4) (.cells (qio.map (fun x=>Value.string ⟨x.toArray⟩)).toArray 9 (0,0)));have hgv:w4.heap.size≠g:=by have:=hr4.lt;omega
     go_wp2_with fail;refine(q2s W _ g _ _ qio 29 rfl hr5 (by omega) hfb hgv (by decide) (by decide)).mono ?_;rintro e w7 ⟨y,hy,rfl,hr7,_⟩;have hyl:=q6z y hy;go_wp2_with fail;go_roundw
     case rel=>exact⟨m-1,(o++y)++[10],_,by go_num,by simp only[←Qn],by omega,by simp only[Yaa,Yau,Ybl];omega,by omega,hr7⟩
     case measure=>simp[intOf];omega
end Go.Proofs.YtmkjmancmiphfaaGreatDoor

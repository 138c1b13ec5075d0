/-
  The random source of the draws: pick and num return numbers in range, and change only the source.
-/
import Derived.Test.YtmkjmancmiphfaaGreatDoorRc01
namespace Go.Proofs.YtmkjmancmiphfaaGreatDoor
open Go.RowKit
theorem qst(a:Nat)(ha:a<9223372036854775808):(BitVec.ofInt 64 (a:Int)).toNat=a:=by
 rw[BitVec.ofInt_natCast,BitVec.toNat_ofNat];exact Nat.mod_eq_of_lt (by omega)
theorem qu0(a b:Nat)(ha:a<9223372036854775808)(hb:b<9223372036854775808):bits .xor .i64 (a:Int) (b:Int)=((a ^^^ b:Nat):Int):=by
 have hx:a ^^^ b<2^63:=Nat.xor_lt_two_pow (by omega) (by omega);show IntKind.i64.wrap ((BitVec.ofInt 64 (a:Int) ^^^ BitVec.ofInt 64 (b:Int)).toNat:Int)=_;rw[BitVec.toNat_xor,qst a ha,qst b hb,IntKind.wrap_i64];omega
def BS(w:World)(A:ZA)(l:List Int):Prop:=
 (∀x∈l,0≤x∧x≤255)∧(0<l.length→ ∃b off,A=some ⟨b,off,none⟩∧b<w.heap.size∧ ∀j u,l[j]? =some u→w.cell? ⟨b,off+j,none⟩=some (.int .u8 u))
structure RD (W w:World) (g p:Nat):Prop where
 below:Below W.heap.size W w
 new:W.heap.size≤g
 src: ∃(A:ZA) (l:List Int) (c:Nat),w.heap[g]? =some (.cells #[.slice A l.length c,.int .i64 (p:Int)] 98 (0,0))∧BS W A l∧l.length≤2000
 small:p≤1099511627776
theorem RD.lt{W w:World}{g p:Nat}(h:RD W w g p):g<w.heap.size:=by
 obtain⟨A,l,c,hh,_⟩:=h.src;exact(bl hh)
theorem qp0{w:World}{g:Nat}{p:Addr}(hp:p.block=g)(u:Value):w.grownBy (w.setCell p u) (some g):=
 ⟨rfl,rfl,rfl,by simp[World.setCell],fun k _ hne=>Yal w p u k (fun e=>hne (by rw[e,hp]))⟩
theorem qq6{a w:World}{row:Option Nat}(h:a.grownBy w row)(n:Nat):a.grownBy (w.drewN n) row:=⟨h.os,h.tape,h.output,h.size,h.block⟩
theorem Vo{a b c:World}{row:Option Nat}(h:a.grownBy b row)(k:b.grownBy c row):a.grownBy c row:=
 ⟨k.os.trans h.os,k.tape.trans h.tape,k.output.trans h.output,zll h.size k.size,fun i hi hne=>(k.block i (zlt hi h.size) hne).trans (h.block i hi hne)⟩
theorem qir{a w:World}{row:Option Nat}(h:a.grownBy w row)(o:Obj):a.grownBy (w.alloc o) row:=Vo h (World.grownBy_alloc w o row)
theorem qau{base:Nat}{w w':World}{t:TypeId}{size:Nat}{v:Value}{n:Nat}{xs:List Value}(h:w.ownsRow base t size v n xs){g:Nat}(hg:w.grownBy w' (some g)){cs:Array Value}{t':TypeId}(hh:w.heap[g]? =some (.cells cs t' (0,0)))(hne:t≠t'):w'.ownsRow base t size v n xs:=by
 refine h.kept hg (.inr ?_);rcases h.2 with⟨rfl,_⟩|⟨g',cap,cur,rfl,_,hh',_⟩
 ·simp[Value.ownBlock]
 ·intro he;have:g'=g:=by simpa [Value.ownBlock] using he
  subst this;rw[hh] at hh';injection hh' with hh'
  injection hh' with _ e
  exact hne e.symm
theorem qzq(a n:Nat)(x:Int)(h:x=(a:Int)):(x % (n:Int)).toNat=a % n:=by
 subst h;rw[←Int.natCast_emod,Yam]
theorem q24(p n a b:Nat)(hk:p≤1099511627776)(ha:a≤255)(hb:b≤255)(m:Int)(hm:1≤m):
  0≤(bits BinOp.xor IntKind.i64 (wrap64 ((a:Int)*131+(b:Int)*1117+(p:Int)*29+wrap64 (wrap64 ((p:Int)/(n:Int))*53)))
     (wrap64 ((wrap64 ((a:Int)*131+(b:Int)*1117+(p:Int)*29+wrap64 (wrap64 ((p:Int)/(n:Int))*53))).tdiv 64))).tmod m∧
   (bits BinOp.xor IntKind.i64 (wrap64 ((a:Int)*131+(b:Int)*1117+(p:Int)*29+wrap64 (wrap64 ((p:Int)/(n:Int))*53)))
     (wrap64 ((wrap64 ((a:Int)*131+(b:Int)*1117+(p:Int)*29+wrap64 (wrap64 ((p:Int)/(n:Int))*53))).tdiv 64))).tmod m<m:=by
 have hq:p/n≤p:=Nat.div_le_self _ _;have e0:(p:Int)/(n:Int)=((p/n:Nat):Int):=by simp
 rw[e0];generalize p/n=q at*;rw[Ycf (q:Int) (by omega),Ycf ((q:Int)*53) (by omega),Ycf ((a:Int)*131+(b:Int)*1117+(p:Int)*29+(q:Int)*53) (by omega)];generalize hx:a*131+b*1117+p*29+q*53=x;have hxl:x<9223372036854775808:=by omega
 have ex:(a:Int)*131+(b:Int)*1117+(p:Int)*29+(q:Int)*53=(x:Int):=by omega
 rw[ex,Yby (by omega),Ycf _ (by omega)];have e:((x:Int)/64)=((x/64:Nat):Int):=by omega
 rw[e,qu0 x (x/64) hxl (by omega)];rw[Int.tmod_eq_emod_of_nonneg (by omega)];exact⟨Int.emod_nonneg _ (by omega),Int.emod_lt_of_pos _ (by omega)⟩
def q25(W w:World)(g p:Nat)(n:Int)(e:Ending)(w':World):Prop:= ∃x:Int,e=.returned (.int .i64 x)∧0≤x∧(1≤n→x<n)∧(n<1→x=0)∧RD W w' g (p+1)∧w.grownBy w' (some g)
theorem RD.drewN{W w:World}{g p:Nat}(h:RD W w g p)(n:Nat):RD W (w.drewN n) g p:=⟨bdr h.below n,h.new,h.src,h.small⟩
theorem RD.step{W w w':World}{g p:Nat}(h:RD W w g p)(hp:p+1≤1099511627776)(n:Nat)(hw:w'=(w.setCell ⟨g,1,none⟩ (.int .i64 ((p:Int)+1))).drewN n):RD W w' g (p+1)∧w.grownBy w' (some g):=by
 obtain⟨A,l,c,hh,hb,hl⟩:=h.src;subst hw;refine⟨⟨bdr (h.below.setCell h.new _) n,h.new,⟨A,l,c,?_,hb,hl⟩,hp⟩,qq6 (qp0 rfl _) n⟩;show(w.setCell ⟨g,1,none⟩ (.int .i64 ((p:Int)+1))).heap[g]? =_;rw[Yan w g 1 _ _ _ hh];simp
theorem qa9(W w:World)(g p:Nat)(n:Int)(h:RD W w g p)(hp:p+1≤1099511627776):
  Calls Tryz.prog 25 #[.pointer (some ⟨g,0,none⟩),.int .i64 n] w (q25 W w g p n):=by
 obtain⟨A,l,c,hh,hb,hl⟩:=h.src;have c0:w.cell? ⟨g,0,none⟩=some (.slice A l.length c):=by rw[Ybf w g 0 _ _ _ hh];rfl
 have c1:w.cell? ⟨g,1,none⟩=some (.int .i64 (p:Int)):=by rw[Ybf w g 1 _ _ _ hh];rfl
 have f1: ∀i,w.frozen? ⟨g,i,none⟩=false:=fun i=>frozen_of_row w g i _ _ hh
 by_cases h1:1≤n
 case neg=>
  go_enter Tryz.func25,Tryz.ntmps25;go_wp2
  go_ret;exact⟨0,rfl,by omega,fun h'=>by omega,fun _=>rfl,h.step hp 0 rfl⟩
 by_cases h0:0<l.length
 case neg=>
  have hz:((l.length:Int)==0)=true:=Yef.2 (by omega);go_enter Tryz.func25,Tryz.ntmps25;go_wp2
  go_ret;exact⟨0,rfl,by omega,fun h'=>by omega,fun _=>rfl,h.step hp 0 rfl⟩
 have hz:((l.length:Int)==0)=false:=beq_eq_false_iff_ne.2 (by omega);obtain⟨b,off,rfl,hbl,hc⟩:=hb.2 h0;have hbg:b≠g:=by have:=h.new;omega
 have hcell: ∀j (hj:j<l.length),w.cell? ⟨b,off+j,none⟩=some (.int .u8 l[j]):=fun j hj=>(h.below.cell (p:=⟨b,off+j,none⟩) hbl).trans (hc j _ (Ybb hj))
 by_cases hk:p<l.length
 ·have r0:=hb.1 _ (Yao hk);obtain⟨r0,r1⟩:=r0;have d0:=hcell p hk;clear hcell hc;go_enter Tryz.func25,Tryz.ntmps25;go_wp2
  go_ret;refine⟨_,rfl,Int.emod_nonneg _ (by omega),fun _=>Int.emod_lt_of_pos _ (by omega),fun h'=>by omega,h.step hp 0 rfl⟩
 ·go_enter Tryz.func25,Tryz.ntmps25;have g0:=hcell (p % l.length) (Nat.mod_lt _ h0);have g1:=hcell ((p*7+3) % l.length) (Nat.mod_lt _ h0);have r0:=hb.1 _ (Yao (Nat.mod_lt p h0));have r1:=hb.1 _ (Yao (Nat.mod_lt (p*7+3) h0));obtain⟨a,ha⟩: ∃a:Nat,l[p % l.length]'(Nat.mod_lt _ h0)=(a:Int):=⟨_,(Yay r0.1).symm⟩;obtain⟨b',hb'⟩: ∃b:Nat,l[(p*7+3) % l.length]'(Nat.mod_lt _ h0)=(b:Int):=⟨_,(Yay r1.1).symm⟩;rw[ha] at g0 r0;rw[hb'] at g1 r1;have HB:=zhi hb;clear ha hb' hcell hc hb;have hst:=h.step hp 0 rfl;have k0:(w.setCell ⟨g,1,none⟩ (.int .i64 ((p:Int)+1))).cell? ⟨g,0,none⟩=some (.slice (some ⟨b,off,none⟩) l.length c):=by rw[World.cell?_setCell_other _ _ _ _ (by simp)];exact c0
  have k1:(w.setCell ⟨g,1,none⟩ (.int .i64 ((p:Int)+1))).cell? ⟨b,off+p % l.length,none⟩=some (.int .u8 a):=by rw[World.cell?_setCell_other _ _ _ _ (by simp)];exact g0
  have k2:(w.setCell ⟨g,1,none⟩ (.int .i64 ((p:Int)+1))).cell? ⟨b,off+(p*7+3) % l.length,none⟩=some (.int .u8 b'):=by rw[World.cell?_setCell_other _ _ _ _ (by simp)];exact g1
  go_wp2
  change Code.wp _ _ _ _ _;generalize w.setCell ⟨g,1,none⟩ (.int .i64 ((p:Int)+1))=w1 at*;clear g0 g1 c0 c1 f1;refine wp_region_quiet_lit (by kernel_rfl) (by kernel_rfl) ?_;have q0:(0:Int)≤(p:Int) % l.length:=Int.emod_nonneg _ (by omega);have q1:(p:Int) % l.length<l.length:=Int.emod_lt_of_pos _ (by omega);have q2:((p:Int) % l.length).toNat=p % l.length:=qzq _ _ _ rfl;have q3:(0:Int)≤((p:Int)*7+3) % l.length:=Int.emod_nonneg _ (by omega);have q4:((p:Int)*7+3) % l.length<l.length:=Int.emod_lt_of_pos _ (by omega);have q5:(((p:Int)*7+3) % l.length).toNat=(p*7+3) % l.length:=qzq _ _ _ (by omega);repeat go_big_quiet_step (fail)
  refine wpQuiet_nil ?_;intro _ hw';obtain⟨nq,hw''⟩:=hw';subst hw'';go_wp2
  go_ret;have hv:=q24 p l.length a b' (by omega) (by omega) (by omega) n h1;exact⟨_,rfl,hv.1,fun _=>hv.2,fun h'=>by omega,hst.1.drewN nq,qq6 hst.2 nq⟩
theorem RD.grow{W w w':World}{g p:Nat}(h:RD W w g p)(hg:Below w.heap.size w w'):RD W w' g p:=by
 have hl:=h.lt;obtain⟨A,l,c,hh,hb,hl2⟩:=h.src;exact⟨Qa h.below hg,h.new,⟨A,l,c,(hg.block g hl).trans hh,hb,hl2⟩,h.small⟩
theorem qq7(W w:World)(g p:Nat)(A:ZA)(l:List Int)(c:Nat)(h:RD W w g p)(hp:p+1≤1099511627776)(hl:IS w A l)(h0:0<l.length)(hlm:l.length≤2000000)
  (hne: ∀a,A=some a→a.block≠g):
  Calls Tryz.prog 27 #[.pointer (some ⟨g,0,none⟩),.slice A l.length c] w fun e w'=> ∃x,x∈l∧e=.returned (.int .i64 x)∧RD W w' g (p+1)∧w.grownBy w' (some g):=by
 obtain⟨b,off,rfl,hbl,hc⟩:=hl h0;have hbg:=hne _ rfl;go_enter Tryz.func27,Tryz.ntmps27;go_wp2_with fail;refine(qa9 W w g p l.length h hp).mono ?_;rintro e w1 ⟨x,rfl,hx0,hx1,_,hr,hg⟩;have hx1:=hx1 (by omega);obtain⟨k,rfl⟩: ∃k:Nat,x=(k:Int):=⟨x.toNat,(Yay hx0).symm⟩;have hk:k<l.length:=by omega
 have c0:=hg.cell (hc k _ (Ybb hk)) (by simp;exact hbg);clear hc;go_wp2
 go_ret;exact⟨_,Yao hk,rfl,hr,hg⟩
end Go.Proofs.YtmkjmancmiphfaaGreatDoor

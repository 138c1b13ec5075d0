/-
  FnScriptPrefix returns true for every code and every number of lines.
-/
import Derived.Test.YtmkjmancmiphfaaGreatDoorRc38
import Derived.Test.YtmkjmancmiphfaaGreatDoorRc41
import Derived.Test.YtmkjmancmiphfaaGreatDoorRc39
import Derived.Test.YtmkjmancmiphfaaGreatDoorTie
namespace Go.Proofs.YtmkjmancmiphfaaGreatDoor
set_option maxHeartbeats 8000000
set_option maxRecDepth 1000000
open Go.RowKit
theorem qwr{text:List UInt8}{cu:Nat}(hl:text.length≤20000)(h:cu=0∨(0<cu∧text[cu-1]? =some 10)):qqr (text.take cu) <+: qqr text:=by
 rcases h with rfl|⟨h0,h1⟩
 ·exact q4e text hl
 ·obtain⟨hk,he⟩:=List.getElem?_eq_some_iff.1 h1
  have e1:text.drop (cu-1)=10::text.drop cu:=by
   have:=Ybo hk;rw[he,show cu-1+1=cu by omega] at this;exact this
  have e:text=text.take (cu-1)++(10::[])++text.drop cu:=by
   rw[Yax,List.singleton_append,←e1,Yco]
  have e2:text.take cu=text.take (cu-1)++(10::[]):=by
   have:=Yad hk;rw[show cu-1+1=cu by omega,he] at this;exact this
  rw[e2];have K:=qy3 (text.take (cu-1)) (text.drop cu) (by rw[←e];exact hl);rw[←e] at K;exact K
theorem law_FnScriptPrefix(A0:ZA)(code:List Int)(c0:Nat)(A1:ZA)(more:List Int)(c1:Nat)(w:World)(h:BS w A0 code)(hl:code.length≤maxLen)(hlc:code.length≤c0)(_h1:BS w A1 more)(hl1:more.length≤maxLen)(_hlc1:more.length≤c1)(hM:Mz w.heap.size w):
  Calls Tryz.prog 5 #[.slice A0 code.length c0,.slice A1 more.length c1] w fun e w'=>e=.returned (.bool true)∧Below w.heap.size w w':=by
 have hl':=hl;have hl1':=hl1;unfold maxLen at hl' hl1';by_cases h1:code.length≤1048576
 case neg=>
  have h1I:(1048576:Int)<(code.length:Int):=by omega
  go_enter Tryz.func5,Tryz.ntmps5;go_wp2_with fail;go_ret;exact⟨rfl,br⟩
 by_cases h2:more.length≤1048576
 case neg=>
  have h1I: ¬(1048576:Int)<(code.length:Int):=by omega
  have h2I:(1048576:Int)<(more.length:Int):=by omega
  go_enter Tryz.func5,Tryz.ntmps5;go_wp2_with fail;go_ret;exact⟨rfl,br⟩
 have h1I: ¬(1048576:Int)<(code.length:Int):=by omega
 have h2I: ¬(1048576:Int)<(more.length:Int):=by omega
 have KD:=qk6 w A0 code c0 h hl hlc;clear h hl hlc hl' hl1 _hlc1 _h1;go_enter Tryz.func5,Tryz.ntmps5;go_wp2_with fail;refine KD.mono ?_;rintro e w1 ⟨text,rfl,htl,b1⟩;clear KD;have hM1:=(hM.keep b1).up b1.size;have KI:=fun(x:List UInt8) w h hx=>qin x hx w h
 have KS:=qim text (by omega);go_wp2_with fail;refine(KI text _ hM1 (by omega)).mono ?_;rintro e w2 ⟨rfl,b2⟩;have B2:=Qa b1 b2;have hM2:=(hM.keep B2).up B2.size;have HF:=zhi (fun cu=>qwr (text:=text) (cu:=cu));generalize hO:qqr text=out at KS HF⊢;have HO:=zhi hO;clear hO;have eqO:((ByteArray.mk out.toArray).toList==(ByteArray.mk out.toArray).toList)=true:=Yec _;go_wp2_with fail;refine(KS _).mono ?_;rintro e w3 ⟨rfl,b3⟩;have B3:=Qa B2 b3;have hM3:=(hM.keep B3).up B3.size;clear KS b1 b2 b3 hM1 hM2 B2 hM;go_wp2_with fail;go_loopw [7,8,9] (fun ln cv iv wr=> ∃k m cu:Nat,iv=.int .i64 (k:Int)∧ln=.int .i64 (m:Int)∧cv=.int .i64 (cu:Int)∧k≤text.length∧m≤k∧cu≤k∧Hid (cu=0∨(0<cu∧text[cu-1]? =some 10))∧wr=w3) (fun _ _ iv _=>text.length-(intOf iv).toNat)
 case atStart=>exact⟨0,0,0,rfl,rfl,rfl,by omega,by omega,by omega,.inl rfl,rfl⟩
 case round=>
  obtain⟨k,m,cu,rfl,rfl,rfl,hk,hm,hcu,hC,rfl⟩:=hrel;by_cases hkl:k<text.length
  ·have hkI:(k:Int)<(text.length:Int):=by omega
   have hsz:(ByteArray.mk text.toArray).size=text.length:=by rw[Go.Lib.size_eq]
   have hbx:=qgc text k hkl (by rw[hsz];exact hkl);obtain⟨bc,hbE⟩: ∃bc,text[k]=bc:=⟨_,rfl⟩;rw[hbE] at hbx;by_cases he:bc=10
   ·have e1:((bc.toNat:Int)==10)=true:=by rw[he];rfl
    have hC2:Hid (k+1=0∨(0<k+1∧text[k+1-1]? =some 10)):=.inr ⟨by omega,by rw[show k+1-1=k by omega,Ybb hkl,hbE,he]⟩;go_wp2_with fail
    ·go_roundw
     case rel=>exact⟨k+1,m+1,k+1,by go_num,by go_num,by go_num,by omega,by omega,by omega,hC2,by trivial⟩
     case measure=>simp[intOf];omega
    ·go_roundw
     case rel=>exact⟨k+1,m+1,cu,by go_num,by go_num,rfl,by omega,by omega,by omega,hC,by trivial⟩
     case measure=>simp[intOf];omega
   ·have e1:((bc.toNat:Int)==10)=false:=by
     rw[beq_eq_false_iff_ne];intro e;exact he (UInt8.toNat_inj.1 (by have:(10:UInt8).toNat=10:=rfl;omega))
    go_wp2_with fail;go_roundw
    case rel=>exact⟨k+1,m,cu,by go_num,rfl,rfl,by omega,by omega,by omega,hC,by trivial⟩
    case measure=>simp[intOf];omega
  ·obtain rfl:k=text.length:=by omega
   have hcA:(ByteArray.mk text.toArray).extract 0 cu=ByteArray.mk (text.take cu).toArray:=by rw[qcu];simp
   have KT:=KI (text.take cu) wr hM3 (by rw[Yap];omega);by_cases hlg:20000<text.length
   ·have hlI:(20000:Int)<(text.length:Int):=by omega
    generalize text.take cu=xa at hcA KT;generalize qqr xa=fs at KT;go_wp2_with fail;refine KT.mono ?_;rintro e w4 ⟨rfl,b4⟩;have B4:=Qa B3 b4;go_wp2_with fail;go_ret;exact⟨rfl,B4⟩
   ·have hlI: ¬(20000:Int)<(text.length:Int):=by omega
    have hp:=HF.out cu (by omega) hC.out;generalize text.take cu=xa at hcA KT hp;generalize qqr xa=fs at KT hp;have hfl:fs.length≤out.length:=hp.length_le;have hflI:(fs.length:Int)≤(out.length:Int):=by omega
    have hft:out.take fs.length=fs:=(List.prefix_iff_eq_take.1 hp).symm;have hcB:(ByteArray.mk out.toArray).extract 0 fs.length=ByteArray.mk fs.toArray:=by rw[qcu];simp[hft]
    have eqF:((ByteArray.mk fs.toArray).toList==(ByteArray.mk fs.toArray).toList)=true:=Yec _;clear hft hp;go_wp2_with fail;refine KT.mono ?_;rintro e w4 ⟨rfl,b4⟩;have B4:=Qa B3 b4;go_wp2_with fail;go_ret;exact⟨rfl,B4⟩
open Go.ChangeShapes Go.WideShapes Go.ChangeAt Go.WideElems Go.Deep
theorem FnScriptPrefix_lifted(os:Os)(started:os.Started)(H:Type)(enc:TypeId×Value→H):
  ReturnsInHanded {} Tryz.checked os 5 .any (fun w args=>(Rows.fnScriptPrefixSpec.pre enc Tryz.prog Tryz.f5 [] false w args∧laidMetH Tryz.prog Rows.fnScriptPrefixRow.laid w)∧sizedMet enc Tryz.prog Tryz.f5 (OpenSpec.ofChange Rows.fnScriptPrefixSpec) false w args) (Rows.fnScriptPrefixSpec.post enc Tryz.prog Tryz.f5 false true false false):=by
 refine qot (C:=Tryz.checked) (X:=fun w _=>laidMetH Tryz.prog Rows.fnScriptPrefixRow.laid w) (fun _ _ _ hh h=>h.of_heap hh) own started (by as_aux_lemma=>kernel_rfl) Tryz.func5
  (ChangeSpec.witness_shaped (enc:=enc) (C:=Tryz.checked) (os:=os) (X:=fun w _=>laidMetH Tryz.prog Rows.fnScriptPrefixRow.laid w) false (World.laidAll Tryz.prog os Rows.fnScriptPrefixRow.laid) #[.slice none 0 0,.slice none 0 0] 8 (World.laidAll_os _ _ _) (q2n os) (by as_aux_lemma=>kernel_rfl) (by as_aux_lemma=>kernel_rfl) (by as_aux_lemma=>kernel_rfl) (metS os _)) ?_
 intro W base args ds gs before hval0 hW hL hsh;have hM:Mz W.heap.size W:=q7t hL hsh (by as_aux_lemma=>rfl) (by as_aux_lemma=>rfl) (by as_aux_lemma=>rfl);have hval: ∀(j:Nat) t v,Tryz.f5.params[j]? =some t→args[j]? =some v→Value.okWide Tryz.prog W .any base t v:=hval0;have hW':=hW;obtain⟨p,q,hA0,hV,rfl,_,_⟩:=hW;have hA:DataW.TrodAll enc Tryz.prog W 0 (fun _=>true) true Tryz.f5.params.toList args.toList ds p:=hA0;rw[Tryz.params5] at hA hval;obtain⟨v0,v1,d0,d1,p0,p1,rfl,rfl,rfl,h0,h1⟩:=trodAll_two hA;obtain⟨rfl,rfl⟩:=trodVars_none hV;clear hA0 hval0;simp only[Ybx] at hW';have hlt: ∀x∈p0++p1,x.block<W.heap.size:=fun x hx=>hW'.lt x (by simpa using hx)
 have hargs: ∀W',Below W.heap.size W W'→DataW.TrodAll enc Tryz.prog W' 0 (fun b=>decide (b<W.heap.size)) true [22,22] [v0,v1] [d0,d1] (p0++p1):=fun W' hb=>
  trodAll_mk2 (Below.trod qou (by as_aux_lemma=>kernel_rfl) (of_decide_eq_true (by as_aux_lemma=>kernel_rfl)) h0 hb (fun x hx=>hlt x (by simp[hx]))) (Below.trod qou (by as_aux_lemma=>kernel_rfl) (of_decide_eq_true (by as_aux_lemma=>kernel_rfl)) h1 hb (fun x hx=>hlt x (by simp[hx])))
 obtain⟨A0,l0,c0,rfl,hlc0,hlm0,hlw0,hl0⟩:=quq Tryz.underlying22 Tryz.underlying5 (by as_aux_lemma=>kernel_rfl) (okWide_slice Tryz.underlying22 (hval 0 _ v0 rfl rfl)) h0;obtain⟨A1,l1,c1,rfl,hlc1,hlm1,hlw1,hl1⟩:=quq Tryz.underlying22 Tryz.underlying5 (by as_aux_lemma=>kernel_rfl) (okWide_slice Tryz.underlying22 (hval 1 _ v1 rfl rfl)) h1;refine(law_FnScriptPrefix A0 l0 c0 A1 l1 c1 W ⟨fun x hx=>q2q (hlw0 x hx),hl0⟩ hlm0 hlc0 ⟨fun x hx=>q2q (hlw1 x hx),hl1⟩ hlm1 hlc1 hM).mono fun e W' ⟨he,hb⟩=>?_
 subst he;exact⟨_,rfl,⟨_,_,_,[],_,[],hW',trodAll_mk1 (shut_bool Tryz.underlying4 _),hargs W' hb,rfl,hb.frame _,fun h=>by cases h⟩⟩
theorem FnScriptPrefix_joined:joinedFacts Tryz.prog 5 Tryz.f5 Rows.fnScriptPrefixSpec Rows.fnScriptPrefixRow=true:=
 qup (by as_aux_lemma=>kernel_rfl) qou qmn (by as_aux_lemma=>kernel_rfl) (by as_aux_lemma=>kernel_rfl) (by as_aux_lemma=>kernel_rfl) qx2 (by as_aux_lemma=>kernel_rfl) qx3 (by as_aux_lemma=>kernel_rfl) (by as_aux_lemma=>kernel_rfl) (by as_aux_lemma=>kernel_rfl) (by as_aux_lemma=>kernel_rfl) (by as_aux_lemma=>kernel_rfl) (by as_aux_lemma=>kernel_rfl) (by as_aux_lemma=>kernel_rfl) (by as_aux_lemma=>kernel_rfl) (by as_aux_lemma=>kernel_rfl) (by as_aux_lemma=>kernel_rfl) (by as_aux_lemma=>kernel_rfl) (by as_aux_lemma=>kernel_rfl) (by as_aux_lemma=>kernel_rfl) (by rw[q2p];rfl) (by as_aux_lemma=>kernel_rfl) qx4 qx0 (by rw[qx1];rfl) (by rw[q2o];rfl) (by as_aux_lemma=>kernel_rfl) (by as_aux_lemma=>kernel_rfl) (by as_aux_lemma=>kernel_rfl) (by as_aux_lemma=>kernel_rfl)
theorem FnScriptPrefix_holds:Rows.FnScriptPrefixSaid:=
 OpenClaim.holds_of_wide 5 Tryz.f5 rfl rfl rfl rfl rfl rfl rfl ⟨rfl,rfl,rfl,rfl,rfl⟩ rfl rfl rfl rfl rfl (by as_aux_lemma=>kernel_rfl) Tryz.func5 FnScriptPrefix_joined
  (of_decide_eq_true (by as_aux_lemma=>kernel_rfl)) (by unfold Func.isWrapper;rw[Yaq (by decide+kernel)];exact⟨rfl,rfl⟩)
  (fun os started H enc _=>FnScriptPrefix_lifted os started H enc)
theorem FnScriptPrefix_card:Rows.FnScriptPrefixCardSaid:=
 Claim7.holds_tied_plain_at .later [] [.data,.data,.data,.data,.sentinel,.sentinel,.pinned] true (true, "74102130d830dfba4418ea06ae63a0b6dcec1dcf8107afcd9dc9897d072acdcc") true
  FnScriptPrefix_holds (fun _ h=>by cases h) (by as_aux_lemma=>kernel_rfl) (fun _ h=>by cases h) fnScriptPrefix_row_tie rfl ⟨rfl,rfl⟩ (by as_aux_lemma=>kernel_rfl) rfl
  (fun f fn hf hfn=>by
   obtain rfl:f=5:=Option.some.inj ((show Tryz.prog.funcNamed "loop.example/dualmodes/laws.FnScriptPrefix" =some 5 by as_aux_lemma=>kernel_rfl).symm.trans hf)|>.symm;obtain rfl:fn=Tryz.f5:=(Option.some.inj (Tryz.func5.symm.trans hfn)).symm
   exact⟨q5d,fun j t ht=>by
    rw[Tryz.params5] at ht;have hm:t∈[22,22]:=by simpa using Array.mem_of_getElem? ht
    have hall:([22,22].all fun u=> !Tryz.prog.wantsStandIn u)=true:=by as_aux_lemma=>kernel_rfl
    exact(show Tryz.prog.wantsStandIn t=false by simpa using Yaz.1 hall t hm)⟩)
  (by as_aux_lemma=>kernel_rfl)
#print axioms FnScriptPrefix_card
end Go.Proofs.YtmkjmancmiphfaaGreatDoor

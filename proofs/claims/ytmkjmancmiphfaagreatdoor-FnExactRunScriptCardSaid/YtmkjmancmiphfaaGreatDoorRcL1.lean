/-
  FnExactRunScript returns true for every text.
-/
import Derived.Test.YtmkjmancmiphfaaGreatDoorRc38
import Derived.Test.YtmkjmancmiphfaaGreatDoorRc39
import Derived.Test.YtmkjmancmiphfaaGreatDoorRc40
import Derived.Test.YtmkjmancmiphfaaGreatDoorTie
namespace Go.Proofs.YtmkjmancmiphfaaGreatDoor
set_option maxHeartbeats 8000000
set_option maxRecDepth 1000000
open Go.RowKit
theorem law_FnExactRunScript(x:ByteArray)(w:World)(hx:x.size≤maxLen)(hM:Mz w.heap.size w):
  Calls Tryz.prog 4 #[.string x] w fun e w'=>e=.returned (.bool true)∧Below w.heap.size w w':=by
 obtain⟨text,rfl⟩: ∃text:List UInt8,x=⟨text.toArray⟩:=⟨x.data.toList,rfl⟩;have hsz:(ByteArray.mk text.toArray).size=text.length:=Lib.size_eq _;rw[hsz] at hx;unfold maxLen at hx;by_cases hlong:1048576<text.length
 ·have hlI:(1048576:Int)<(text.length:Int):=by omega
  go_enter Tryz.func4,Tryz.ntmps4;go_wp2_with fail;go_ret;exact⟨rfl,br⟩
 ·have hlI: ¬(1048576:Int)<(text.length:Int):=by omega
  have KS:=fun w=>qim text (by omega) w
  have KI:=fun w h=>qin text (by omega) w h
  generalize qqr text=R at KS KI;have eqF:((ByteArray.mk R.toArray).toList==(ByteArray.mk R.toArray).toList)=true:=Yec _;go_enter Tryz.func4,Tryz.ntmps4;go_wp2_with fail;refine(KS _).mono ?_;rintro e w1 ⟨rfl,b1⟩;go_wp2_with fail;refine(KI _ ((hM.keep b1).up b1.size)).mono ?_;rintro e w2 ⟨rfl,b2⟩;have B2:=Qa b1 b2;go_wp2_with fail;go_ret;exact⟨rfl,B2⟩
open Go.ChangeShapes Go.WideShapes Go.ChangeAt Go.WideElems Go.Deep
theorem FnExactRunScript_lifted(os:Os)(started:os.Started)(H:Type)(enc:TypeId×Value→H):
  ReturnsInHanded {} Tryz.checked os 4 .any (fun w args=>(Rows.fnExactRunScriptSpec.pre enc Tryz.prog Tryz.f4 [] false w args∧laidMetH Tryz.prog Rows.fnExactRunScriptRow.laid w)∧sizedMet enc Tryz.prog Tryz.f4 (OpenSpec.ofChange Rows.fnExactRunScriptSpec) false w args) (Rows.fnExactRunScriptSpec.post enc Tryz.prog Tryz.f4 false true false false):=by
 refine qot (C:=Tryz.checked) (X:=fun w _=>laidMetH Tryz.prog Rows.fnExactRunScriptRow.laid w) (fun _ _ _ hh h=>h.of_heap hh) own started (by as_aux_lemma=>kernel_rfl) Tryz.func4
  (ChangeSpec.witness_shaped (enc:=enc) (C:=Tryz.checked) (os:=os) (X:=fun w _=>laidMetH Tryz.prog Rows.fnExactRunScriptRow.laid w) false (World.laidAll Tryz.prog os Rows.fnExactRunScriptRow.laid) #[.string ByteArray.empty] 8 (World.laidAll_os _ _ _) (q2n os) (by as_aux_lemma=>kernel_rfl) (by as_aux_lemma=>kernel_rfl) (by as_aux_lemma=>kernel_rfl) (metS os _)) ?_
 intro W base args ds gs before hval0 hW hL hsh;have hM:Mz W.heap.size W:=q7t hL hsh (by as_aux_lemma=>rfl) (by as_aux_lemma=>rfl) (by as_aux_lemma=>rfl);have hval: ∀(j:Nat) t v,Tryz.f4.params[j]? =some t→args[j]? =some v→Value.okWide Tryz.prog W .any base t v:=hval0;have hW':=hW;obtain⟨p,q,hA0,hV,rfl,_,_⟩:=hW;have hA:DataW.TrodAll enc Tryz.prog W 0 (fun _=>true) true Tryz.f4.params.toList args.toList ds p:=hA0;rw[Tryz.params4] at hA hval;obtain⟨v0,d0,rfl,rfl,h0⟩:=trodAll_one hA;obtain⟨rfl,rfl⟩:=trodVars_none hV;clear hA0 hval0;simp only[Ybx] at hW';have hlt: ∀x∈p,x.block<W.heap.size:=fun x hx=>hW'.lt x (by simpa using hx)
 have hargs: ∀W',Below W.heap.size W W'→DataW.TrodAll enc Tryz.prog W' 0 (fun b=>decide (b<W.heap.size)) true [9] [v0] [d0] (p):=fun W' hb=>
  trodAll_mk1 (Below.trod qou (by as_aux_lemma=>kernel_rfl) (of_decide_eq_true (by as_aux_lemma=>kernel_rfl)) h0 hb (fun x hx=>hlt x (by simp[hx])))
 obtain⟨x0,rfl,_,_,wx0⟩:=Go.ChangeMaps.open_string Tryz.underlying9 (hval 0 _ v0 rfl rfl) h0;refine(law_FnExactRunScript x0 W wx0 hM).mono fun e W' ⟨he,hb⟩=>?_
 subst he;exact⟨_,rfl,⟨_,_,_,[],_,[],hW',trodAll_mk1 (shut_bool Tryz.underlying4 _),hargs W' hb,rfl,hb.frame _,fun h=>by cases h⟩⟩
theorem FnExactRunScript_joined:joinedFacts Tryz.prog 4 Tryz.f4 Rows.fnExactRunScriptSpec Rows.fnExactRunScriptRow=true:=
 qup (by as_aux_lemma=>kernel_rfl) qou qmn (by as_aux_lemma=>kernel_rfl) (by as_aux_lemma=>kernel_rfl) (by as_aux_lemma=>kernel_rfl) qx2 (by as_aux_lemma=>kernel_rfl) qx3 (by as_aux_lemma=>kernel_rfl) (by as_aux_lemma=>kernel_rfl) (by as_aux_lemma=>kernel_rfl) (by as_aux_lemma=>kernel_rfl) (by as_aux_lemma=>kernel_rfl) (by as_aux_lemma=>kernel_rfl) (by as_aux_lemma=>kernel_rfl) (by as_aux_lemma=>kernel_rfl) (by as_aux_lemma=>kernel_rfl) (by as_aux_lemma=>kernel_rfl) (by as_aux_lemma=>kernel_rfl) (by as_aux_lemma=>kernel_rfl) (by as_aux_lemma=>kernel_rfl) (by rw[q2p];rfl) (by as_aux_lemma=>kernel_rfl) qx4 qx0 (by rw[qx1];rfl) (by rw[q2o];rfl) (by as_aux_lemma=>kernel_rfl) (by as_aux_lemma=>kernel_rfl) (by as_aux_lemma=>kernel_rfl) (by as_aux_lemma=>kernel_rfl)
theorem FnExactRunScript_holds:Rows.FnExactRunScriptSaid:=
 OpenClaim.holds_of_wide 4 Tryz.f4 rfl rfl rfl rfl rfl rfl rfl ⟨rfl,rfl,rfl,rfl,rfl⟩ rfl rfl rfl rfl rfl (by as_aux_lemma=>kernel_rfl) Tryz.func4 FnExactRunScript_joined
  (of_decide_eq_true (by as_aux_lemma=>kernel_rfl)) (by unfold Func.isWrapper;rw[Yaq (by decide+kernel)];exact⟨rfl,rfl⟩)
  (fun os started H enc _=>FnExactRunScript_lifted os started H enc)
theorem FnExactRunScript_card:Rows.FnExactRunScriptCardSaid:=
 Claim7.holds_tied_plain_at .later [] [.data,.data,.data,.data,.sentinel,.sentinel,.pinned] true (true, "74102130d830dfba4418ea06ae63a0b6dcec1dcf8107afcd9dc9897d072acdcc") true
  FnExactRunScript_holds (fun _ h=>by cases h) (by as_aux_lemma=>kernel_rfl) (fun _ h=>by cases h) fnExactRunScript_row_tie rfl ⟨rfl,rfl⟩ (by as_aux_lemma=>kernel_rfl) rfl
  (fun f fn hf hfn=>by
   obtain rfl:f=4:=Option.some.inj ((show Tryz.prog.funcNamed "loop.example/dualmodes/laws.FnExactRunScript" =some 4 by as_aux_lemma=>kernel_rfl).symm.trans hf)|>.symm;obtain rfl:fn=Tryz.f4:=(Option.some.inj (Tryz.func4.symm.trans hfn)).symm
   exact⟨q5d,fun j t ht=>by
    rw[Tryz.params4] at ht;have hm:t∈[9]:=by simpa using Array.mem_of_getElem? ht
    have hall:([9].all fun u=> !Tryz.prog.wantsStandIn u)=true:=by as_aux_lemma=>kernel_rfl
    exact(show Tryz.prog.wantsStandIn t=false by simpa using Yaz.1 hall t hm)⟩)
  (by as_aux_lemma=>kernel_rfl)
#print axioms FnExactRunScript_card
end Go.Proofs.YtmkjmancmiphfaaGreatDoor

/-
  Closed facts on the translation's head: what kind of cut it is; and the row's facts, one by one.
  The arguments of a law, opened: a slice of tasks, a slice of integers, a slice of bytes; and the row's end.
-/
import Derived.Test.YtmkjmancmiphfaaGreatDoorRb01
import Derived.Lib.SmallJoins
namespace Go.Proofs.YtmkjmancmiphfaaGreatDoor
set_option maxHeartbeats 8000000
set_option maxRecDepth 1000000
open Go.RowKit
section
open Go
theorem qtl(a r:List Char)(h:a.all (· !=Char.ofNat 32)=true):wordsSigns (a++Char.ofNat 32::r)=a::wordsSigns r:=by
 induction a with
 |nil=>rfl
 |cons c a ih=>
  simp only[List.all_cons,Bool.and_eq_true,bne_iff_ne,ne_eq] at h;have hc:=ih h.2;have h1: ¬c=Char.ofNat 32:=h.1;rw[List.cons_append,wordsSigns,hc];exact h1
theorem qnh: ∃ws,behindMainWord (wordsSigns Tryz.prog.initOrder.toList)=[Char.ofNat 99,Char.ofNat 117,Char.ofNat 116]::ws:=by
 have h:Tryz.prog.initOrder=String.ofList _:=rfl;rw[h,String.toList_ofList];generalize hL:(List.cons _ _:List Char)=L
 have e:L=L.take 7++Char.ofNat 32::((L.drop 8).take 64++Char.ofNat 32::((L.drop 73).take 3++Char.ofNat 32::L.drop 77)):=by
  subst hL;show _=_;kernel_rfl
 have a1:L.take 7=[Char.ofNat 104,Char.ofNat 97,Char.ofNat 114,Char.ofNat 110,Char.ofNat 101,Char.ofNat 115,Char.ofNat 115]:=by
  subst hL;show _=_;kernel_rfl
 have a2:((L.drop 8).take 64).all (· !=Char.ofNat 32)=true∧isSumSigns ((L.drop 8).take 64)=true:=by
  subst hL;exact⟨by show _=_;kernel_rfl,by show _=_;kernel_rfl⟩
 have a3:(L.drop 73).take 3=[Char.ofNat 99,Char.ofNat 117,Char.ofNat 116]:=by
  subst hL;show _=_;kernel_rfl
 rw[e,a1,a3,qtl _ _ (by kernel_rfl),qtl _ _ a2.1,qtl _ _ (by kernel_rfl)];generalize wordsSigns (L.drop 77)=ws;generalize(L.drop 8).take 64=B at*;exact⟨ws,by simp[behindMainWord,a2.2]⟩
theorem qvs(ws:List (List Char)):stripLifts liftWords ([Char.ofNat 99,Char.ofNat 117,Char.ofNat 116]::ws)=([],[Char.ofNat 99,Char.ofNat 117,Char.ofNat 116]::ws):=by
 simp[stripLifts,liftWords]
theorem q7d:Tryz.prog.laysLater=false:=by kernel_rfl
theorem qz9:Tryz.prog.bearsReflect=false:=by kernel_rfl
theorem q7e:Tryz.prog.doorFits []=true:=by kernel_rfl
theorem q5d(P:Program)(ws:List (List Char))(h:behindMainWord (wordsSigns P.initOrder.toList)=[Char.ofNat 99,Char.ofNat 117,Char.ofNat 116]::ws)(h1:P.laysLater=false)(h2:P.bearsReflect=false)(h3:P.doorFits []=true):P.mayEnter=true:=by
 unfold Program.mayEnter;rw[h];simp[h1,h2,h3,qvs]
theorem q5e(P:Program)(ws:List (List Char))(h:behindMainWord (wordsSigns P.initOrder.toList)=[Char.ofNat 99,Char.ofNat 117,Char.ofNat 116]::ws):P.liftsFinal=false:=by
 unfold Program.liftsFinal Program.headLifts;simp[h,qvs]
theorem q7f(P:Program)(ws:List (List Char))(h:behindMainWord (wordsSigns P.initOrder.toList)=[Char.ofNat 99,Char.ofNat 117,Char.ofNat 116]::ws):P.make=some .cut:=by
 unfold Program.make;rw[h];simp
theorem q5f:Tryz.prog.mayEnter=true:=by
 obtain⟨ws,h⟩:=qnh;exact q5d _ ws h q7d qz9 q7e
theorem q5g:Tryz.prog.liftsFinal=false:=by
 obtain⟨ws,h⟩:=qnh;exact q5e _ ws h
theorem q7g:Tryz.prog.make=some .cut:=by
 obtain⟨ws,h⟩:=qnh;exact q7f _ ws h
theorem q3b:laidOutB Tryz.prog=true:=by kernel_rfl
theorem qvt:mapsRowed Tryz.prog=true:=by kernel_rfl
theorem own:ownKnob Tryz.prog.godebug=none:=by kernel_rfl
theorem q5h:(Tryz.prog.stops==[])=true:=by kernel_rfl
theorem q5i:(Tryz.prog.stopKnobs==[])=true:=by kernel_rfl
theorem q7h:Tryz.prog.plainKeys=true:=by kernel_rfl
theorem q5j:Tryz.prog.stopsHeard=true:=by kernel_rfl
theorem q3c{P:Program}{f:FuncId}{fn:Func}{s:ChangeSpec}{c:OpenClaim}
  (k0:(c.wf (OpenSpec.ofChange s))=true)
  (k1:(laidOutB P)=true)
  (k2:(mapsRowed P)=true)
  (k3:(fn.params.all (P.readableRec ·))=true)
  (k4:(namedTie P c.named s.vars)=true)
  (k5:((c.stops==[]))=true)
  (k6:((P.stops==[]))=true)
  (k7:((c.knobs==[]))=true)
  (k8:((P.stopKnobs==[]))=true)
  (k9:((c.inPlace==P.inPlace f))=true)
  (k10:((c.unfollowed==P.unfollowed f))=true)
  (k11:((c.recurses==P.recurses f))=true)
  (k12:((c.named==P.varsNamed f))=true)
  (k13:((c.maps==(fn.params.toList++s.plain.varTypes P).any (P.mapsRec ·)))=true)
  (k14:((c.ifaces==(fn.params.toList++s.plain.varTypes P).any (P.ifacesRec ·)))=true)
  (k15:((c.mapsOut==P.mapsAmong fn.resultTypes.toList))=true)
  (k16:((c.loops==(fn.params.toList++s.plain.varTypes P).any (P.loopsFrom ·)))=true)
  (k17:((c.wideKeys==(fn.params.toList++s.plain.varTypes P++fn.resultTypes.toList).any (P.wideKeysFrom ·)))=true)
  (k18:(s.vars.all (P.varReadable ·))=true)
  (k19:(fn.resultTypes.all (fun t=>P.readableRec t&&decide (t<P.types.size)))=true)
  (k20:((c.ifacesOut==fn.resultTypes.toList.any (P.ifacesRec ·)))=true)
  (k21:((c.loopsOut==fn.resultTypes.toList.any (P.loopsFrom ·)))=true)
  (k22:((c.plainKeys==P.plainKeys))=true)
  (k23:(c.shortTexts.isNone)=true)
  (k24:(P.stopsHeard)=true)
  (k25:(P.mayEnter)=true)
  (k26:((c.lifted==P.liftsFinal))=true)
  (k27:((P.make==some c.make))=true)
  (k28:((c.kinds==(if c.domain.isEmpty then [] else fn.params.toList.map fun t=>match P.underlying t with|some (.int k)=>some k|_=>none)))=true)
  (k29:((c.pinned==c.pinnedBy))=true)
  (k30:((c.veiled==(fn.params.toList++s.plain.varTypes P++fn.resultTypes.toList).any (P.veiledRec ·)))=true)
  (k31:(c.veiledFits P fn.params.toList (fn.params.toList++s.plain.varTypes P++fn.resultTypes.toList))=true):joinedFacts P f fn s c=true:=by
 unfold joinedFacts;simp only[Bool.and_eq_true];exact⟨⟨⟨⟨⟨⟨⟨⟨⟨⟨⟨⟨⟨⟨⟨⟨⟨⟨⟨⟨⟨⟨⟨⟨⟨⟨⟨⟨⟨⟨⟨k0,k1⟩,k2⟩,k3⟩,k4⟩,k5⟩,k6⟩,k7⟩,k8⟩,k9⟩,k10⟩,k11⟩,k12⟩,k13⟩,k14⟩,k15⟩,k16⟩,k17⟩,k18⟩,k19⟩,k20⟩,k21⟩,k22⟩,k23⟩,k24⟩,k25⟩,k26⟩,k27⟩,k28⟩,k29⟩,k30⟩,k31⟩
end
section
open Go.ChangeShapes Go.WideShapes Go.ChangeAt Go.RowKit Go.WideElems Go.Deep
section
variable {H:Type} {enc:TypeId×Value→H} {P:Program} {w:World} {base:Nat} {spare:Nat→Bool} {held:Bool}
end
end
end Go.Proofs.YtmkjmancmiphfaaGreatDoor

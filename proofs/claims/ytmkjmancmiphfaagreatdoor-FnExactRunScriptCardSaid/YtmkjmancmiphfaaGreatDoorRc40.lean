/-
  Closed facts on the translation's head: what kind of cut it is; and the row's facts, one by one.
  The arguments of a law, opened: a slice of tasks, a slice of integers, a slice of bytes; and the row's end.
  AdmitAll: the reference's.
  l8Set; DrawHoldsBy, DrawMostHigh, DrawMostLow.
  DrawAdmitTask, DrawAdmitAll. (Printed by gen_draws2.py.)
-/
import Derived.Lib.SmallJoins
import Derived.Test.YtmkjmancmiphfaaGreatDoorRc31
import Derived.Test.YtmkjmancmiphfaaGreatDoorRc29
namespace Go.Proofs.YtmkjmancmiphfaaGreatDoor
set_option maxHeartbeats 8000000
set_option maxRecDepth 1000000
open Go.RowKit
section
open Go
theorem qsg(a r:List Char)(h:a.all (· !=Char.ofNat 32)=true):wordsSigns (a++Char.ofNat 32::r)=a::wordsSigns r:=by
 induction a with
 |nil=>rfl
 |cons c a ih=>
  simp only[List.all_cons,Yac,Ydm,ne_eq] at h;have hc:=ih h.2;have h1: ¬c=Char.ofNat 32:=h.1;rw[Ybw,wordsSigns,hc];exact h1
theorem ql6: ∃ws,behindMainWord (wordsSigns Tryz.prog.initOrder.toList)=[Char.ofNat 99,Char.ofNat 117,Char.ofNat 116]::ws:=by
 have h:Tryz.prog.initOrder=String.ofList _:=rfl;rw[h,String.toList_ofList];generalize hL:(List.cons _ _:List Char)=L
 have e:L=L.take 7++Char.ofNat 32::((L.drop 8).take 64++Char.ofNat 32::((L.drop 73).take 3++Char.ofNat 32::L.drop 77)):=by
  subst hL;show _=_;kernel_rfl
 have a1:L.take 7=[Char.ofNat 104,Char.ofNat 97,Char.ofNat 114,Char.ofNat 110,Char.ofNat 101,Char.ofNat 115,Char.ofNat 115]:=by
  subst hL;show _=_;kernel_rfl
 have a2:((L.drop 8).take 64).all (· !=Char.ofNat 32)=true∧isSumSigns ((L.drop 8).take 64)=true:=by
  subst hL;exact⟨by show _=_;kernel_rfl,by show _=_;kernel_rfl⟩
 have a3:(L.drop 73).take 3=[Char.ofNat 99,Char.ofNat 117,Char.ofNat 116]:=by
  subst hL;show _=_;kernel_rfl
 rw[e,a1,a3,qsg _ _ (by kernel_rfl),qsg _ _ a2.1,qsg _ _ (by kernel_rfl)];generalize wordsSigns (L.drop 77)=ws;generalize(L.drop 8).take 64=B at*;exact⟨ws,by simp[behindMainWord,a2.2]⟩
theorem quo(ws:List (List Char)):stripLifts liftWords ([Char.ofNat 99,Char.ofNat 117,Char.ofNat 116]::ws)=([],[Char.ofNat 99,Char.ofNat 117,Char.ofNat 116]::ws):=by
 simp[stripLifts,liftWords]
theorem q6w:Tryz.prog.laysLater=false:=by kernel_rfl
theorem qzi:Tryz.prog.bearsReflect=false:=by kernel_rfl
theorem q6x:Tryz.prog.doorFits []=true:=by kernel_rfl
theorem q40(P:Program)(ws:List (List Char))(h:behindMainWord (wordsSigns P.initOrder.toList)=[Char.ofNat 99,Char.ofNat 117,Char.ofNat 116]::ws)(h1:P.laysLater=false)(h2:P.bearsReflect=false)(h3:P.doorFits []=true):P.mayEnter=true:=by
 unfold Program.mayEnter;rw[h];simp[h1,h2,h3,quo]
theorem q41(P:Program)(ws:List (List Char))(h:behindMainWord (wordsSigns P.initOrder.toList)=[Char.ofNat 99,Char.ofNat 117,Char.ofNat 116]::ws):P.liftsFinal=false:=by
 unfold Program.liftsFinal Program.headLifts;simp[h,quo]
theorem q6y(P:Program)(ws:List (List Char))(h:behindMainWord (wordsSigns P.initOrder.toList)=[Char.ofNat 99,Char.ofNat 117,Char.ofNat 116]::ws):P.make=some .cut:=by
 unfold Program.make;rw[h];simp
theorem qx0:Tryz.prog.mayEnter=true:=by
 obtain⟨ws,h⟩:=ql6;exact q40 _ ws h q6w qzi q6x
theorem qx1:Tryz.prog.liftsFinal=false:=by
 obtain⟨ws,h⟩:=ql6;exact q41 _ ws h
theorem q2o:Tryz.prog.make=some .cut:=by
 obtain⟨ws,h⟩:=ql6;exact q6y _ ws h
theorem qou:laidOutB Tryz.prog=true:=by kernel_rfl
theorem qmn:mapsRowed Tryz.prog=true:=by kernel_rfl
theorem own:ownKnob Tryz.prog.godebug=none:=by kernel_rfl
theorem qx2:(Tryz.prog.stops==[])=true:=by kernel_rfl
theorem qx3:(Tryz.prog.stopKnobs==[])=true:=by kernel_rfl
theorem q2p:Tryz.prog.plainKeys=true:=by kernel_rfl
theorem qx4:Tryz.prog.stopsHeard=true:=by kernel_rfl
theorem qup{P:Program}{f:FuncId}{fn:Func}{s:ChangeSpec}{c:OpenClaim}
  (k0:(c.wf (OpenSpec.ofChange s))=true)
  (k1:(laidOutB P)=true)
  (k2:(mapsRowed P)=true)
  (k3:(fn.params.all (P.readableRec ·))=true)
  (k4:(namedTie P c.named s.vars)=true)
  (k5:((c.stops==[]))=true)
  (k6:((P.stops==[]))=true)
  (k7:((c.knobs==[]))=true)
  (k8:((P.stopKnobs==[]))=true)
  (k9:((c.inPlace==P.inPlace f))=true)
  (k10:((c.unfollowed==P.unfollowed f))=true)
  (k11:((c.recurses==P.recurses f))=true)
  (k12:((c.named==P.varsNamed f))=true)
  (k13:((c.maps==(fn.params.toList++s.plain.varTypes P).any (P.mapsRec ·)))=true)
  (k14:((c.ifaces==(fn.params.toList++s.plain.varTypes P).any (P.ifacesRec ·)))=true)
  (k15:((c.mapsOut==P.mapsAmong fn.resultTypes.toList))=true)
  (k16:((c.loops==(fn.params.toList++s.plain.varTypes P).any (P.loopsFrom ·)))=true)
  (k17:((c.wideKeys==(fn.params.toList++s.plain.varTypes P++fn.resultTypes.toList).any (P.wideKeysFrom ·)))=true)
  (k18:(s.vars.all (P.varReadable ·))=true)
  (k19:(fn.resultTypes.all (fun t=>P.readableRec t&&decide (t<P.types.size)))=true)
  (k20:((c.ifacesOut==fn.resultTypes.toList.any (P.ifacesRec ·)))=true)
  (k21:((c.loopsOut==fn.resultTypes.toList.any (P.loopsFrom ·)))=true)
  (k22:((c.plainKeys==P.plainKeys))=true)
  (k23:(c.shortTexts.isNone)=true)
  (k24:(P.stopsHeard)=true)
  (k25:(P.mayEnter)=true)
  (k26:((c.lifted==P.liftsFinal))=true)
  (k27:((P.make==some c.make))=true)
  (k28:((c.kinds==(if c.domain.isEmpty then [] else fn.params.toList.map fun t=>match P.underlying t with|some (.int k)=>some k|_=>none)))=true)
  (k29:((c.pinned==c.pinnedBy))=true)
  (k30:((c.veiled==(fn.params.toList++s.plain.varTypes P++fn.resultTypes.toList).any (P.veiledRec ·)))=true)
  (k31:(c.veiledFits P fn.params.toList (fn.params.toList++s.plain.varTypes P++fn.resultTypes.toList))=true):joinedFacts P f fn s c=true:=by
 unfold joinedFacts;simp only[Yac];exact⟨⟨⟨⟨⟨⟨⟨⟨⟨⟨⟨⟨⟨⟨⟨⟨⟨⟨⟨⟨⟨⟨⟨⟨⟨⟨⟨⟨⟨⟨⟨k0,k1⟩,k2⟩,k3⟩,k4⟩,k5⟩,k6⟩,k7⟩,k8⟩,k9⟩,k10⟩,k11⟩,k12⟩,k13⟩,k14⟩,k15⟩,k16⟩,k17⟩,k18⟩,k19⟩,k20⟩,k21⟩,k22⟩,k23⟩,k24⟩,k25⟩,k26⟩,k27⟩,k28⟩,k29⟩,k30⟩,k31⟩
end
section
open Go.ChangeShapes Go.WideShapes Go.ChangeAt Go.RowKit Go.WideElems Go.Deep
section
variable {H:Type} {enc:TypeId×Value→H} {P:Program} {w:World} {base:Nat} {spare:Nat→Bool} {held:Bool}
theorem quq{k:IntKind}{t e:TypeId}{v:Value}{d:DataW H}{ps:List MemPlace}(ht:P.underlying t=some (.slice e))(he:P.underlying e=some (.int k))(hC:P.cellsOf e=1)
  (hw: ∃a len cap,v=.slice a len cap) (h:DataW.Trod enc P w base spare held t v d ps):
  ∃(A:ZA) (l:List Int) (c:Nat),v=.slice A l.length c∧l.length≤c∧l.length≤maxLen∧(∀x∈l,(Lit.int k x).wf=true)∧
   (0<l.length→ ∃b off,A=some ⟨b,off,none⟩∧b<w.heap.size∧ ∀j u,l[j]? =some u→w.cell? ⟨b,off+j,none⟩=some (.int k u)):=by
 obtain⟨a0,len0,cap0,rfl⟩:=hw;obtain⟨fuel,hf⟩:=h;rcases open_ints ht he hC hf with⟨hcs,hx⟩|⟨a,len',cap',zs,hcs,_,hl,hm,hz,hx,hcell,hwz⟩
 ·simp[Value.cells] at hcs;obtain⟨rfl,rfl,rfl⟩:=hcs;exact⟨none,[],0,rfl,by simp,by simp,by simp,fun h=>by simp at h⟩
 ·simp[Value.cells] at hcs;obtain⟨rfl,rfl,rfl⟩:=hcs;have hlz:len0≤zs.length:=by rw[hz];split<;>omega
  have htl:(zs.take len0).length=len0:=by simp;omega
  refine⟨some a,zs.take len0,cap0,by rw[htl],by rw[htl];exact hl,by rw[htl];omega,fun x hx=>hwz x (Ydd hx),?_⟩;rw[htl];intro hpos;obtain⟨b,off,rfl,hc⟩:=ints_at hcell (by omega);have h0:=hc 0 (by omega);refine⟨b,off,rfl,World.block_lt_of_cell? w _ h0,fun j u hu=>?_⟩
  have hj:j<len0:=by
   have:=(List.getElem?_eq_some_iff.1 hu).1;rwa [htl] at this
  have h1:=hc j (by omega);rw[Ycl hj] at hu;rw[h1,List.getD,hu];rfl
theorem q2q{x:Int}(h:(Lit.int .u8 x).wf=true):0≤x∧x≤255:=by
 simpa [Lit.wf,IntKind.min,IntKind.max,IntKind.signed,IntKind.bits] using h
end
end
theorem qsh(W:World)(A:ZA)(l:List Int)(c:Nat)(w:World)(hW:Below W.heap.size W w)(h:BS W A l)(hl:l.length≤maxLen)(hlc:l.length≤c):
  Calls Tryz.prog 23 #[.slice A l.length c] w fun e w'=>e=.returned (.pointer (some ⟨w.heap.size,0,none⟩))∧RD W w' w.heap.size 0∧Below w.heap.size w w':=by
 unfold maxLen at hl;have hs:=hW.size;by_cases h2:l.length≤2000
 ·go_enter Tryz.func23,Tryz.ntmps23;go_wp2
  go_ret;exact⟨rfl,⟨bal hW _,hs,⟨A,l,c,zha w _,h,h2⟩,by omega⟩,bal br _⟩
 ·go_enter Tryz.func23,Tryz.ntmps23;go_wp2
  go_ret;have e:(l.take 2000).length=2000:=by simp;omega
  refine⟨rfl,⟨bal hW _,hs,⟨A,l.take 2000,c,?_,?_,by omega⟩,by omega⟩,bal br _⟩
  ·rw[e];exact zha w _
  ·refine⟨fun x hx=>h.1 x (Ydd hx),fun _=>?_⟩;obtain⟨b,off,hA,hb,hc⟩:=h.2 (by omega);exact⟨b,off,hA,hb,fun j u hu=>hc j u (by rw[Ydp] at hu;split at hu<;>simp_all)⟩
end Go.Proofs.YtmkjmancmiphfaaGreatDoor

/-
  A row that lists variables and reads one more of which the world's shape alone tells: the wrap, and what the script's walks ask of the first world.
  A row that lists the two error variables of the numbers' library: what the script's walks ask of the first world, at any text.
-/
import Derived.LaidSub
import Derived.LaidMore
import Derived.Lay
import Derived.Test.YtmkjmancmiphfaaGreatDoorCards
import Derived.Test.YtmkjmancmiphfaaGreatDoorRc36
import Derived.Stop.LaidErr
namespace Go.Proofs.YtmkjmancmiphfaaGreatDoor
open Go.RowKit
theorem qot{H:Type}{enc:TypeId×Value→H}{a:Assume}{C:Checked}{os:Os}{f:FuncId}{fn:Func}{s:ChangeSpec}{conds:List PathCond}{apart fresh handsOn again:Bool}{X:World→Array Value→Prop}
  (hX: ∀(w w':World) (args:Array Value),w.heap=w'.heap→X w args→X w' args)
  (own:ownKnob C.prog.godebug=none) (started:os.Started) (noInit:C.prog.inits.idxOf? f=none) (hfn:C.prog.funcs[f]? =some fn)
  (witness: ∃(w:World) (tape:Tape) (i:Input),w.os=os∧(w.forCall tape i).Shaped C.prog∧i.vars=[]∧Input.okWide C.prog (w.forCall tape i) .any w.heap.size f i∧
   ((s.pre enc C.prog fn conds apart (w.forCall tape i).memory i.args∧X (w.forCall tape i).memory i.args)∧sizedMet enc C.prog fn (OpenSpec.ofChange s) apart (w.forCall tape i).memory i.args)∧a.holds C.prog (lone (Frame.enter C.prog f i.args .normal) [] (w.forCall tape i)))
  (contract: ∀(W:World) (base:Nat) (args:Array Value) (ds gs:List (DataW H)) (before:List MemPlace),
   (∀(j:Nat) t v,fn.params[j]? =some t→args[j]? =some v→Value.okWide C.prog W .any base t v)→
   DataW.Whole enc C.prog fn.params.toList s.vars apart W args.toList ds gs before→
   X W args→W.ShapedOpen C.prog→
   Calls C.prog f args W fun e W'=> ∃v,e=.returned v∧s.post enc C.prog fn apart fresh handsOn again W args v W'):
  ReturnsInHanded a C os f .any (fun w args=>(s.pre enc C.prog fn conds apart w args∧X w args)∧sizedMet enc C.prog fn (OpenSpec.ofChange s) apart w args) (s.post enc C.prog fn apart fresh handsOn again):=by
 refine returnsInHanded_of_calls own started noInit witness ?_;intro w tape i _ hsh _ hok hpre _;obtain⟨_,_,_,fn',hfn',_,_,_,_,hval⟩:=hok;obtain rfl:=Option.some.inj (hfn'.symm.trans hfn);obtain⟨⟨⟨ds,gs,before,hw,_⟩,hx⟩,_⟩:=hpre;refine(contract (w.forCall tape i) w.heap.size i.args ds gs before hval (DataW.Whole.of_heap (w':=w.forCall tape i) (by rfl) hw) (hX _ _ _ (by rfl) hx) hsh).mono fun e W' ⟨v,he,hp⟩=>?_
 subst he;exact ChangeSpec.post_blind hp
theorem qsf{w:World}{g:Nat}{v:Value}(h:w.cell? ⟨g,0,none⟩=some v):g<w.heap.size:=by
 rcases Nat.lt_or_ge g w.heap.size with h1|h1
 ·exact h1
 ·simp[World.cell?,Array.getElem?_eq_none h1] at h
theorem q74{W:World}{laid:List (String×DataW Unit)}(hL:laidMetH Tryz.prog laid W)(hsh:W.ShapedOpen Tryz.prog)
  (hk:(laid.filter fun x=>x.1== "internal/strconv.uint64pow10")=[("internal/strconv.uint64pow10",Rows.laid_internal_strconv_uint64pow10)]):Mx W.heap.size W:=by
 obtain⟨m,hm⟩:=cell_of_shapedOpen_int (g:=0) (t:=3) (zero:=#[.int .i64 0]) (k:=.i64) hsh (of_decide_eq_true (by kernel_rfl)) (by kernel_rfl) rfl (by kernel_rfl) (by kernel_rfl) Tryz.underlying3;have h1:=hL.filter (fun x=>x.1== "internal/strconv.uint64pow10");rw[hk,MakeChecks.laidMetH_plain _ _ _ (by kernel_rfl)] at h1;have e:(Rows.laid_internal_strconv_uint64pow10:DataW Unit)=Lib.tabData .u64 Lib.pow10Tab:=by kernel_rfl
 rw[e] at h1
 have hT:Lib.TabIs Tryz.prog W "internal/strconv.uint64pow10" .u64 Lib.pow10Tab:=
  Lib.tabIs_of_head (g:=1) (n:=20) (by kernel_rfl) (by kernel_rfl) Tryz.underlying201 Tryz.underlying169 (by kernel_rfl) (by kernel_rfl) h1
 exact⟨⟨m,hm⟩,qsf hm,hT,qsf (hT.cell (by kernel_rfl) 0 (by decide))⟩
theorem q2n(os:Os):(World.laidAll Tryz.prog os Rows.fnScriptShowRow.laid).Shaped Tryz.prog:=World.shaped_of_ZipB (by as_aux_lemma=>kernel_rfl) (by as_aux_lemma=>kernel_rfl)
theorem metS(os:Os)(args:Array Value):laidMetH Tryz.prog Rows.fnScriptShowRow.laid ((World.laidAll Tryz.prog os Rows.fnScriptShowRow.laid).forCall (fun _ _=>0) ⟨#[],args,[]⟩).memory:=by
 rw[MakeChecks.laidMetH_plain _ _ _ (by kernel_rfl)];exact laidMet_laidAll _ (by as_aux_lemma=>kernel_rfl) (by as_aux_lemma=>kernel_rfl)
theorem q5d:true=Tryz.prog.looks []:=by as_aux_lemma=>kernel_rfl
theorem q7s: "*" ++ "errors.errorString" = "*errors.errorString" :=by decide
theorem rowE(u:TypeId)(h:Tryz.prog.typeName? 3 u=some "*errors.errorString"):u=231:=
 typeName_ptr_named (nm:= "errors.errorString") (by rw[q7s];kernel_rfl) (by kernel_rfl) (by decide) u (by rw[q7s];exact h)
theorem q7t{W:World}{laid:List (String×DataW Unit)}(hL:laidMetH Tryz.prog laid W)(hsh:W.ShapedOpen Tryz.prog)
  (hk:(laid.filter fun x=>x.1== "internal/strconv.uint64pow10")=[("internal/strconv.uint64pow10",Rows.laid_internal_strconv_uint64pow10)])
  (hk1:(laid.filter fun x=>x.1== "strconv.ErrSyntax")=[("strconv.ErrSyntax",Rows.laid_strconv_ErrSyntax)])
  (hk2:(laid.filter fun x=>x.1== "strconv.ErrRange")=[("strconv.ErrRange",Rows.laid_strconv_ErrRange)]):Mz W.heap.size W:=by
 have gS:Tryz.prog.globalNamed "strconv.ErrSyntax" =some (Tryz.laysC172_ren.g 15):=by kernel_rfl
 have gR:Tryz.prog.globalNamed "strconv.ErrRange" =some (Tryz.laysC172_ren.g 16):=by kernel_rfl
 have h1:=hL.filter (fun x=>x.1== "strconv.ErrSyntax");rw[hk1,MakeChecks.laidMetH_plain _ _ _ (by kernel_rfl)] at h1;have h2:=hL.filter (fun x=>x.1== "strconv.ErrRange");rw[hk2,MakeChecks.laidMetH_plain _ _ _ (by kernel_rfl)] at h2;obtain⟨a1,s1,v1,_⟩:=laid_sentinel h1 gS (ti:=113) (by kernel_rfl) Tryz.underlying113 rowE Tryz.underlying231 Tryz.underlying233 rfl rfl Tryz.underlying9 (by kernel_rfl) (by kernel_rfl);obtain⟨a2,s2,v2,_⟩:=laid_sentinel h2 gR (ti:=113) (by kernel_rfl) Tryz.underlying113 rowE Tryz.underlying231 Tryz.underlying233 rfl rfl Tryz.underlying9 (by kernel_rfl) (by kernel_rfl);have c1:W.cell? ⟨Tryz.laysC172_ren.g 15,0,none⟩=some (.iface 231 (.pointer (some a1))):=by have h0:=World.var?_cell gS v1 0;simpa using h0
 have c2:W.cell? ⟨Tryz.laysC172_ren.g 16,0,none⟩=some (.iface 231 (.pointer (some a2))):=by have h0:=World.var?_cell gR v2 0;simpa using h0
 exact⟨q74 hL hsh hk,⟨_,c1,.inr ⟨_,_,rfl⟩⟩,qsf c1,⟨_,c2,.inr ⟨_,_,rfl⟩⟩,qsf c2⟩
end Go.Proofs.YtmkjmancmiphfaaGreatDoor

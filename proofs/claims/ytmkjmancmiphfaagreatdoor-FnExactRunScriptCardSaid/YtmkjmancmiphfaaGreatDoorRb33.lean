/-
  HoldsBy, CanHold: the program's and the reference's.
  PackValid: what it returns, in the program and in the reference.
  group, GroupOf: the tasks of a processor.
  Processors, in plain Lean: ways, first fit, the fewest.
  Admission, in plain Lean; and the share of what can hold.
  AdmitTask, AdmitAll: the reference's.
  The ways in order, one after the other, in plain Lean.
  What the laws on admission and packing lean on, in plain Lean.
  Texts of ways: the program's and the reference's.
-/
import Derived.Test.YtmkjmancmiphfaaGreatDoorRb32
import Derived.Test.YtmkjmancmiphfaaGreatDoorRb25
namespace Go.Proofs.YtmkjmancmiphfaaGreatDoor
set_option maxHeartbeats 8000000
set_option maxRecDepth 1000000
open Go.RowKit
theorem qbt(A:ZA)(l:List Tk)(c:Nat)(p:Int)(w:World)(h:TS w A l)(hm:l.length≤maxLen)(hlc:l.length≤c):
  Calls Tryz.prog 125 #[.slice A l.length c,.int .i64 p] w fun e w'=>e=.returned (.bool (qb2 l p))∧Below w.heap.size w w':=by
 by_cases h0:p=0
 ·subst h0;have Hf:Hid (qb2 l 0=qga l):=rfl;go_enter Tryz.func125,Tryz.ntmps125;go_wp2_with fail;refine(qqb A l c _ h hlc).mono ?_;rintro e w1 ⟨rfl,b1⟩;go_wp2_with fail;go_ret;exact⟨by rw[Hf.out];rfl,b1⟩
 ·have e0:(p==0)=false:=beq_eq_false_iff_ne.2 h0;by_cases h1:p=1
  ·subst h1;have Hf:Hid (qb2 l 1=qd0 l):=rfl;go_enter Tryz.func125,Tryz.ntmps125;go_wp2_with fail;refine(qfg A l c _ h hm).mono ?_;rintro e w1 ⟨rfl,b1⟩;go_wp2_with fail;go_ret;exact⟨by rw[Hf.out];rfl,b1⟩
  ·have e1:(p==1)=false:=beq_eq_false_iff_ne.2 h1;have Hf:Hid (qb2 l p=false):=by simp[Hid,qb2,h0,h1]
   clear h0 h1;go_enter Tryz.func125,Tryz.ntmps125;go_wp2_with fail;go_ret;exact⟨by rw[Hf.out];rfl,br⟩
theorem qb7(A:ZA)(l:List Tk)(c:Nat)(p:Int)(w:World)(h:TS w A l)(hm:l.length≤maxLen):
  Calls Tryz.prog 86 #[.slice A l.length c,.int .i64 p] w fun e w'=>e=.returned (.bool (qb2 l p))∧Below w.heap.size w w':=by
 by_cases h0:p=0
 ·subst h0;have Hf:Hid (qb2 l 0=qga l):=rfl;go_enter Tryz.func86,Tryz.ntmps86;go_wp2_with fail;refine(qqc A l c _ h hm).mono ?_;rintro e w1 ⟨rfl,b1⟩;go_wp2_with fail;go_ret;exact⟨by rw[Hf.out];rfl,b1⟩
 ·have e0:(p==0)=false:=beq_eq_false_iff_ne.2 h0;by_cases h1:p=1
  ·subst h1;have Hf:Hid (qb2 l 1=qd0 l):=rfl;go_enter Tryz.func86,Tryz.ntmps86;go_wp2_with fail;refine(qfl A l c _ h hm).mono ?_;rintro e w1 ⟨rfl,b1⟩;go_wp2_with fail;go_ret;exact⟨by rw[Hf.out];rfl,b1⟩
  ·have e1:(p==1)=false:=beq_eq_false_iff_ne.2 h1;have Hf:Hid (qb2 l p=false):=by simp[Hid,qb2,h0,h1]
   clear h0 h1;go_enter Tryz.func86,Tryz.ntmps86;go_wp2_with fail;go_ret;exact⟨by rw[Hf.out];rfl,br⟩
theorem qch(A:ZA)(l:List Tk)(c:Nat)(p:Int)(w:World)(h:TS w A l)(hm:l.length≤maxLen)(hlc:l.length≤c):
  Calls Tryz.prog 194 #[.slice A l.length c,.int .i64 p] w fun e w'=>e=.returned (.bool (qnm l p))∧Below w.heap.size w w':=by
 by_cases h0:p=0
 ·subst h0;have Hf:Hid (qnm l 0=(qbb l).isSome):=rfl;go_enter Tryz.func194,Tryz.ntmps194;go_wp2_with fail;refine(qdl A l c _ h).mono ?_;rintro e w1 ⟨A1,c1,rfl,o1,b1⟩;go_wp2_with fail;go_ret;exact⟨by rw[Hf.out];rfl,b1⟩
 ·have e0:(p==0)=false:=beq_eq_false_iff_ne.2 h0;have Hf:Hid (qnm l p=qb2 l p):=by simp[Hid,qnm,h0]
  clear h0;go_enter Tryz.func194,Tryz.ntmps194;go_wp2_with fail;refine(qbt A l c p _ h hm hlc).mono ?_;rintro e w1 ⟨rfl,b1⟩;go_wp2_with fail;go_ret;exact⟨by rw[Hf.out];rfl,b1⟩
theorem qj3(A:ZA)(l:List Tk)(c:Nat)(p:Int)(w:World)(h:TS w A l)(hm:l.length≤maxLen):
  Calls Tryz.prog 212 #[.slice A l.length c,.int .i64 p] w fun e w'=>e=.returned (.bool (qnm l p))∧Below w.heap.size w w':=by
 by_cases h0:p=0
 ·subst h0;have Hf:Hid (qnm l 0=(qbb l).isSome):=rfl;go_enter Tryz.func212,Tryz.ntmps212;go_wp2_with fail;refine(qen A l c _ h hm).mono ?_;rintro e w1 ⟨A1,c1,rfl,o1,b1⟩;go_wp2_with fail;go_ret;exact⟨by rw[Hf.out];rfl,b1⟩
 ·have e0:(p==0)=false:=beq_eq_false_iff_ne.2 h0;have Hf:Hid (qnm l p=qb2 l p):=by simp[Hid,qnm,h0]
  clear h0;go_enter Tryz.func212,Tryz.ntmps212;go_wp2_with fail;refine(qb7 A l c p _ h hm).mono ?_;rintro e w1 ⟨rfl,b1⟩;go_wp2_with fail;go_ret;exact⟨by rw[Hf.out];rfl,b1⟩
def wok(p x:Int):Bool:=decide (0≤x∧x<p)
def qce(l:List Tk)(ws:List Int)(p:Int):Bool:=qad l&&decide (1≤p)&&decide (p≤3)&&decide (ws.length=l.length)&&ws.all (wok p)
theorem qkq(p:Int)(l:List Int)(k:Nat)(hk:k<l.length):(l.take (k+1)).all (wok p)=((l.take k).all (wok p)&&wok p l[k]):=by
 rw[List.take_succ_eq_append_getElem hk,List.all_append];simp
theorem qfw(A B:ZA)(l:List Tk)(ws:List Int)(c d:Nat)(p:Int)(w:World)(h:TS w A l)(g:IS w B ws):
  Calls Tryz.prog 197 #[.slice A l.length c,.slice B ws.length d,.int .i64 p] w fun e w'=>e=.returned (.bool (qce l ws p))∧Below w.heap.size w w':=by
 by_cases hS:qad l=true
 case neg=>
  have hS:qad l=false:=by simpa using hS
  go_enter Tryz.func197,Tryz.ntmps197;go_wp2_with (go_at_call 34;refine(qae _ l _ _ h).mono ?_;rintro e w2 ⟨rfl,hb2⟩)
  go_ret;exact⟨by simp[qce,hS],hb2⟩
 have hl5:=qbj hS;by_cases hall:1≤p∧p≤3∧ws.length=l.length
 case neg=>
  have hf:qce l ws p=false:=by simp only[qce];simp;omega
  have Hf:=zhi hf;clear hf;by_cases h1:1≤p
  ·by_cases h3:p≤3
   ·have hne:((ws.length:Int) !=l.length)=true:=by simp;omega
    go_enter Tryz.func197,Tryz.ntmps197;go_wp2_with (go_at_call 34;refine(qae _ l _ _ h).mono ?_;rintro e w2 ⟨rfl,hb2⟩)
    go_ret;exact⟨by rw[Hf.out];rfl,hb2⟩
   ·go_enter Tryz.func197,Tryz.ntmps197;go_wp2_with (go_at_call 34;refine(qae _ l _ _ h).mono ?_;rintro e w2 ⟨rfl,hb2⟩)
    go_ret;exact⟨by rw[Hf.out];rfl,hb2⟩
  ·go_enter Tryz.func197,Tryz.ntmps197;go_wp2_with (go_at_call 34;refine(qae _ l _ _ h).mono ?_;rintro e w2 ⟨rfl,hb2⟩)
   go_ret;exact⟨by rw[Hf.out];rfl,hb2⟩
 obtain⟨h1,h3,hlen⟩:=hall;have hne:((ws.length:Int) !=l.length)=false:=by simp[hlen]
 have hws:ws.length≤5:=by omega
 have hp:qce l ws p=ws.all (wok p):=by simp[qce,hS,h1,h3,hlen]
 have Hp:=zhi hp;clear hp hlen;go_enter Tryz.func197,Tryz.ntmps197;go_wp2_with (go_at_call 34;refine(qae _ l _ _ h).mono ?_;rintro e w2 ⟨rfl,hb2⟩)
 go_loopw [29] (fun i wr=> ∃k:Nat,k≤ws.length∧i=.int .i64 k∧Hid ((ws.take k).all (wok p)=true)∧Below w.heap.size w wr) (fun i _=>ws.length-(intOf i).toNat)
 case atStart=>exact⟨0,Nat.zero_le _,rfl,by simp[Hid],hb2⟩
 case round=>
  obtain⟨k,hk,rfl,hok,hb⟩:=hrel;by_cases hlt:k<ws.length
  ·obtain⟨b,off,rfl,hbl,hc⟩:=g (by omega);have c0:=(hb.cell (p:=⟨b,off+k,none⟩) hbl).trans (hc k _ (List.getElem?_eq_getElem hlt));clear hc;by_cases hx:0≤ws[k]∧ws[k]<p
   ·obtain⟨hx0,hx1⟩:=hx;go_wp2
    go_roundw
    case rel=>exact⟨k+1,by omega,by go_num,by rw[Hid,qkq p ws k hlt,hok.out];simp[wok,hx0,hx1],hb⟩
    case measure=>simp[intOf];omega
   ·have hbad:ws.all (wok p)=false:=List.all_eq_false.2 ⟨ws[k],List.getElem_mem _,by simp only[wok];simpa using hx⟩;have Hbad:=zhi hbad;clear hbad;by_cases hx0:0≤ws[k]
    all_goals
     go_wp2
     go_ret;exact⟨by rw[Hp.out,Hbad.out];rfl,hb⟩
  ·go_wp2
   go_ret;have e:=hok.out;rw[List.take_of_length_le (by omega)] at e;exact⟨by rw[Hp.out,e];rfl,hb⟩
def q0d(p:Int):Bool:=decide (1≤p∧p≤3)
theorem qcv(p:Int)(w:World):
  Calls Tryz.prog 203 #[.int .i64 p] w fun e w'=>e=.returned (.bool (q0d p))∧w=w':=by
 by_cases h1:1≤p
 ·by_cases h3:p≤3
  all_goals
   go_enter Tryz.func203,Tryz.ntmps203;go_wp2
   go_ret;exact⟨by simp[q0d];omega,rfl⟩
 ·go_enter Tryz.func203,Tryz.ntmps203;go_wp2
  go_ret;exact⟨by simp[q0d];omega,rfl⟩
theorem qfx(A B:ZA)(l:List Tk)(ws:List Int)(c d:Nat)(p:Int)(w:World)(h:TS w A l)(g:IS w B ws)(hm:l.length≤9223372036854775807):
  Calls Tryz.prog 213 #[.slice A l.length c,.slice B ws.length d,.int .i64 p] w fun e w'=>e=.returned (.bool (qce l ws p))∧Below w.heap.size w w':=by
 by_cases hS:qad l=true
 case neg=>
  have hS:qad l=false:=by simpa using hS
  go_enter Tryz.func213,Tryz.ntmps213;go_wp2_with (go_at_call 55;refine(qac _ l _ _ h hm).mono ?_;rintro e w2 ⟨rfl,hb2⟩)
  go_ret;exact⟨by simp[qce,hS],hb2⟩
 have hl5:=qbj hS;by_cases hlen:ws.length=l.length
 case neg=>
  have hf:qce l ws p=false:=by simp only[qce];simp;omega
  have Hf:=zhi hf;clear hf;have hne:((ws.length:Int) !=l.length)=true:=by simp;omega
  go_enter Tryz.func213,Tryz.ntmps213;go_wp2_with (go_at_call 55;refine(qac _ l _ _ h hm).mono ?_;rintro e w2 ⟨rfl,hb2⟩)
  go_ret;exact⟨by rw[Hf.out];rfl,hb2⟩
 have hne:((ws.length:Int) !=l.length)=false:=by simp[hlen]
 by_cases hn:1≤p∧p≤3
 case neg=>
  have hf:qce l ws p=false:=by simp only[qce];simp;omega
  have Hf:=zhi hf;have hn':q0d p=false:=by simpa [q0d] using hn
  clear hf hn hlen;go_enter Tryz.func213,Tryz.ntmps213;go_wp2_with (first|(go_at_call 55;refine(qac _ l _ _ h hm).mono ?_;rintro e w2 ⟨rfl,hb2⟩)|(go_at_call 203;refine(qcv _ _).mono ?_;rintro e w3 ⟨rfl,rfl⟩))
  all_goals go_ret
  all_goals exact⟨by rw[Hf.out];rfl,hb2⟩
 have hn':q0d p=true:=by simpa [q0d] using hn
 obtain⟨h1,h3⟩:=hn;have hws:ws.length≤5:=by omega
 have hp:qce l ws p=ws.all (wok p):=by simp[qce,hS,h1,h3,hlen]
 have Hp:=zhi hp;clear hp hlen;go_enter Tryz.func213,Tryz.ntmps213;go_wp2_with (first|(go_at_call 55;refine(qac _ l _ _ h hm).mono ?_;rintro e w2 ⟨rfl,hb2⟩)|(go_at_call 203;refine(qcv _ _).mono ?_;rintro e w3 ⟨rfl,rfl⟩))
 go_loopw [7] (fun i wr=> ∃k:Nat,k≤ws.length∧i=.int .i64 k∧Hid ((ws.take k).all (wok p)=true)∧Below w.heap.size w wr) (fun i _=>ws.length-(intOf i).toNat)
 case atStart=>exact⟨0,Nat.zero_le _,rfl,by simp[Hid],hb2⟩
 case round=>
  obtain⟨k,hk,rfl,hok,hb⟩:=hrel;by_cases hlt:k<ws.length
  ·obtain⟨b,off,rfl,hbl,hc⟩:=g (by omega);have c0:=(hb.cell (p:=⟨b,off+k,none⟩) hbl).trans (hc k _ (List.getElem?_eq_getElem hlt));clear hc;by_cases hx:0≤ws[k]∧ws[k]<p
   ·obtain⟨hx0,hx1⟩:=hx;go_wp2
    go_roundw
    case rel=>exact⟨k+1,by omega,by go_num,by rw[Hid,qkq p ws k hlt,hok.out];simp[wok,hx0,hx1],hb⟩
    case measure=>simp[intOf];omega
   ·have hbad:ws.all (wok p)=false:=List.all_eq_false.2 ⟨ws[k],List.getElem_mem _,by simp only[wok];simpa using hx⟩;have Hbad:=zhi hbad;clear hbad;by_cases hx0:0≤ws[k]
    all_goals
     go_wp2
     go_ret;exact⟨by rw[Hp.out,Hbad.out];rfl,hb⟩
  ·go_wp2
   go_ret;have e:=hok.out;rw[List.take_of_length_le (by omega)] at e;exact⟨by rw[Hp.out,e];rfl,hb⟩
def grp(l:List Tk)(ws:List Int)(p:Int):List Tk:=((l.zip ws).filter (fun x=>decide (x.2=p))).map Prod.fst
theorem qnt{l:List Tk}{ws:List Int}{p:Int}{k:Nat}(hk:k<l.length)(hw:k<ws.length)(h:ws[k]=p):grp (l.take (k+1)) (ws.take (k+1)) p=grp (l.take k) (ws.take k) p++[l[k]]:=by
 unfold grp;rw[List.take_succ_eq_append_getElem hk,List.take_succ_eq_append_getElem hw,List.zip_append (by simp;omega),List.filter_append,List.map_append];simp[h]
theorem ql8{l:List Tk}{ws:List Int}{p:Int}{k:Nat}(hk:k<l.length)(hw:k<ws.length)(h:ws[k]≠p):grp (l.take (k+1)) (ws.take (k+1)) p=grp (l.take k) (ws.take k) p:=by
 unfold grp;rw[List.take_succ_eq_append_getElem hk,List.take_succ_eq_append_getElem hw,List.zip_append (by simp;omega),List.filter_append,List.map_append];simp[h]
theorem qh7(l:List Tk)(ws:List Int)(p:Int):(grp l ws p).length≤l.length:=by
 unfold grp;rw[List.length_map];exact zll (List.length_filter_le _ _) (by rw[List.length_zip];exact Nat.min_le_left _ _)
theorem qkg(A B:ZA)(l:List Tk)(ws:List Int)(c d:Nat)(p:Int)(w:World)(h:TS w A l)(g:IS w B ws)(hlen:ws.length=l.length)(hl:l.length≤100000):
  Calls Tryz.prog 195 #[.slice A l.length c,.slice B ws.length d,.int .i64 p] w (q3d w (grp l ws p)):=by
 have hws:ws.length≤100000:=by omega
 have Hlen:=zhi hlen;clear hlen;go_enter Tryz.func195,Tryz.ntmps195;go_wp2_with fail;go_loopw [7,13] (fun v i wr=> ∃(k:Nat) (A':ZA) (c':Nat) (l':List Tk),i=.int .i64 (k:Int)∧v=.slice A' l'.length c'∧k≤ws.length∧Hid (l'=grp (l.take k) (ws.take k) p)∧OT w.heap.size wr A' c' l'∧Below w.heap.size w wr) (fun _ i _=>ws.length-(intOf i).toNat)
 case atStart=>exact⟨0,_,0,[],rfl,rfl,by omega,by simp[Hid,grp],qa7 w _ (zlr _),bal br _⟩
 case round=>
  obtain⟨k,A',c',l',rfl,rfl,hk,hg,hO,hb⟩:=hrel
  have hll:l'.length≤100000:=by
   have:=qh7 (l.take k) (ws.take k) p;rw[←hg.out] at this;have:=List.length_take_le k l;simp at*;omega
  by_cases hlt:k<ws.length
  ·have hltl:k<l.length:=by rw[←Hlen.out];exact hlt
   obtain⟨b,off,rfl,hbl,hc⟩:=h.keep hb (by omega);obtain⟨b',off',rfl,hbl',hc'⟩:=g.keep hb (by omega);obtain⟨c0,c1,c2,c3,c4⟩:=qby hc k hltl;have d0:=hc' k _ (List.getElem?_eq_getElem hlt);clear hc hc';by_cases hp:ws[k]=p
   ·have hp':(ws[k]==p)=true:=beq_iff_eq.2 hp;have Hp:=zhi hp;clear hp;go_wp2_with (at_builtin;refine qc2 _ rfl _ _ rfl w.heap.size A' l' c' rfl (qbf hO _) wr.heap.size 1 l[k] _ 58 rfl (zha wr _) rfl (by omega) (by have:=hb.size;simp;omega) ?_;intro A3 c3' w3 hO3 hg3 hb3)
    go_roundw
    case rel=>exact⟨k+1,A3,c3',l'++[l[k]],by go_num,by simp,by omega,by rw[Hid,qnt hltl hlt Hp.out,hg.out],hO3,(bal hb _).trans hb3⟩
    case measure=>simp[intOf];omega
   ·have hp':(ws[k]==p)=false:=beq_eq_false_iff_ne.2 hp;go_wp2_with fail;go_roundw
    case rel=>exact⟨k+1,A',c',l',by go_num,rfl,by omega,by rw[Hid,ql8 hltl hlt hp,hg.out],hO,hb⟩
    case measure=>simp[intOf];omega
  ·go_wp2_with fail;go_ret;have e:=hg.out;rw[List.take_of_length_le (by rw[←Hlen.out];omega),List.take_of_length_le (by omega)] at e;subst e;exact⟨A',c',rfl,hO,hb⟩
theorem qhx(A B:ZA)(l:List Tk)(ws:List Int)(c d:Nat)(p:Int)(w:World)(h:TS w A l)(g:IS w B ws)(hlen:ws.length=l.length)(hl:l.length≤100000):
  Calls Tryz.prog 211 #[.slice A l.length c,.slice B ws.length d,.int .i64 p] w (q3d w (grp l ws p)):=by
 have hws:ws.length≤100000:=by omega
 have Hlen:=zhi hlen;clear hlen;go_enter Tryz.func211,Tryz.ntmps211;go_wp2_with fail;go_loopw [7,8] (fun v i wr=> ∃(k:Nat) (A':ZA) (c':Nat) (l':List Tk),i=.int .i64 (k:Int)∧v=.slice A' l'.length c'∧k≤ws.length∧Hid (l'=grp (l.take k) (ws.take k) p)∧OT w.heap.size wr A' c' l'∧Below w.heap.size w wr) (fun _ i _=>ws.length-(intOf i).toNat)
 case atStart=>exact⟨0,_,0,[],rfl,rfl,by omega,by simp[Hid,grp],qa7 w _ (zlr _),bal br _⟩
 case round=>
  obtain⟨k,A',c',l',rfl,rfl,hk,hg,hO,hb⟩:=hrel
  have hll:l'.length≤100000:=by
   have:=qh7 (l.take k) (ws.take k) p;rw[←hg.out] at this;have:=List.length_take_le k l;simp at*;omega
  by_cases hlt:k<ws.length
  ·have hltl:k<l.length:=by rw[←Hlen.out];exact hlt
   obtain⟨b,off,rfl,hbl,hc⟩:=h.keep hb (by omega);obtain⟨b',off',rfl,hbl',hc'⟩:=g.keep hb (by omega);obtain⟨c0,c1,c2,c3,c4⟩:=qby hc k hltl;have d0:=hc' k _ (List.getElem?_eq_getElem hlt);clear hc hc';by_cases hp:ws[k]=p
   ·have hp':(ws[k]==p)=true:=beq_iff_eq.2 hp;have Hp:=zhi hp;clear hp;go_wp2_with (at_builtin;refine qc2 _ rfl _ _ rfl w.heap.size A' l' c' rfl (qbf hO _) wr.heap.size 1 l[k] _ 58 rfl (zha wr _) rfl (by omega) (by have:=hb.size;simp;omega) ?_;intro A3 c3' w3 hO3 hg3 hb3)
    go_roundw
    case rel=>exact⟨k+1,A3,c3',l'++[l[k]],by go_num,by simp,by omega,by rw[Hid,qnt hltl hlt Hp.out,hg.out],hO3,(bal hb _).trans hb3⟩
    case measure=>simp[intOf];omega
   ·have hp':(ws[k]==p)=false:=beq_eq_false_iff_ne.2 hp;go_wp2_with fail;go_roundw
    case rel=>exact⟨k+1,A',c',l',by go_num,rfl,by omega,by rw[Hid,ql8 hltl hlt hp,hg.out],hO,hb⟩
    case measure=>simp[intOf];omega
  ·go_wp2_with fail;go_ret;have e:=hg.out;rw[List.take_of_length_le (by rw[←Hlen.out];omega),List.take_of_length_le (by omega)] at e;subst e;exact⟨A',c',rfl,hO,hb⟩
def qip(m:Int):Bool:=decide (1≤m∧m≤3)
def q4m(p:Int):Bool:=p==0||p==1
def pkH(l:List Tk)(ws:List Int)(m p:Int):Bool:=qce l ws m&&(List.range m.toNat).all (fun q=>qnm (grp l ws (q:Int)) p)
theorem qo9(l:List Tk)(ws:List Int)(m:Int):qce l ws m=true↔qad l=true∧1≤m∧m≤3∧ws.length=l.length∧ ∀x∈ws,0≤x∧x<m:=by
 simp only[qce,Bool.and_eq_true,decide_eq_true_eq,List.all_eq_true,wok];constructor
 ·rintro⟨⟨⟨⟨a,b⟩,c⟩,d⟩,e⟩;exact⟨a,b,c,d,e⟩
 ·rintro⟨a,b,c,d,e⟩;exact⟨⟨⟨⟨a,b⟩,c⟩,d⟩,e⟩
theorem qsy(l:List Tk)(ws:List Int)(m p:Int):pkH l ws m p=true↔qce l ws m=true∧ ∀q:Nat,q<m.toNat→qnm (grp l ws (q:Int)) p=true:=by
 simp only[pkH,Bool.and_eq_true,List.all_eq_true,List.mem_range]
def swp(a b x:Int):Int:=if x=a then b else if x=b then a else x
def way(m:Nat):Nat→Nat→List Int
 |0,_=>[]
 |n+1,k=>way m n (k/m)++[((k % m:Nat):Int)]
theorem qiq(m n k:Nat):(way m n k).length=n:=by
 induction n generalizing k with
 |zero=>rfl
 |succ n ih=>simp[way,ih]
theorem way_in{m:Nat}(hm:0<m)(n k:Nat): ∀x∈way m n k,0≤x∧x<(m:Int):=by
 induction n generalizing k with
 |zero=>simp[way]
 |succ n ih=>
  intro x hx;simp only[way,List.mem_append,List.mem_singleton] at hx;rcases hx with hx|rfl
  ·exact ih _ x hx
  ·have:=Nat.mod_lt k hm;omega
def qcw(f:Nat→Bool):Nat→Nat→Option Nat
 |0,_=>none
 |n+1,k=>if f k then some k else qcw f n (k+1)
def anyK(l:List Tk)(m:Nat)(p:Int):Option Nat:=qcw (fun k=>pkH l (way m l.length k) (m:Int) p) (m^l.length) 0
def qi5(l:List Tk)(m p:Int):Option (List Int):=if qad l&&qip m then(anyK l m.toNat p).map (way m.toNat l.length) else none
def qsz(l:List Tk)(p:Int):Option Int:=
 if(qi5 l 1 p).isSome then some 1 else if(qi5 l 2 p).isSome then some 2 else if(qi5 l 3 p).isSome then some 3 else none
theorem qj4{l:List Tk}{p n:Int}(h:qsz l p=some n):1≤n∧n≤3∧(qi5 l n p).isSome=true∧ ∀j:Int,j<n→(qi5 l j p).isSome=false:=by
 have hz: ∀j:Int,j<1→(qi5 l j p).isSome=false:=by
  intro j hj;have:qip j=false:=by simp[qip];omega
  simp[qi5,this]
 unfold qsz at h;split at h
 ·cases h
  exact⟨by omega,by omega,by assumption,hz⟩
 ·rename_i h1
  split at h
  ·cases h
   refine⟨by omega,by omega,by assumption,fun j hj=>?_⟩;by_cases e:j=1
   ·subst e;simpa using h1
   ·exact hz j (by omega)
  ·rename_i h2
   split at h
   ·cases h
    refine⟨by omega,by omega,by assumption,fun j hj=>?_⟩;by_cases e:j=1
    ·subst e;simpa using h1
    ·by_cases e:j=2
     ·subst e;simpa using h2
     ·exact hz j (by omega)
   ·cases h
def qi6(l:List Tk)(ws:List Int)(p:Int)(q:Nat):Bool:=qnm (grp (l.take ws.length) ws (q:Int)++[qag l ws.length]) p
def qu3(l:List Tk)(m:Nat)(p:Int):Nat→List Int→Option (List Int)
 |0,ws=>some ws
 |n+1,ws=>
  match qcw (qi6 l ws p) m 0 with
  |none=>none
  |some q=>qu3 l m p n (ws++[(q:Int)])
def qjc(l:List Tk)(m p:Int):Option (List Int):=if qad l&&qip m&&q4m p then qu3 l m.toNat p l.length [] else none
theorem qyr{l:List Tk}{ws:List Int}(hw:ws.length<l.length)(x q:Int):grp (l.take (ws.length+1)) (ws++[x]) q=grp (l.take ws.length) ws q++(if x=q then [qag l ws.length] else []):=by
 unfold grp;rw[List.take_succ_eq_append_getElem hw,List.zip_append (by simp;omega),List.filter_append,List.map_append,qc3 l _ hw];by_cases h:x=q<;>simp[h]
def qci(l:List Tk)(t:Tk)(p:Int):Option (List Tk):=
 if qb2 l p&&qad (l++[t]) then
  if p=1 then(if qd0 (l++[t]) then some (l++[t]) else none)
  else match qbb (l++[t]) with
   |none=>none
   |some o=>some (qds (l++[t]) o)
 else none
theorem q2c{l:List Tk}{p:Int}(h:qb2 l p=true):p=0∨p=1:=by
 unfold qb2 at h;split at h
 ·exact .inl (by assumption)
 ·split at h
  ·exact .inr (by assumption)
  ·cases h
theorem qpa{l x:List Tk}{t:Tk}{p:Int}(h:qci l t p=some x):qb2 l p=true∧qad (l++[t])=true∧x.Perm (l++[t])∧qb2 x p=true:=by
 simp only[qci] at h;split at h
 ·rename_i hc
  simp only[Bool.and_eq_true] at hc;refine⟨hc.1,hc.2,?_⟩;split at h
  ·rename_i e
   split at h
   ·rename_i hv
    cases h
    refine⟨List.Perm.refl _,?_⟩;subst e;simp[qb2,hv]
   ·cases h
  ·rename_i e
   have p0:p=0:=(q2c hc.1).resolve_right e;subst p0;split at h
   ·cases h
   ·rename_i o ho
    cases h
    obtain⟨_,h1,h2⟩:=qff ho;refine⟨?_,by simpa [qb2] using h2⟩;have hp:=qlu (l++[t]) h1;rwa [qmq] at hp
 ·cases h
def hyp(l:List Tk):Nat:=l.foldl (fun a t=>Nat.lcm a t.every.toNat) 1
def admL(l:List Tk)(t:Tk)(p:Int):List Tk:=(qci l t p).getD []
theorem qfb{l:List Tk}{t:Tk}{p:Int}(h:qci l t p=none):admL l t p=[]∧(qci l t p).isSome=false:=by simp[admL,h]
theorem qir{l x:List Tk}{t:Tk}{p:Int}(h:qci l t p=some x):admL l t p=x∧(qci l t p).isSome=true:=by simp[admL,h]
theorem qxc(w:World)(base n:Nat)(hn:w.heap.size=n)(hb:base≤n):OT base (w.alloc (.cells #[] 58)) (some ⟨n,0,none⟩) 0 []:=by
 subst hn;exact qa7 w base hb
theorem qlb(w:World)(o:Obj)(n:Nat)(hn:w.heap.size=n):(w.alloc o).heap[n]? =some o:=by
 subst hn;exact zha w o
theorem qrx(l:List Tk)(t:Tk)(p:Int):qci l t p=(if qb2 l p&&qad (l++[t]) then
  if p=1 then(if qd0 (l++[t]) then some (l++[t]) else none)
  else match qbb (l++[t]) with
   |none=>none
   |some o=>some (qds (l++[t]) o)
 else none):=rfl
theorem qql(A:ZA)(l:List Tk)(t:Tk)(c:Nat)(p:Int)(w:World)(h:TS w A l)(hl:l.length≤1100000)(hA:A=none→c=0):
  Calls Tryz.prog 94 #[.slice A l.length c,t.val,.int .i64 p] w (qr9 w (admL l t p) (qci l t p).isSome):=by
 have hlm:l.length≤maxLen:=by unfold maxLen;omega
 have hallm:(l++[t]).length≤maxLen:=by unfold maxLen;simp;omega
 have hall:Hid ((l++[t]).length=l.length+1):=by simp[Hid]
 go_enter Tryz.func94,Tryz.ntmps94;go_upto_region 1 with fail;have B0:=bal (Below.refl w.heap.size w) (.cells #[.int .i64 t.low,.int .i64 t.high,.int .i64 t.due,.int .i64 t.every,.bool t.crit] 58 (0,0));have hN0:=zha w (.cells #[.int .i64 t.low,.int .i64 t.high,.int .i64 t.due,.int .i64 t.every,.bool t.crit] 58 (0,0));have hz0:w.heap.size<(w.alloc (.cells #[.int .i64 t.low,.int .i64 t.high,.int .i64 t.due,.int .i64 t.every,.bool t.crit] 58 (0,0))).heap.size:=by simp
 generalize hw0:World.alloc w _=w0 at B0 hN0 hz0⊢;generalize hn4:w.heap.size=n4 at hN0 hz0⊢;have hwn:w.heap.size≤n4:=by omega
 have hS:=h.keep (B0.mono (by omega));have hbx:n4<w0.heap.size:=hz0;obtain⟨t0,t1,t2,t3,t4,_⟩:=qaf hN0;have hne:Hid (w.heap.size=n4):=hn4;clear hw0 hn4;have hz:w0.heap.size≠w0.heap.size+1:=by omega
 go_cut [8] from 11 to 16 (fun v wc=> ∃A2 c2,v=.slice A2 (l.length+1) c2∧OT w0.heap.size wc A2 c2 (l++[t])∧Below w0.heap.size w0 wc)
 case first=>
  go_region_law (first
   |(refine qjm rfl (.tmp 11) (.tmp 12) rfl w0.heap.size (some ⟨w0.heap.size+1,0,none⟩) [] 0 0 rfl (by simp[Act.eval]) (qxc _ _ (w0.heap.size+1) (by simp) (by omega)) A l.length c l rfl (by simp[Act.eval]) (hS.keep (bal (bal (zdr br) _) _)) hA (by simp) (by omega) (by simp<;>omega) ?_;intro A1 c1 w1 o1 g1 b1;have HN:=zhi ((g1.block w0.heap.size (by simp<;>omega) (by simp[Value.ownBlock])).trans ((Below.heap_alloc _ _ _ (by simp)).trans (qlb (World.drew w0) _ w0.heap.size rfl)));have B1:Below w0.heap.size w0 w1:=(bal (bal (zdr br) _) _).trans b1)
   |(refine qjm rfl (.tmp 11) (.tmp 12) rfl w0.heap.size (some ⟨w0.heap.size,0,none⟩) [] 0 0 rfl (by simp[Act.eval]) (qbf (qa7 (World.drew w0) _ (zlr _)) _) A l.length c l rfl (by simp[Act.eval]) (hS.keep (bal (bal (zdr br) _) _)) hA (by simp) (by omega) (by simp<;>omega) ?_;intro A1 c1 w1 o1 g1 b1;have HN:=zhi ((g1.block (w0.heap.size+1) (by simp<;>omega) (by simp[Value.ownBlock])).trans (qlb _ _ (w0.heap.size+1) (by simp)));have B1:Below w0.heap.size w0 w1:=(bal (bal (zdr br) _) _).trans b1)
   |(refine qjm rfl (.tmp 11) (.tmp 12) rfl w0.heap.size (some ⟨w0.heap.size,0,none⟩) [] 0 0 rfl (by simp[Act.eval]) (qa7 (World.drew w0) _ (zlr _)) A l.length c l rfl (by simp[Act.eval]) (hS.keep (bal (zdr br) _)) hA (by simp) (by omega) (by simp<;>omega) ?_;intro A1 c1 w1 o1 g1 b1;have B1:Below w0.heap.size w0 w1:=(bal (zdr br) _).trans b1;obtain⟨k0,k1,k2,k3,k4,_⟩:=qaf ((B1.block n4 hbx).trans hN0))
   |(have hsrc:=HN.out;refine qay rfl (.tmp 13) (.tmp 15) rfl w0.heap.size A1 l l.length c1 rfl (by simp[Act.eval]) o1 ⟨_,0,none⟩ 1 1 [t] rfl (by simp[Act.eval]) (qhr hsrc rfl) (by omega) (by simp) B1.size ?_;intro A2 c2 w2 o2 g2 b2;clear hsrc;have B2:Below w0.heap.size w0 w2:=B1.trans b2)
   |(refine qay rfl (.tmp 13) (.tmp 15) rfl w0.heap.size A1 l l.length c1 rfl (by simp[Act.eval]) (qbf o1 _) ⟨w1.heap.size,0,none⟩ 1 1 [t] rfl (by simp[Act.eval]) (qhr (zha w1 _) rfl) (by omega) (by simp) (by have:=B1.size;simp;omega) ?_;intro A2 c2 w2 o2 g2 b2;have B2:Below w0.heap.size w0 w2:=(bal B1 _).trans b2))
  all_goals go_wp2_with fail
  all_goals go_meet
  all_goals exact⟨A2,c2,rfl,o2,B2⟩
 case rest=>
  obtain⟨A2,c2,rfl,o2,B2⟩:=hcut;clear hN0 t0 t1 t2 t3 t4 hbx hz hz0;have hwn0:w.heap.size≤w0.heap.size:=B0.size;have o2':OT w.heap.size wc A2 c2 (l++[t]):=qal o2 hwn0;have Bw:Below w.heap.size w wc:=B0.trans (B2.mono hwn0);have hS2:=h.keep Bw;clear o2 B2 B0 hS hwn hne;have hadm:=qrx l t p;generalize l++[t]=all at hallm hall o2' hadm;have Hadm:=zhi hadm;clear hadm;have s2:=qao o2';obtain⟨s21,_⟩:=s2;rw[hall.out] at s21;cases hB:qb2 l p with
  |false=>
   have hn:qci l t p=none:=by rw[Hadm.out];simp[hB]
   have Hn:=zhi (qfb hn);clear hn;go_wp2_with fail;refine(qb7 A l c p _ hS2 hlm).mono ?_;rw[hB];rintro e w3 ⟨rfl,b3⟩;go_wp2_with fail;go_ret2;rw[Hn.out.1,Hn.out.2];exact⟨_,0,rfl,qa7 _ _ (qaa Bw b3).size,bal (qaa Bw b3) _⟩
  |true=>
   have HB:=zhi hB;clear hB;cases hV:qad all with
   |false=>
    have hn:qci l t p=none:=by rw[Hadm.out];simp[hV]
    have Hn:=zhi (qfb hn);clear hn;go_wp2_with fail;refine(qb7 A l c p _ hS2 hlm).mono ?_;rw[HB.out];rintro e w3 ⟨rfl,b3⟩;have B3:=qaa Bw b3;have o3:=qa3 o2' b3;have K:=qac A2 all c2 w3 o3.ts hallm;rw[hall.out,hV] at K;go_wp2_with fail;refine K.mono ?_;rintro e w4 ⟨rfl,b4⟩;go_wp2_with fail;go_ret2;rw[Hn.out.1,Hn.out.2];exact⟨_,0,rfl,qa7 _ _ (qaa B3 b4).size,bal (qaa B3 b4) _⟩
   |true=>
    have HV:=zhi hV;clear hV;have hl5:all.length≤5:=(qaj HV.out).1;by_cases hp:p=1
    ·subst hp;cases hW:qd0 all with
     |false=>
      have hn:qci l t 1=none:=by rw[Hadm.out];simp[hW]
      have Hn:=zhi (qfb hn);clear hn;go_wp2_with fail;refine(qb7 A l c 1 _ hS2 hlm).mono ?_;rw[HB.out];rintro e w3 ⟨rfl,b3⟩;have B3:=qaa Bw b3;have o3:=qa3 o2' b3;have K:=qac A2 all c2 w3 o3.ts hallm;rw[hall.out,HV.out] at K;go_wp2_with fail;refine K.mono ?_;clear K;rintro e w4 ⟨rfl,b4⟩;have B4:=qaa B3 b4;have o4:=qa3 o3 b4;have K:=qfl A2 all c2 w4 o4.ts hallm;rw[hall.out,hW] at K;go_wp2_with fail;refine K.mono ?_;rintro e w5 ⟨rfl,b5⟩;go_wp2_with fail;go_ret2;rw[Hn.out.1,Hn.out.2];exact⟨_,0,rfl,qa7 _ _ (qaa B4 b5).size,bal (qaa B4 b5) _⟩
     |true=>
      have hn:qci l t 1=some all:=by rw[Hadm.out];simp[hW,HB.out,HV.out]
      have Hn:=zhi (qir hn);clear hn;go_wp2_with fail;refine(qb7 A l c 1 _ hS2 hlm).mono ?_;rw[HB.out];rintro e w3 ⟨rfl,b3⟩;have B3:=qaa Bw b3;have o3:=qa3 o2' b3;have K:=qac A2 all c2 w3 o3.ts hallm;rw[hall.out,HV.out] at K;go_wp2_with fail;refine K.mono ?_;clear K;rintro e w4 ⟨rfl,b4⟩;have B4:=qaa B3 b4;have o4:=qa3 o3 b4;have K:=qfl A2 all c2 w4 o4.ts hallm;rw[hall.out,hW] at K;go_wp2_with fail;refine K.mono ?_;rintro e w5 ⟨rfl,b5⟩;go_wp2_with fail;go_ret2;rw[Hn.out.1,Hn.out.2];exact⟨A2,c2,by rw[hall.out];rfl,qa3 o4 b5,qaa B4 b5⟩
    ·have hp1:(p==1)=false:=beq_eq_false_iff_ne.2 hp;obtain⟨R,hR⟩: ∃R,qbb all=R:=⟨_,rfl⟩;cases R with
     |none=>
      have hn:qci l t p=none:=by rw[Hadm.out];simp[hp,hR]
      have Hn:=zhi (qfb hn);clear hn;have hg:qnn all=[]∧(qbb all).isSome=false:=by simp[qnn,hR]
      have HG:=zhi hg;clear hR hp hg;go_wp2_with fail;refine(qb7 A l c p _ hS2 hlm).mono ?_;rw[HB.out];rintro e w3 ⟨rfl,b3⟩;have B3:=qaa Bw b3;have o3:=qa3 o2' b3;have K:=qac A2 all c2 w3 o3.ts hallm;rw[hall.out,HV.out] at K;go_wp2_with fail;refine K.mono ?_;clear K;rintro e w4 ⟨rfl,b4⟩;have B4:=qaa B3 b4;have o4:=qa3 o3 b4;have K:=qen A2 all c2 w4 o4.ts hallm;rw[hall.out,HG.out.1,HG.out.2] at K;go_wp2_with fail;refine K.mono ?_;rintro e w5 ⟨A5,c5,rfl,o5,b5⟩;go_wp2_with fail;go_ret2;rw[Hn.out.1,Hn.out.2];exact⟨_,0,rfl,qa7 _ _ (qaa B4 b5).size,bal (qaa B4 b5) _⟩
     |some o=>
      have hn:qci l t p=some (qds all o):=by rw[Hadm.out];simp[hp,hR,HB.out,HV.out]
      have Hn:=zhi (qir hn);clear hn;have hg:qnn all=qbr o∧(qbb all).isSome=true:=by simp[qnn,hR]
      obtain⟨g1,g2,g3⟩:=qff hR;have hol:Hid (o.length=l.length+1):=by rw[Hid,g2.length_eq,List.length_range];exact hall.out
      have hpl:Hid ((qds all o).length=l.length+1):=by rw[Hid,qfe];exact hol.out
      have hx: ∀x∈o,x<all.length:=fun x hx=>List.mem_range.1 (g2.mem_iff.1 hx)
      have HX:=zhi hx;have HG:=zhi hg;clear hR hp hg g1 g2 g3 hx;go_wp2_with fail;refine(qb7 A l c p _ hS2 hlm).mono ?_;rw[HB.out];rintro e w3 ⟨rfl,b3⟩;have B3:=qaa Bw b3;have o3:=qa3 o2' b3;have K:=qac A2 all c2 w3 o3.ts hallm;rw[hall.out,HV.out] at K;go_wp2_with fail;refine K.mono ?_;clear K;rintro e w4 ⟨rfl,b4⟩;have B4:=qaa B3 b4;have o4:=qa3 o3 b4;have K:=qen A2 all c2 w4 o4.ts hallm;rw[hall.out,HG.out.1,HG.out.2] at K;go_wp2_with fail;refine K.mono ?_;clear K;rintro e w5 ⟨A5,c5,he,o5,b5⟩;rw[qah,hol.out] at he;subst he;have B5:=qaa B4 b5;have K:=qms A2 A5 all o c2 c5 w5 ((qa3 o4 b5).ts) o5.is HX.out (by omega) (by rw[hol.out,←hall.out];omega);rw[hall.out,hol.out] at K;go_wp2_with fail;refine K.mono ?_;rintro e w6 ⟨A6,c6,rfl,o6,b6⟩;have o6':OT w.heap.size w6 A6 c6 (qds all o):=qal o6 B5.size;go_wp2_with fail;go_ret2;rw[Hn.out.1,Hn.out.2];exact⟨A6,c6,rfl,o6',qaa B5 b6⟩
theorem q4n{m:Nat}(hm:0<m)(n k j:Nat)(hj:j<n)(hd: ∀i,j<i→i<n→(way m n k)[i]? =some ((m:Int)-1))(d:Int)(h1:(way m n k)[j]? =some d)(h2:d≠(m:Int)-1):
  way m n (k+1)=(way m n k).take j++(d+1)::List.replicate (n-j-1) 0:=by
 induction n generalizing k j with
 |zero=>omega
 |succ n ih=>
  have hl:=qiq m n (k/m);simp only[way] at hd h1⊢;have hmod:k % m<m:=Nat.mod_lt _ hm;have hdm:m*(k/m)+k % m=k:=Nat.div_add_mod k m;by_cases e:j=n
  ·subst e;rw[List.getElem?_append_right (by omega),hl,Nat.sub_self] at h1;simp at h1;subst h1;have hlt:k % m+1<m:=by omega
   have e1:k+1=m*(k/m)+(k % m+1):=by omega
   have e2:(k+1)/m=k/m:=by rw[e1,Nat.mul_add_div hm,Nat.div_eq_of_lt hlt];omega
   have e3:(k+1) % m=k % m+1:=by rw[e1,Nat.mul_add_mod,Nat.mod_eq_of_lt hlt]
   rw[e2,e3,List.take_append_of_le_length (by omega),List.take_of_length_le (by omega)];simp
  ·have hjn:j<n:=by omega
   have h3:=hd n hjn (by omega);rw[List.getElem?_append_right (by omega),hl,Nat.sub_self] at h3;simp at h3;have hk:k % m+1=m:=by omega
   have e1:k+1=m*(k/m+1):=by rw[Nat.mul_add,Nat.mul_one];omega
   have e2:(k+1)/m=k/m+1:=by rw[e1,Nat.mul_div_cancel_left _ hm]
   have e3:(k+1) % m=0:=by rw[e1,Nat.mul_mod_right]
   have h4:=ih (k/m) j hjn (fun i hi hin=>by
    have:=hd i hi (by omega);rwa [List.getElem?_append_left (by omega)] at this) (by rwa [List.getElem?_append_left (by omega)] at h1)
   rw[e2,e3,h4,List.take_append_of_le_length (by omega),List.append_assoc];have e4:n+1-j-1=(n-j-1)+1:=by omega
   rw[e4,List.replicate_succ'];simp
theorem q4o{m:Nat}(hm:0<m)(n k:Nat)(hk:k<m^n)(hd: ∀i,i<n→(way m n k)[i]? =some ((m:Int)-1)):k+1=m^n:=by
 induction n generalizing k with
 |zero=>simp at hk⊢;omega
 |succ n ih=>
  have hl:=qiq m n (k/m);simp only[way] at hd;have h3:=hd n (by omega);rw[List.getElem?_append_right (by omega),hl,Nat.sub_self] at h3;simp at h3;have hmod:k % m<m:=Nat.mod_lt _ hm;have hdm:m*(k/m)+k % m=k:=Nat.div_add_mod k m;have hkm:k/m<m^n:=by rw[Nat.div_lt_iff_lt_mul hm];rwa [Nat.pow_succ] at hk
  have h4:=ih (k/m) hkm (fun i hin=>by
   have:=hd i (by omega);rwa [List.getElem?_append_left (by omega)] at this)
  rw[Nat.pow_succ,←h4,Nat.add_mul,Nat.mul_comm];omega
theorem q4p(m n:Nat):way m n 0=List.replicate n 0:=by
 induction n with
 |zero=>rfl
 |succ n ih=>rw[way,Nat.zero_div,ih,List.replicate_succ'];simp
theorem qfm(f:Nat→Bool)(N k:Nat)(h:k<N):qcw f (N-k) k=if f k then some k else qcw f (N-(k+1)) (k+1):=by
 have e:N-k=(N-(k+1))+1:=by omega
 rw[e];rfl
def qry(l:List Tk)(m p:Int):List Int:=(qi5 l m p).getD []
def ffL(l:List Tk)(m p:Int):List Int:=(qjc l m p).getD []
def qpb(l:List Tk)(ws:List Int)(p:Int):List UInt8:=
 if 0<(grp l ws p).length then [112,114,111,99,101,115,115,111,114,32]++num p++[58,32]++qa9 (grp l ws p)++[10] else []
def qis(l:List Tk)(ws:List Int):Nat→List UInt8
 |0=>[]
 |n+1=>qis l ws n++qpb l ws (n:Int)
def qcf(l:List Tk)(ws:List Int):List UInt8:=if qce l ws 3 then qis l ws 3 else []
theorem ql9{l:List Tk}{ws:List Int}{m:Int}(h:qce l ws m=true):qad l=true∧ws.length=l.length:=by
 simp only[qce,Bool.and_eq_true,decide_eq_true_eq] at h;exact⟨h.1.1.1.1,h.1.2⟩
theorem q4q(l:List Tk)(ws:List Int)(p:Int)(hp:p≤100):(qpb l ws p).length≤600:=by
 have h1:=qe6 (grp l ws p);have h2:=qap p (by omega);unfold qpb;split
 ·simp only[List.length_append,List.length_cons,List.length_nil];omega
 ·simp
theorem qpc(l:List Tk)(ws:List Int)(n:Nat)(hn:n≤100):(qis l ws n).length≤n*600:=by
 induction n with
 |zero=>simp[qis]
 |succ n ih=>
  have h1:=ih (by omega);have h2:=q4q l ws (n:Int) (by omega);simp only[qis,List.length_append];omega
theorem qpd(A B:ZA)(l:List Tk)(ws:List Int)(c d:Nat)(w:World)(h:TS w A l)(g:IS w B ws):
  Calls Tryz.prog 144 #[.slice A l.length c,.slice B ws.length d] w fun e w'=>e=.returned (.string ⟨(qcf l ws).toArray⟩)∧Below w.heap.size w w':=by
 cases hP:qce l ws 3 with
 |false=>
  have HF:Hid (qcf l ws=[]):=by simp[Hid,qcf,hP]
  go_enter Tryz.func144,Tryz.ntmps144;go_wp2_with fail;refine(qfw A B l ws c d 3 _ h g).mono ?_;rw[hP];rintro e w1 ⟨rfl,b1⟩;go_wp2_with fail;go_ret;exact⟨by rw[HF.out];rfl,b1⟩
 |true=>
  obtain⟨hs,hlen⟩:=ql9 hP;have hl5:=qbj hs;have HF:Hid (qcf l ws=qis l ws 3):=by simp[Hid,qcf,hP]
  have HP:=zhi hP;have Hlen:=zhi hlen;clear hs hlen hP;go_enter Tryz.func144,Tryz.ntmps144;go_wp2_with fail;refine(qfw A B l ws c d 3 _ h g).mono ?_;rw[HP.out];rintro e w1 ⟨rfl,b1⟩;go_wp2_with fail;go_loopw [5,12] (fun v i wr=> ∃(k:Nat) (T:List UInt8),i=.int .i64 (k:Int)∧v=.string ⟨T.toArray⟩∧k≤3∧Hid (T=qis l ws k)∧Below w.heap.size w wr) (fun _ i _=>3-(intOf i).toNat)
  case atStart=>exact⟨0,[],rfl,rfl,by omega,rfl,b1⟩
  case round=>
   obtain⟨k,T,rfl,rfl,hk,hT,hb⟩:=hrel
   have hTl:T.length≤1800:=by
    rw[hT.out];have:=qpc l ws k (by omega);omega
   by_cases hlt:(k:Int)<3
   ·have hgl:=qh7 l ws (k:Int);have hnl:=qap (k:Int) (by omega);have hsl:=qe6 (grp l ws (k:Int));have hnx:Hid (qis l ws (k+1)=T++qpb l ws (k:Int)):=by rw[Hid,hT.out];rfl
    go_wp2_with fail;refine(qkg A B l ws c d (k:Int) _ (h.keep hb) (g.keep hb) Hlen.out (by omega)).mono ?_;rintro e w2 ⟨A2,c2,rfl,o2,b2⟩;have B2:=qaa hb b2;by_cases hg0:0<(grp l ws (k:Int)).length
    ·have hpc:Hid (T++qpb l ws (k:Int)=T++([112,114,111,99,101,115,115,111,114,32]++num (k:Int)++[58,32]++qa9 (grp l ws (k:Int))++[10])):=by rw[Hid,qpb,if_pos hg0]
     generalize grp l ws (k:Int)=G at*;go_wp2_with fail;refine(qd7 (k:Int) (by omega) (by omega) _).mono ?_;rintro e w3 ⟨rfl,rfl⟩;go_wp2_with fail;refine(qh4 A2 G c2 _ o2.ts).mono ?_;rintro e w4 ⟨rfl,b4⟩;go_wp2_with fail;go_roundw
     case rel=>exact⟨k+1,_,by go_num,by rw[hnx.out,hpc.out];simp only[←qan],by omega,rfl,qaa B2 b4⟩
     case measure=>simp[intOf];omega
    ·have hpc:Hid (qis l ws (k+1)=T):=by rw[Hid,hnx.out,qpb,if_neg hg0,List.append_nil]
     go_wp2_with fail;go_roundw
     case rel=>exact⟨k+1,_,by go_num,by rw[hpc.out],by omega,rfl,B2⟩
     case measure=>simp[intOf];omega
   ·obtain rfl:k=3:=by omega
    go_wp2_with fail;go_ret;exact⟨by rw[HF.out,←hT.out];rfl,hb⟩
theorem qpe(A B:ZA)(l:List Tk)(ws:List Int)(c d:Nat)(w:World)(h:TS w A l)(g:IS w B ws)(hm:l.length≤9223372036854775807):
  Calls Tryz.prog 161 #[.slice A l.length c,.slice B ws.length d] w fun e w'=>e=.returned (.string ⟨(qcf l ws).toArray⟩)∧Below w.heap.size w w':=by
 cases hP:qce l ws 3 with
 |false=>
  have HF:Hid (qcf l ws=[]):=by simp[Hid,qcf,hP]
  go_enter Tryz.func161,Tryz.ntmps161;go_wp2_with fail;refine(qfx A B l ws c d 3 _ h g hm).mono ?_;rw[hP];rintro e w1 ⟨rfl,b1⟩;go_wp2_with fail;go_ret;exact⟨by rw[HF.out];rfl,b1⟩
 |true=>
  obtain⟨hs,hlen⟩:=ql9 hP;have hl5:=qbj hs;have HF:Hid (qcf l ws=qis l ws 3):=by simp[Hid,qcf,hP]
  have HP:=zhi hP;have Hlen:=zhi hlen;clear hs hlen hP;go_enter Tryz.func161,Tryz.ntmps161;go_wp2_with fail;refine(qfx A B l ws c d 3 _ h g hm).mono ?_;rw[HP.out];rintro e w1 ⟨rfl,b1⟩;go_wp2_with fail;go_loopw [5,6] (fun v i wr=> ∃(k:Nat) (T:List UInt8),i=.int .i64 (k:Int)∧v=.string ⟨T.toArray⟩∧k≤3∧Hid (T=qis l ws k)∧Below w.heap.size w wr) (fun _ i _=>3-(intOf i).toNat)
  case atStart=>exact⟨0,[],rfl,rfl,by omega,rfl,b1⟩
  case round=>
   obtain⟨k,T,rfl,rfl,hk,hT,hb⟩:=hrel
   have hTl:T.length≤1800:=by
    rw[hT.out];have:=qpc l ws k (by omega);omega
   by_cases hlt:(k:Int)<3
   ·have hgl:=qh7 l ws (k:Int);have hnl:=qap (k:Int) (by omega);have hsl:=qe6 (grp l ws (k:Int));have hnx:Hid (qis l ws (k+1)=T++qpb l ws (k:Int)):=by rw[Hid,hT.out];rfl
    go_wp2_with fail;refine(qhx A B l ws c d (k:Int) _ (h.keep hb) (g.keep hb) Hlen.out (by omega)).mono ?_;rintro e w2 ⟨A2,c2,rfl,o2,b2⟩;have B2:=qaa hb b2;by_cases hg0:0<(grp l ws (k:Int)).length
    ·have hpc:Hid (T++qpb l ws (k:Int)=((((T++[112,114,111,99,101,115,115,111,114,32])++num (k:Int))++[58,32])++qa9 (grp l ws (k:Int)))++[10]):=by rw[Hid,qpb,if_pos hg0];simp[List.append_assoc]
     generalize grp l ws (k:Int)=G at*;go_wp2_with fail;refine(qfh (k:Int) (by omega) (by omega) _).mono ?_;rintro e w3 ⟨rfl,b3⟩;go_wp2_with fail;refine(qfs A2 G c2 _ (o2.ts.keep b3) (by omega)).mono ?_;rintro e w4 ⟨rfl,b4⟩;go_wp2_with fail;go_roundw
     case rel=>exact⟨k+1,_,by go_num,by rw[hnx.out,hpc.out];simp only[←qan],by omega,rfl,qaa B2 (qaa b3 b4)⟩
     case measure=>simp[intOf];omega
    ·have hpc:Hid (qis l ws (k+1)=T):=by rw[Hid,hnx.out,qpb,if_neg hg0,List.append_nil]
     go_wp2_with fail;go_roundw
     case rel=>exact⟨k+1,_,by go_num,by rw[hpc.out],by omega,rfl,B2⟩
     case measure=>simp[intOf];omega
   ·obtain rfl:k=3:=by omega
    go_wp2_with fail;go_ret;exact⟨by rw[HF.out,←hT.out];rfl,hb⟩
end Go.Proofs.YtmkjmancmiphfaaGreatDoor

/-
  HoldsBy, CanHold: the program's and the reference's.
  PackValid: what it returns, in the program and in the reference.
  group, GroupOf: the tasks of a processor.
  Processors, in plain Lean: ways, first fit, the fewest.
  Admission, in plain Lean; and the share of what can hold.
  AdmitTask, AdmitAll: the reference's.
  The ways in order, one after the other, in plain Lean.
  What the laws on admission and packing lean on, in plain Lean.
  Texts of ways: the program's and the reference's.
-/
import Derived.Test.YtmkjmancmiphfaaGreatDoorRc30
import Derived.Test.YtmkjmancmiphfaaGreatDoorRc25
namespace Go.Proofs.YtmkjmancmiphfaaGreatDoor
set_option maxHeartbeats 8000000
set_option maxRecDepth 1000000
open Go.RowKit
theorem Vw(A:ZA)(l:List Tk)(c:Nat)(p:Int)(w:World)(h:TS w A l)(hm:l.length≤maxLen)(hlc:l.length≤c):
  Calls Tryz.prog 125 #[.slice A l.length c,.int .i64 p] w fun e w'=>e=.returned (.bool (qaf l p))∧Below w.heap.size w w':=by
 by_cases h0:p=0
 ·subst h0;have Hf:Hid (qaf l 0=qer l):=rfl;go_enter Tryz.func125,Tryz.ntmps125;go_wp2_with fail;refine(qo3 A l c _ h hlc).mono ?_;rintro e w1 ⟨rfl,b1⟩;go_wp2_with fail;go_ret;exact⟨by rw[Hf.out];rfl,b1⟩
 ·have e0:(p==0)=false:=beq_eq_false_iff_ne.2 h0;by_cases h1:p=1
  ·subst h1;have Hf:Hid (qaf l 1=qcd l):=rfl;go_enter Tryz.func125,Tryz.ntmps125;go_wp2_with fail;refine(qdx A l c _ h hm).mono ?_;rintro e w1 ⟨rfl,b1⟩;go_wp2_with fail;go_ret;exact⟨by rw[Hf.out];rfl,b1⟩
  ·have e1:(p==1)=false:=beq_eq_false_iff_ne.2 h1;have Hf:Hid (qaf l p=false):=by simp[Hid,qaf,h0,h1]
   clear h0 h1;go_enter Tryz.func125,Tryz.ntmps125;go_wp2_with fail;go_ret;exact⟨by rw[Hf.out];rfl,br⟩
theorem qak(A:ZA)(l:List Tk)(c:Nat)(p:Int)(w:World)(h:TS w A l)(hm:l.length≤maxLen):
  Calls Tryz.prog 86 #[.slice A l.length c,.int .i64 p] w fun e w'=>e=.returned (.bool (qaf l p))∧Below w.heap.size w w':=by
 by_cases h0:p=0
 ·subst h0;have Hf:Hid (qaf l 0=qer l):=rfl;go_enter Tryz.func86,Tryz.ntmps86;go_wp2_with fail;refine(qo4 A l c _ h hm).mono ?_;rintro e w1 ⟨rfl,b1⟩;go_wp2_with fail;go_ret;exact⟨by rw[Hf.out];rfl,b1⟩
 ·have e0:(p==0)=false:=beq_eq_false_iff_ne.2 h0;by_cases h1:p=1
  ·subst h1;have Hf:Hid (qaf l 1=qcd l):=rfl;go_enter Tryz.func86,Tryz.ntmps86;go_wp2_with fail;refine(qd2 A l c _ h hm).mono ?_;rintro e w1 ⟨rfl,b1⟩;go_wp2_with fail;go_ret;exact⟨by rw[Hf.out];rfl,b1⟩
  ·have e1:(p==1)=false:=beq_eq_false_iff_ne.2 h1;have Hf:Hid (qaf l p=false):=by simp[Hid,qaf,h0,h1]
   clear h0 h1;go_enter Tryz.func86,Tryz.ntmps86;go_wp2_with fail;go_ret;exact⟨by rw[Hf.out];rfl,br⟩
theorem qaw(A:ZA)(l:List Tk)(c:Nat)(p:Int)(w:World)(h:TS w A l)(hm:l.length≤maxLen)(hlc:l.length≤c):
  Calls Tryz.prog 194 #[.slice A l.length c,.int .i64 p] w fun e w'=>e=.returned (.bool (qmc l p))∧Below w.heap.size w w':=by
 by_cases h0:p=0
 ·subst h0;have Hf:Hid (qmc l 0=(Ve l).isSome):=rfl;go_enter Tryz.func194,Tryz.ntmps194;go_wp2_with fail;refine(qbz A l c _ h).mono ?_;rintro e w1 ⟨A1,c1,rfl,o1,b1⟩;go_wp2_with fail;go_ret;exact⟨by rw[Hf.out];rfl,b1⟩
 ·have e0:(p==0)=false:=beq_eq_false_iff_ne.2 h0;have Hf:Hid (qmc l p=qaf l p):=by simp[Hid,qmc,h0]
  clear h0;go_enter Tryz.func194,Tryz.ntmps194;go_wp2_with fail;refine(Vw A l c p _ h hm hlc).mono ?_;rintro e w1 ⟨rfl,b1⟩;go_wp2_with fail;go_ret;exact⟨by rw[Hf.out];rfl,b1⟩
theorem qij(A:ZA)(l:List Tk)(c:Nat)(p:Int)(w:World)(h:TS w A l)(hm:l.length≤maxLen):
  Calls Tryz.prog 212 #[.slice A l.length c,.int .i64 p] w fun e w'=>e=.returned (.bool (qmc l p))∧Below w.heap.size w w':=by
 by_cases h0:p=0
 ·subst h0;have Hf:Hid (qmc l 0=(Ve l).isSome):=rfl;go_enter Tryz.func212,Tryz.ntmps212;go_wp2_with fail;refine(qc3 A l c _ h hm).mono ?_;rintro e w1 ⟨A1,c1,rfl,o1,b1⟩;go_wp2_with fail;go_ret;exact⟨by rw[Hf.out];rfl,b1⟩
 ·have e0:(p==0)=false:=beq_eq_false_iff_ne.2 h0;have Hf:Hid (qmc l p=qaf l p):=by simp[Hid,qmc,h0]
  clear h0;go_enter Tryz.func212,Tryz.ntmps212;go_wp2_with fail;refine(qak A l c p _ h hm).mono ?_;rintro e w1 ⟨rfl,b1⟩;go_wp2_with fail;go_ret;exact⟨by rw[Hf.out];rfl,b1⟩
def wok(p x:Int):Bool:=decide (0≤x∧x<p)
def qar(l:List Tk)(ws:List Int)(p:Int):Bool:=Qe l&&decide (1≤p)&&decide (p≤3)&&decide (ws.length=l.length)&&ws.all (wok p)
theorem qjd(p:Int)(l:List Int)(k:Nat)(hk:k<l.length):(l.take (k+1)).all (wok p)=((l.take k).all (wok p)&&wok p l[k]):=by
 rw[Yad hk,List.all_append];simp
theorem qec(A B:ZA)(l:List Tk)(ws:List Int)(c d:Nat)(p:Int)(w:World)(h:TS w A l)(g:IS w B ws):
  Calls Tryz.prog 197 #[.slice A l.length c,.slice B ws.length d,.int .i64 p] w fun e w'=>e=.returned (.bool (qar l ws p))∧Below w.heap.size w w':=by
 by_cases hS:Qe l=true
 case neg=>
  have hS:Qe l=false:=by simpa using hS
  go_enter Tryz.func197,Tryz.ntmps197;go_wp2_with (go_at_call 34;refine(Qf _ l _ _ h).mono ?_;rintro e w2 ⟨rfl,hb2⟩)
  go_ret;exact⟨by simp[qar,hS],hb2⟩
 have hl5:=Vl hS;by_cases hall:1≤p∧p≤3∧ws.length=l.length
 case neg=>
  have hf:qar l ws p=false:=by simp only[qar];simp;omega
  have Hf:=zhi hf;clear hf;by_cases h1:1≤p
  ·by_cases h3:p≤3
   ·have hne:((ws.length:Int) !=l.length)=true:=by simp;omega
    go_enter Tryz.func197,Tryz.ntmps197;go_wp2_with (go_at_call 34;refine(Qf _ l _ _ h).mono ?_;rintro e w2 ⟨rfl,hb2⟩)
    go_ret;exact⟨by rw[Hf.out];rfl,hb2⟩
   ·go_enter Tryz.func197,Tryz.ntmps197;go_wp2_with (go_at_call 34;refine(Qf _ l _ _ h).mono ?_;rintro e w2 ⟨rfl,hb2⟩)
    go_ret;exact⟨by rw[Hf.out];rfl,hb2⟩
  ·go_enter Tryz.func197,Tryz.ntmps197;go_wp2_with (go_at_call 34;refine(Qf _ l _ _ h).mono ?_;rintro e w2 ⟨rfl,hb2⟩)
   go_ret;exact⟨by rw[Hf.out];rfl,hb2⟩
 obtain⟨h1,h3,hlen⟩:=hall;have hne:((ws.length:Int) !=l.length)=false:=by simp[hlen]
 have hws:ws.length≤5:=by omega
 have hp:qar l ws p=ws.all (wok p):=by simp[qar,hS,h1,h3,hlen]
 have Hp:=zhi hp;clear hp hlen;go_enter Tryz.func197,Tryz.ntmps197;go_wp2_with (go_at_call 34;refine(Qf _ l _ _ h).mono ?_;rintro e w2 ⟨rfl,hb2⟩)
 go_loopw [29] (fun i wr=> ∃k:Nat,k≤ws.length∧i=.int .i64 k∧Hid ((ws.take k).all (wok p)=true)∧Below w.heap.size w wr) (fun i _=>ws.length-(intOf i).toNat)
 case atStart=>exact⟨0,Nat.zero_le _,rfl,by simp[Hid],hb2⟩
 case round=>
  obtain⟨k,hk,rfl,hok,hb⟩:=hrel;by_cases hlt:k<ws.length
  ·obtain⟨b,off,rfl,hbl,hc⟩:=g (by omega);have c0:=(hb.cell (p:=⟨b,off+k,none⟩) hbl).trans (hc k _ (Ybb hlt));clear hc;by_cases hx:0≤ws[k]∧ws[k]<p
   ·obtain⟨hx0,hx1⟩:=hx;go_wp2
    go_roundw
    case rel=>exact⟨k+1,by omega,by go_num,by rw[Hid,qjd p ws k hlt,hok.out];simp[wok,hx0,hx1],hb⟩
    case measure=>simp[intOf];omega
   ·have hbad:ws.all (wok p)=false:=List.all_eq_false.2 ⟨ws[k],Yao _,by simp only[wok];simpa using hx⟩;have Hbad:=zhi hbad;clear hbad;by_cases hx0:0≤ws[k]
    all_goals
     go_wp2
     go_ret;exact⟨by rw[Hp.out,Hbad.out];rfl,hb⟩
  ·go_wp2
   go_ret;have e:=hok.out;rw[Yar (by omega)] at e;exact⟨by rw[Hp.out,e];rfl,hb⟩
def qzm(p:Int):Bool:=decide (1≤p∧p≤3)
theorem qbb(p:Int)(w:World):
  Calls Tryz.prog 203 #[.int .i64 p] w fun e w'=>e=.returned (.bool (qzm p))∧w=w':=by
 by_cases h1:1≤p
 ·by_cases h3:p≤3
  all_goals
   go_enter Tryz.func203,Tryz.ntmps203;go_wp2
   go_ret;exact⟨by simp[qzm];omega,rfl⟩
 ·go_enter Tryz.func203,Tryz.ntmps203;go_wp2
  go_ret;exact⟨by simp[qzm];omega,rfl⟩
theorem qed(A B:ZA)(l:List Tk)(ws:List Int)(c d:Nat)(p:Int)(w:World)(h:TS w A l)(g:IS w B ws)(hm:l.length≤9223372036854775807):
  Calls Tryz.prog 213 #[.slice A l.length c,.slice B ws.length d,.int .i64 p] w fun e w'=>e=.returned (.bool (qar l ws p))∧Below w.heap.size w w':=by
 by_cases hS:Qe l=true
 case neg=>
  have hS:Qe l=false:=by simpa using hS
  go_enter Tryz.func213,Tryz.ntmps213;go_wp2_with (go_at_call 55;refine(Qd _ l _ _ h hm).mono ?_;rintro e w2 ⟨rfl,hb2⟩)
  go_ret;exact⟨by simp[qar,hS],hb2⟩
 have hl5:=Vl hS;by_cases hlen:ws.length=l.length
 case neg=>
  have hf:qar l ws p=false:=by simp only[qar];simp;omega
  have Hf:=zhi hf;clear hf;have hne:((ws.length:Int) !=l.length)=true:=by simp;omega
  go_enter Tryz.func213,Tryz.ntmps213;go_wp2_with (go_at_call 55;refine(Qd _ l _ _ h hm).mono ?_;rintro e w2 ⟨rfl,hb2⟩)
  go_ret;exact⟨by rw[Hf.out];rfl,hb2⟩
 have hne:((ws.length:Int) !=l.length)=false:=by simp[hlen]
 by_cases hn:1≤p∧p≤3
 case neg=>
  have hf:qar l ws p=false:=by simp only[qar];simp;omega
  have Hf:=zhi hf;have hn':qzm p=false:=by simpa [qzm] using hn
  clear hf hn hlen;go_enter Tryz.func213,Tryz.ntmps213;go_wp2_with (first|(go_at_call 55;refine(Qd _ l _ _ h hm).mono ?_;rintro e w2 ⟨rfl,hb2⟩)|(go_at_call 203;refine(qbb _ _).mono ?_;rintro e w3 ⟨rfl,rfl⟩))
  all_goals go_ret
  all_goals exact⟨by rw[Hf.out];rfl,hb2⟩
 have hn':qzm p=true:=by simpa [qzm] using hn
 obtain⟨h1,h3⟩:=hn;have hws:ws.length≤5:=by omega
 have hp:qar l ws p=ws.all (wok p):=by simp[qar,hS,h1,h3,hlen]
 have Hp:=zhi hp;clear hp hlen;go_enter Tryz.func213,Tryz.ntmps213;go_wp2_with (first|(go_at_call 55;refine(Qd _ l _ _ h hm).mono ?_;rintro e w2 ⟨rfl,hb2⟩)|(go_at_call 203;refine(qbb _ _).mono ?_;rintro e w3 ⟨rfl,rfl⟩))
 go_loopw [7] (fun i wr=> ∃k:Nat,k≤ws.length∧i=.int .i64 k∧Hid ((ws.take k).all (wok p)=true)∧Below w.heap.size w wr) (fun i _=>ws.length-(intOf i).toNat)
 case atStart=>exact⟨0,Nat.zero_le _,rfl,by simp[Hid],hb2⟩
 case round=>
  obtain⟨k,hk,rfl,hok,hb⟩:=hrel;by_cases hlt:k<ws.length
  ·obtain⟨b,off,rfl,hbl,hc⟩:=g (by omega);have c0:=(hb.cell (p:=⟨b,off+k,none⟩) hbl).trans (hc k _ (Ybb hlt));clear hc;by_cases hx:0≤ws[k]∧ws[k]<p
   ·obtain⟨hx0,hx1⟩:=hx;go_wp2
    go_roundw
    case rel=>exact⟨k+1,by omega,by go_num,by rw[Hid,qjd p ws k hlt,hok.out];simp[wok,hx0,hx1],hb⟩
    case measure=>simp[intOf];omega
   ·have hbad:ws.all (wok p)=false:=List.all_eq_false.2 ⟨ws[k],Yao _,by simp only[wok];simpa using hx⟩;have Hbad:=zhi hbad;clear hbad;by_cases hx0:0≤ws[k]
    all_goals
     go_wp2
     go_ret;exact⟨by rw[Hp.out,Hbad.out];rfl,hb⟩
  ·go_wp2
   go_ret;have e:=hok.out;rw[Yar (by omega)] at e;exact⟨by rw[Hp.out,e];rfl,hb⟩
def grp(l:List Tk)(ws:List Int)(p:Int):List Tk:=((l.zip ws).filter (fun x=>decide (x.2=p))).map Prod.fst
theorem qmk{l:List Tk}{ws:List Int}{p:Int}{k:Nat}(hk:k<l.length)(hw:k<ws.length)(h:ws[k]=p):grp (l.take (k+1)) (ws.take (k+1)) p=grp (l.take k) (ws.take k) p++[l[k]]:=by
 unfold grp;rw[Yad hk,Yad hw,List.zip_append (by simp;omega),Ycr,Ybg];simp[h]
theorem qkx{l:List Tk}{ws:List Int}{p:Int}{k:Nat}(hk:k<l.length)(hw:k<ws.length)(h:ws[k]≠p):grp (l.take (k+1)) (ws.take (k+1)) p=grp (l.take k) (ws.take k) p:=by
 unfold grp;rw[Yad hk,Yad hw,List.zip_append (by simp;omega),Ycr,Ybg];simp[h]
theorem qgo(l:List Tk)(ws:List Int)(p:Int):(grp l ws p).length≤l.length:=by
 unfold grp;rw[Ybh];exact zll (List.length_filter_le _ _) (by rw[List.length_zip];exact Nat.min_le_left _ _)
theorem qi2(A B:ZA)(l:List Tk)(ws:List Int)(c d:Nat)(p:Int)(w:World)(h:TS w A l)(g:IS w B ws)(hlen:ws.length=l.length)(hl:l.length≤100000):
  Calls Tryz.prog 195 #[.slice A l.length c,.slice B ws.length d,.int .i64 p] w (q2t w (grp l ws p)):=by
 have hws:ws.length≤100000:=by omega
 have Hlen:=zhi hlen;clear hlen;go_enter Tryz.func195,Tryz.ntmps195;go_wp2_with fail;go_loopw [7,13] (fun v i wr=> ∃(k:Nat) (A':ZA) (c':Nat) (l':List Tk),i=.int .i64 (k:Int)∧v=.slice A' l'.length c'∧k≤ws.length∧Hid (l'=grp (l.take k) (ws.take k) p)∧OT w.heap.size wr A' c' l'∧Below w.heap.size w wr) (fun _ i _=>ws.length-(intOf i).toNat)
 case atStart=>exact⟨0,_,0,[],rfl,rfl,by omega,by simp[Hid,grp],Q8 w _ (zlr _),bal br _⟩
 case round=>
  obtain⟨k,A',c',l',rfl,rfl,hk,hg,hO,hb⟩:=hrel
  have hll:l'.length≤100000:=by
   have:=qgo (l.take k) (ws.take k) p;rw[←hg.out] at this;have:=List.length_take_le k l;simp at*;omega
  by_cases hlt:k<ws.length
  ·have hltl:k<l.length:=by rw[←Hlen.out];exact hlt
   obtain⟨b,off,rfl,hbl,hc⟩:=h.keep hb (by omega);obtain⟨b',off',rfl,hbl',hc'⟩:=g.keep hb (by omega);obtain⟨c0,c1,c2,c3,c4⟩:=qaa hc k hltl;have d0:=hc' k _ (Ybb hlt);clear hc hc';by_cases hp:ws[k]=p
   ·have hp':(ws[k]==p)=true:=Yef.2 hp;have Hp:=zhi hp;clear hp;go_wp2_with (at_builtin;refine qa1 _ rfl _ _ rfl w.heap.size A' l' c' rfl (Vb hO _) wr.heap.size 1 l[k] _ 58 rfl (zha wr _) rfl (by omega) (by have:=hb.size;simp;omega) ?_;intro A3 c3' w3 hO3 hg3 hb3)
    go_roundw
    case rel=>exact⟨k+1,A3,c3',l'++[l[k]],by go_num,by simp,by omega,by rw[Hid,qmk hltl hlt Hp.out,hg.out],hO3,(bal hb _).trans hb3⟩
    case measure=>simp[intOf];omega
   ·have hp':(ws[k]==p)=false:=beq_eq_false_iff_ne.2 hp;go_wp2_with fail;go_roundw
    case rel=>exact⟨k+1,A',c',l',by go_num,rfl,by omega,by rw[Hid,qkx hltl hlt hp,hg.out],hO,hb⟩
    case measure=>simp[intOf];omega
  ·go_wp2_with fail;go_ret;have e:=hg.out;rw[Yar (by rw[←Hlen.out];omega),Yar (by omega)] at e;subst e;exact⟨A',c',rfl,hO,hb⟩
theorem qge(A B:ZA)(l:List Tk)(ws:List Int)(c d:Nat)(p:Int)(w:World)(h:TS w A l)(g:IS w B ws)(hlen:ws.length=l.length)(hl:l.length≤100000):
  Calls Tryz.prog 211 #[.slice A l.length c,.slice B ws.length d,.int .i64 p] w (q2t w (grp l ws p)):=by
 have hws:ws.length≤100000:=by omega
 have Hlen:=zhi hlen;clear hlen;go_enter Tryz.func211,Tryz.ntmps211;go_wp2_with fail;go_loopw [7,8] (fun v i wr=> ∃(k:Nat) (A':ZA) (c':Nat) (l':List Tk),i=.int .i64 (k:Int)∧v=.slice A' l'.length c'∧k≤ws.length∧Hid (l'=grp (l.take k) (ws.take k) p)∧OT w.heap.size wr A' c' l'∧Below w.heap.size w wr) (fun _ i _=>ws.length-(intOf i).toNat)
 case atStart=>exact⟨0,_,0,[],rfl,rfl,by omega,by simp[Hid,grp],Q8 w _ (zlr _),bal br _⟩
 case round=>
  obtain⟨k,A',c',l',rfl,rfl,hk,hg,hO,hb⟩:=hrel
  have hll:l'.length≤100000:=by
   have:=qgo (l.take k) (ws.take k) p;rw[←hg.out] at this;have:=List.length_take_le k l;simp at*;omega
  by_cases hlt:k<ws.length
  ·have hltl:k<l.length:=by rw[←Hlen.out];exact hlt
   obtain⟨b,off,rfl,hbl,hc⟩:=h.keep hb (by omega);obtain⟨b',off',rfl,hbl',hc'⟩:=g.keep hb (by omega);obtain⟨c0,c1,c2,c3,c4⟩:=qaa hc k hltl;have d0:=hc' k _ (Ybb hlt);clear hc hc';by_cases hp:ws[k]=p
   ·have hp':(ws[k]==p)=true:=Yef.2 hp;have Hp:=zhi hp;clear hp;go_wp2_with (at_builtin;refine qa1 _ rfl _ _ rfl w.heap.size A' l' c' rfl (Vb hO _) wr.heap.size 1 l[k] _ 58 rfl (zha wr _) rfl (by omega) (by have:=hb.size;simp;omega) ?_;intro A3 c3' w3 hO3 hg3 hb3)
    go_roundw
    case rel=>exact⟨k+1,A3,c3',l'++[l[k]],by go_num,by simp,by omega,by rw[Hid,qmk hltl hlt Hp.out,hg.out],hO3,(bal hb _).trans hb3⟩
    case measure=>simp[intOf];omega
   ·have hp':(ws[k]==p)=false:=beq_eq_false_iff_ne.2 hp;go_wp2_with fail;go_roundw
    case rel=>exact⟨k+1,A',c',l',by go_num,rfl,by omega,by rw[Hid,qkx hltl hlt hp,hg.out],hO,hb⟩
    case measure=>simp[intOf];omega
  ·go_wp2_with fail;go_ret;have e:=hg.out;rw[Yar (by rw[←Hlen.out];omega),Yar (by omega)] at e;subst e;exact⟨A',c',rfl,hO,hb⟩
def qg6(m:Int):Bool:=decide (1≤m∧m≤3)
def q36(p:Int):Bool:=p==0||p==1
def pkH(l:List Tk)(ws:List Int)(m p:Int):Bool:=qar l ws m&&(List.range m.toNat).all (fun q=>qmc (grp l ws (q:Int)) p)
theorem qn1(l:List Tk)(ws:List Int)(m:Int):qar l ws m=true↔Qe l=true∧1≤m∧m≤3∧ws.length=l.length∧ ∀x∈ws,0≤x∧x<m:=by
 simp only[qar,Yac,Yae,Yaz,wok];constructor
 ·rintro⟨⟨⟨⟨a,b⟩,c⟩,d⟩,e⟩;exact⟨a,b,c,d,e⟩
 ·rintro⟨a,b,c,d,e⟩;exact⟨⟨⟨⟨a,b⟩,c⟩,d⟩,e⟩
theorem qrt(l:List Tk)(ws:List Int)(m p:Int):pkH l ws m p=true↔qar l ws m=true∧ ∀q:Nat,q<m.toNat→qmc (grp l ws (q:Int)) p=true:=by
 simp only[pkH,Yac,Yaz,Ybu]
def swp(a b x:Int):Int:=if x=a then b else if x=b then a else x
def way(m:Nat):Nat→Nat→List Int
 |0,_=>[]
 |n+1,k=>way m n (k/m)++[((k % m:Nat):Int)]
theorem qg7(m n k:Nat):(way m n k).length=n:=by
 induction n generalizing k with
 |zero=>rfl
 |succ n ih=>simp[way,ih]
theorem q7j{m:Nat}(hm:0<m)(n k:Nat): ∀x∈way m n k,0≤x∧x<(m:Int):=by
 induction n generalizing k with
 |zero=>simp[way]
 |succ n ih=>
  intro x hx;simp only[way,Ybq,Yaw] at hx;rcases hx with hx|rfl
  ·exact ih _ x hx
  ·have:=Nat.mod_lt k hm;omega
def qbc(f:Nat→Bool):Nat→Nat→Option Nat
 |0,_=>none
 |n+1,k=>if f k then some k else qbc f n (k+1)
def q72(l:List Tk)(m:Nat)(p:Int):Option Nat:=qbc (fun k=>pkH l (way m l.length k) (m:Int) p) (m^l.length) 0
def qhm(l:List Tk)(m p:Int):Option (List Int):=if Qe l&&qg6 m then(q72 l m.toNat p).map (way m.toNat l.length) else none
def qru(l:List Tk)(p:Int):Option Int:=
 if(qhm l 1 p).isSome then some 1 else if(qhm l 2 p).isSome then some 2 else if(qhm l 3 p).isSome then some 3 else none
theorem qik{l:List Tk}{p n:Int}(h:qru l p=some n):1≤n∧n≤3∧(qhm l n p).isSome=true∧ ∀j:Int,j<n→(qhm l j p).isSome=false:=by
 have hz: ∀j:Int,j<1→(qhm l j p).isSome=false:=by
  intro j hj;have:qg6 j=false:=by simp[qg6];omega
  simp[qhm,this]
 unfold qru at h;split at h
 ·cases h
  exact⟨by omega,by omega,by assumption,hz⟩
 ·rename_i h1
  split at h
  ·cases h
   refine⟨by omega,by omega,by assumption,fun j hj=>?_⟩;by_cases e:j=1
   ·subst e;simpa using h1
   ·exact hz j (by omega)
  ·rename_i h2
   split at h
   ·cases h
    refine⟨by omega,by omega,by assumption,fun j hj=>?_⟩;by_cases e:j=1
    ·subst e;simpa using h1
    ·by_cases e:j=2
     ·subst e;simpa using h2
     ·exact hz j (by omega)
   ·cases h
def qhn(l:List Tk)(ws:List Int)(p:Int)(q:Nat):Bool:=qmc (grp (l.take ws.length) ws (q:Int)++[Qg l ws.length]) p
def qtz(l:List Tk)(m:Nat)(p:Int):Nat→List Int→Option (List Int)
 |0,ws=>some ws
 |n+1,ws=>
  match qbc (qhn l ws p) m 0 with
  |none=>none
  |some q=>qtz l m p n (ws++[(q:Int)])
def qht(l:List Tk)(m p:Int):Option (List Int):=if Qe l&&qg6 m&&q36 p then qtz l m.toNat p l.length [] else none
theorem qxr{l:List Tk}{ws:List Int}(hw:ws.length<l.length)(x q:Int):grp (l.take (ws.length+1)) (ws++[x]) q=grp (l.take ws.length) ws q++(if x=q then [Qg l ws.length] else []):=by
 unfold grp;rw[Yad hw,List.zip_append (by simp;omega),Ycr,Ybg,qbi l _ hw];by_cases h:x=q<;>simp[h]
def qax(l:List Tk)(t:Tk)(p:Int):Option (List Tk):=
 if qaf l p&&Qe (l++[t]) then
  if p=1 then(if qcd (l++[t]) then some (l++[t]) else none)
  else match Ve (l++[t]) with
   |none=>none
   |some o=>some (qb5 (l++[t]) o)
 else none
theorem q1p{l:List Tk}{p:Int}(h:qaf l p=true):p=0∨p=1:=by
 unfold qaf at h;split at h
 ·exact .inl (by assumption)
 ·split at h
  ·exact .inr (by assumption)
  ·cases h
theorem qn2{l x:List Tk}{t:Tk}{p:Int}(h:qax l t p=some x):qaf l p=true∧Qe (l++[t])=true∧x.Perm (l++[t])∧qaf x p=true:=by
 simp only[qax] at h;split at h
 ·rename_i hc
  simp only[Yac] at hc;refine⟨hc.1,hc.2,?_⟩;split at h
  ·rename_i e
   split at h
   ·rename_i hv
    cases h
    refine⟨List.Perm.refl _,?_⟩;subst e;simp[qaf,hv]
   ·cases h
  ·rename_i e
   have p0:p=0:=(q1p hc.1).resolve_right e;subst p0;split at h
   ·cases h
   ·rename_i o ho
    cases h
    obtain⟨_,h1,h2⟩:=qdw ho;refine⟨?_,by simpa [qaf] using h2⟩;have hp:=qki (l++[t]) h1;rwa [qlg] at hp
 ·cases h
def hyp(l:List Tk):Nat:=l.foldl (fun a t=>Nat.lcm a t.every.toNat) 1
def q60(l:List Tk)(t:Tk)(p:Int):List Tk:=(qax l t p).getD []
theorem qds{l:List Tk}{t:Tk}{p:Int}(h:qax l t p=none):q60 l t p=[]∧(qax l t p).isSome=false:=by simp[q60,h]
theorem qg8{l x:List Tk}{t:Tk}{p:Int}(h:qax l t p=some x):q60 l t p=x∧(qax l t p).isSome=true:=by simp[q60,h]
theorem qv8(w:World)(base n:Nat)(hn:w.heap.size=n)(hb:base≤n):OT base (w.alloc (.cells #[] 58)) (some ⟨n,0,none⟩) 0 []:=by
 subst hn;exact Q8 w base hb
theorem qjz(w:World)(o:Obj)(n:Nat)(hn:w.heap.size=n):(w.alloc o).heap[n]? =some o:=by
 subst hn;exact zha w o
theorem qqp(l:List Tk)(t:Tk)(p:Int):qax l t p=(if qaf l p&&Qe (l++[t]) then
  if p=1 then(if qcd (l++[t]) then some (l++[t]) else none)
  else match Ve (l++[t]) with
   |none=>none
   |some o=>some (qb5 (l++[t]) o)
 else none):=rfl
theorem qpd(A:ZA)(l:List Tk)(t:Tk)(c:Nat)(p:Int)(w:World)(h:TS w A l)(hl:l.length≤1100000)(hA:A=none→c=0):
  Calls Tryz.prog 94 #[.slice A l.length c,t.val,.int .i64 p] w (qq2 w (q60 l t p) (qax l t p).isSome):=by
 have hlm:l.length≤maxLen:=by unfold maxLen;omega
 have hallm:(l++[t]).length≤maxLen:=by unfold maxLen;simp;omega
 have hall:Hid ((l++[t]).length=l.length+1):=by simp[Hid]
 go_enter Tryz.func94,Tryz.ntmps94;go_upto_region 1 with fail;have B0:=bal (Below.refl w.heap.size w) (.cells #[.int .i64 t.low,.int .i64 t.high,.int .i64 t.due,.int .i64 t.every,.bool t.crit] 58 (0,0));have hN0:=zha w (.cells #[.int .i64 t.low,.int .i64 t.high,.int .i64 t.due,.int .i64 t.every,.bool t.crit] 58 (0,0));have hz0:w.heap.size<(w.alloc (.cells #[.int .i64 t.low,.int .i64 t.high,.int .i64 t.due,.int .i64 t.every,.bool t.crit] 58 (0,0))).heap.size:=by simp
 generalize hw0:World.alloc w _=w0 at B0 hN0 hz0⊢;generalize hn4:w.heap.size=n4 at hN0 hz0⊢;have hwn:w.heap.size≤n4:=by omega
 have hS:=h.keep (B0.mono (by omega));have hbx:n4<w0.heap.size:=hz0;obtain⟨t0,t1,t2,t3,t4,_⟩:=Qc hN0;have hne:Hid (w.heap.size=n4):=hn4;clear hw0 hn4;have hz:w0.heap.size≠w0.heap.size+1:=by omega
 go_cut [8] from 11 to 16 (fun v wc=> ∃A2 c2,v=.slice A2 (l.length+1) c2∧OT w0.heap.size wc A2 c2 (l++[t])∧Below w0.heap.size w0 wc)
 case first=>
  go_region_law (first
   |(refine qh3 rfl (.tmp 11) (.tmp 12) rfl w0.heap.size (some ⟨w0.heap.size+1,0,none⟩) [] 0 0 rfl (by simp[Act.eval]) (qv8 _ _ (w0.heap.size+1) (by simp) (by omega)) A l.length c l rfl (by simp[Act.eval]) (hS.keep (bal (bal (zdr br) _) _)) hA (by simp) (by omega) (by simp<;>omega) ?_;intro A1 c1 w1 o1 g1 b1;have HN:=zhi ((g1.block w0.heap.size (by simp<;>omega) (by simp[Value.ownBlock])).trans ((Yaj _ _ _ (by simp)).trans (qjz (World.drew w0) _ w0.heap.size rfl)));have B1:Below w0.heap.size w0 w1:=(bal (bal (zdr br) _) _).trans b1)
   |(refine qh3 rfl (.tmp 11) (.tmp 12) rfl w0.heap.size (some ⟨w0.heap.size,0,none⟩) [] 0 0 rfl (by simp[Act.eval]) (Vb (Q8 (World.drew w0) _ (zlr _)) _) A l.length c l rfl (by simp[Act.eval]) (hS.keep (bal (bal (zdr br) _) _)) hA (by simp) (by omega) (by simp<;>omega) ?_;intro A1 c1 w1 o1 g1 b1;have HN:=zhi ((g1.block (w0.heap.size+1) (by simp<;>omega) (by simp[Value.ownBlock])).trans (qjz _ _ (w0.heap.size+1) (by simp)));have B1:Below w0.heap.size w0 w1:=(bal (bal (zdr br) _) _).trans b1)
   |(refine qh3 rfl (.tmp 11) (.tmp 12) rfl w0.heap.size (some ⟨w0.heap.size,0,none⟩) [] 0 0 rfl (by simp[Act.eval]) (Q8 (World.drew w0) _ (zlr _)) A l.length c l rfl (by simp[Act.eval]) (hS.keep (bal (zdr br) _)) hA (by simp) (by omega) (by simp<;>omega) ?_;intro A1 c1 w1 o1 g1 b1;have B1:Below w0.heap.size w0 w1:=(bal (zdr br) _).trans b1;obtain⟨k0,k1,k2,k3,k4,_⟩:=Qc ((B1.block n4 hbx).trans hN0))
   |(have hsrc:=HN.out;refine Qy rfl (.tmp 13) (.tmp 15) rfl w0.heap.size A1 l l.length c1 rfl (by simp[Act.eval]) o1 ⟨_,0,none⟩ 1 1 [t] rfl (by simp[Act.eval]) (qf7 hsrc rfl) (by omega) (by simp) B1.size ?_;intro A2 c2 w2 o2 g2 b2;clear hsrc;have B2:Below w0.heap.size w0 w2:=B1.trans b2)
   |(refine Qy rfl (.tmp 13) (.tmp 15) rfl w0.heap.size A1 l l.length c1 rfl (by simp[Act.eval]) (Vb o1 _) ⟨w1.heap.size,0,none⟩ 1 1 [t] rfl (by simp[Act.eval]) (qf7 (zha w1 _) rfl) (by omega) (by simp) (by have:=B1.size;simp;omega) ?_;intro A2 c2 w2 o2 g2 b2;have B2:Below w0.heap.size w0 w2:=(bal B1 _).trans b2))
  all_goals go_wp2_with fail
  all_goals go_meet
  all_goals exact⟨A2,c2,rfl,o2,B2⟩
 case rest=>
  obtain⟨A2,c2,rfl,o2,B2⟩:=hcut;clear hN0 t0 t1 t2 t3 t4 hbx hz hz0;have hwn0:w.heap.size≤w0.heap.size:=B0.size;have o2':OT w.heap.size wc A2 c2 (l++[t]):=Ql o2 hwn0;have Bw:Below w.heap.size w wc:=B0.trans (B2.mono hwn0);have hS2:=h.keep Bw;clear o2 B2 B0 hS hwn hne;have hadm:=qqp l t p;generalize l++[t]=all at hallm hall o2' hadm;have Hadm:=zhi hadm;clear hadm;have s2:=Qo o2';obtain⟨s21,_⟩:=s2;rw[hall.out] at s21;cases hB:qaf l p with
  |false=>
   have hn:qax l t p=none:=by rw[Hadm.out];simp[hB]
   have Hn:=zhi (qds hn);clear hn;go_wp2_with fail;refine(qak A l c p _ hS2 hlm).mono ?_;rw[hB];rintro e w3 ⟨rfl,b3⟩;go_wp2_with fail;go_ret2;rw[Hn.out.1,Hn.out.2];exact⟨_,0,rfl,Q8 _ _ (Qa Bw b3).size,bal (Qa Bw b3) _⟩
  |true=>
   have HB:=zhi hB;clear hB;cases hV:Qe all with
   |false=>
    have hn:qax l t p=none:=by rw[Hadm.out];simp[hV]
    have Hn:=zhi (qds hn);clear hn;go_wp2_with fail;refine(qak A l c p _ hS2 hlm).mono ?_;rw[HB.out];rintro e w3 ⟨rfl,b3⟩;have B3:=Qa Bw b3;have o3:=Q5 o2' b3;have K:=Qd A2 all c2 w3 o3.ts hallm;rw[hall.out,hV] at K;go_wp2_with fail;refine K.mono ?_;rintro e w4 ⟨rfl,b4⟩;go_wp2_with fail;go_ret2;rw[Hn.out.1,Hn.out.2];exact⟨_,0,rfl,Q8 _ _ (Qa B3 b4).size,bal (Qa B3 b4) _⟩
   |true=>
    have HV:=zhi hV;clear hV;have hl5:all.length≤5:=(Qj HV.out).1;by_cases hp:p=1
    ·subst hp;cases hW:qcd all with
     |false=>
      have hn:qax l t 1=none:=by rw[Hadm.out];simp[hW]
      have Hn:=zhi (qds hn);clear hn;go_wp2_with fail;refine(qak A l c 1 _ hS2 hlm).mono ?_;rw[HB.out];rintro e w3 ⟨rfl,b3⟩;have B3:=Qa Bw b3;have o3:=Q5 o2' b3;have K:=Qd A2 all c2 w3 o3.ts hallm;rw[hall.out,HV.out] at K;go_wp2_with fail;refine K.mono ?_;clear K;rintro e w4 ⟨rfl,b4⟩;have B4:=Qa B3 b4;have o4:=Q5 o3 b4;have K:=qd2 A2 all c2 w4 o4.ts hallm;rw[hall.out,hW] at K;go_wp2_with fail;refine K.mono ?_;rintro e w5 ⟨rfl,b5⟩;go_wp2_with fail;go_ret2;rw[Hn.out.1,Hn.out.2];exact⟨_,0,rfl,Q8 _ _ (Qa B4 b5).size,bal (Qa B4 b5) _⟩
     |true=>
      have hn:qax l t 1=some all:=by rw[Hadm.out];simp[hW,HB.out,HV.out]
      have Hn:=zhi (qg8 hn);clear hn;go_wp2_with fail;refine(qak A l c 1 _ hS2 hlm).mono ?_;rw[HB.out];rintro e w3 ⟨rfl,b3⟩;have B3:=Qa Bw b3;have o3:=Q5 o2' b3;have K:=Qd A2 all c2 w3 o3.ts hallm;rw[hall.out,HV.out] at K;go_wp2_with fail;refine K.mono ?_;clear K;rintro e w4 ⟨rfl,b4⟩;have B4:=Qa B3 b4;have o4:=Q5 o3 b4;have K:=qd2 A2 all c2 w4 o4.ts hallm;rw[hall.out,hW] at K;go_wp2_with fail;refine K.mono ?_;rintro e w5 ⟨rfl,b5⟩;go_wp2_with fail;go_ret2;rw[Hn.out.1,Hn.out.2];exact⟨A2,c2,by rw[hall.out];rfl,Q5 o4 b5,Qa B4 b5⟩
    ·have hp1:(p==1)=false:=beq_eq_false_iff_ne.2 hp;obtain⟨R,hR⟩: ∃R,Ve all=R:=⟨_,rfl⟩;cases R with
     |none=>
      have hn:qax l t p=none:=by rw[Hadm.out];simp[hp,hR]
      have Hn:=zhi (qds hn);clear hn;have hg:qmd all=[]∧(Ve all).isSome=false:=by simp[qmd,hR]
      have HG:=zhi hg;clear hR hp hg;go_wp2_with fail;refine(qak A l c p _ hS2 hlm).mono ?_;rw[HB.out];rintro e w3 ⟨rfl,b3⟩;have B3:=Qa Bw b3;have o3:=Q5 o2' b3;have K:=Qd A2 all c2 w3 o3.ts hallm;rw[hall.out,HV.out] at K;go_wp2_with fail;refine K.mono ?_;clear K;rintro e w4 ⟨rfl,b4⟩;have B4:=Qa B3 b4;have o4:=Q5 o3 b4;have K:=qc3 A2 all c2 w4 o4.ts hallm;rw[hall.out,HG.out.1,HG.out.2] at K;go_wp2_with fail;refine K.mono ?_;rintro e w5 ⟨A5,c5,rfl,o5,b5⟩;go_wp2_with fail;go_ret2;rw[Hn.out.1,Hn.out.2];exact⟨_,0,rfl,Q8 _ _ (Qa B4 b5).size,bal (Qa B4 b5) _⟩
     |some o=>
      have hn:qax l t p=some (qb5 all o):=by rw[Hadm.out];simp[hp,hR,HB.out,HV.out]
      have Hn:=zhi (qg8 hn);clear hn;have hg:qmd all=Vv o∧(Ve all).isSome=true:=by simp[qmd,hR]
      obtain⟨g1,g2,g3⟩:=qdw hR;have hol:Hid (o.length=l.length+1):=by rw[Hid,g2.length_eq,List.length_range];exact hall.out
      have hpl:Hid ((qb5 all o).length=l.length+1):=by rw[Hid,qdv];exact hol.out
      have hx: ∀x∈o,x<all.length:=fun x hx=>Ybu.1 (g2.mem_iff.1 hx)
      have HX:=zhi hx;have HG:=zhi hg;clear hR hp hg g1 g2 g3 hx;go_wp2_with fail;refine(qak A l c p _ hS2 hlm).mono ?_;rw[HB.out];rintro e w3 ⟨rfl,b3⟩;have B3:=Qa Bw b3;have o3:=Q5 o2' b3;have K:=Qd A2 all c2 w3 o3.ts hallm;rw[hall.out,HV.out] at K;go_wp2_with fail;refine K.mono ?_;clear K;rintro e w4 ⟨rfl,b4⟩;have B4:=Qa B3 b4;have o4:=Q5 o3 b4;have K:=qc3 A2 all c2 w4 o4.ts hallm;rw[hall.out,HG.out.1,HG.out.2] at K;go_wp2_with fail;refine K.mono ?_;clear K;rintro e w5 ⟨A5,c5,he,o5,b5⟩;rw[Qh,hol.out] at he;subst he;have B5:=Qa B4 b5;have K:=qlh A2 A5 all o c2 c5 w5 ((Q5 o4 b5).ts) o5.is HX.out (by omega) (by rw[hol.out,←hall.out];omega);rw[hall.out,hol.out] at K;go_wp2_with fail;refine K.mono ?_;rintro e w6 ⟨A6,c6,rfl,o6,b6⟩;have o6':OT w.heap.size w6 A6 c6 (qb5 all o):=Ql o6 B5.size;go_wp2_with fail;go_ret2;rw[Hn.out.1,Hn.out.2];exact⟨A6,c6,rfl,o6',Qa B5 b6⟩
theorem q37{m:Nat}(hm:0<m)(n k j:Nat)(hj:j<n)(hd: ∀i,j<i→i<n→(way m n k)[i]? =some ((m:Int)-1))(d:Int)(h1:(way m n k)[j]? =some d)(h2:d≠(m:Int)-1):
  way m n (k+1)=(way m n k).take j++(d+1)::List.replicate (n-j-1) 0:=by
 induction n generalizing k j with
 |zero=>omega
 |succ n ih=>
  have hl:=qg7 m n (k/m);simp only[way] at hd h1⊢;have hmod:k % m<m:=Nat.mod_lt _ hm;have hdm:m*(k/m)+k % m=k:=Nat.div_add_mod k m;by_cases e:j=n
  ·subst e;rw[Ybd (by omega),hl,Ycc] at h1;simp at h1;subst h1;have hlt:k % m+1<m:=by omega
   have e1:k+1=m*(k/m)+(k % m+1):=by omega
   have e2:(k+1)/m=k/m:=by rw[e1,Nat.mul_add_div hm,Nat.div_eq_of_lt hlt];omega
   have e3:(k+1) % m=k % m+1:=by rw[e1,Nat.mul_add_mod,Nat.mod_eq_of_lt hlt]
   rw[e2,e3,List.take_append_of_le_length (by omega),Yar (by omega)];simp
  ·have hjn:j<n:=by omega
   have h3:=hd n hjn (by omega);rw[Ybd (by omega),hl,Ycc] at h3;simp at h3;have hk:k % m+1=m:=by omega
   have e1:k+1=m*(k/m+1):=by rw[Nat.mul_add,Nat.mul_one];omega
   have e2:(k+1)/m=k/m+1:=by rw[e1,Nat.mul_div_cancel_left _ hm]
   have e3:(k+1) % m=0:=by rw[e1,Nat.mul_mod_right]
   have h4:=ih (k/m) j hjn (fun i hi hin=>by
    have:=hd i hi (by omega);rwa [Yba (by omega)] at this) (by rwa [Yba (by omega)] at h1)
   rw[e2,e3,h4,List.take_append_of_le_length (by omega),Yax];have e4:n+1-j-1=(n-j-1)+1:=by omega
   rw[e4,Ydc];simp
theorem q38{m:Nat}(hm:0<m)(n k:Nat)(hk:k<m^n)(hd: ∀i,i<n→(way m n k)[i]? =some ((m:Int)-1)):k+1=m^n:=by
 induction n generalizing k with
 |zero=>simp at hk⊢;omega
 |succ n ih=>
  have hl:=qg7 m n (k/m);simp only[way] at hd;have h3:=hd n (by omega);rw[Ybd (by omega),hl,Ycc] at h3;simp at h3;have hmod:k % m<m:=Nat.mod_lt _ hm;have hdm:m*(k/m)+k % m=k:=Nat.div_add_mod k m;have hkm:k/m<m^n:=by rw[Nat.div_lt_iff_lt_mul hm];rwa [Ydt] at hk
  have h4:=ih (k/m) hkm (fun i hin=>by
   have:=hd i (by omega);rwa [Yba (by omega)] at this)
  rw[Ydt,←h4,Nat.add_mul,Yct];omega
theorem q39(m n:Nat):way m n 0=List.replicate n 0:=by
 induction n with
 |zero=>rfl
 |succ n ih=>rw[way,Nat.zero_div,ih,Ydc];simp
theorem qd3(f:Nat→Bool)(N k:Nat)(h:k<N):qbc f (N-k) k=if f k then some k else qbc f (N-(k+1)) (k+1):=by
 have e:N-k=(N-(k+1))+1:=by omega
 rw[e];rfl
def qqq(l:List Tk)(m p:Int):List Int:=(qhm l m p).getD []
def ffL(l:List Tk)(m p:Int):List Int:=(qht l m p).getD []
def qn3(l:List Tk)(ws:List Int)(p:Int):List UInt8:=
 if 0<(grp l ws p).length then [112,114,111,99,101,115,115,111,114,32]++num p++[58,32]++Va (grp l ws p)++[10] else []
def qg9(l:List Tk)(ws:List Int):Nat→List UInt8
 |0=>[]
 |n+1=>qg9 l ws n++qn3 l ws (n:Int)
def qas(l:List Tk)(ws:List Int):List UInt8:=if qar l ws 3 then qg9 l ws 3 else []
theorem qky{l:List Tk}{ws:List Int}{m:Int}(h:qar l ws m=true):Qe l=true∧ws.length=l.length:=by
 simp only[qar,Yac,Yae] at h;exact⟨h.1.1.1.1,h.1.2⟩
theorem q4a(l:List Tk)(ws:List Int)(p:Int)(hp:p≤100):(qn3 l ws p).length≤600:=by
 have h1:=qcq (grp l ws p);have h2:=Qp p (by omega);unfold qn3;split
 ·simp only[Yaa,Yau,Ybl];omega
 ·simp
theorem qn4(l:List Tk)(ws:List Int)(n:Nat)(hn:n≤100):(qg9 l ws n).length≤n*600:=by
 induction n with
 |zero=>simp[qg9]
 |succ n ih=>
  have h1:=ih (by omega);have h2:=q4a l ws (n:Int) (by omega);simp only[qg9,Yaa];omega
theorem qn5(A B:ZA)(l:List Tk)(ws:List Int)(c d:Nat)(w:World)(h:TS w A l)(g:IS w B ws):
  Calls Tryz.prog 144 #[.slice A l.length c,.slice B ws.length d] w fun e w'=>e=.returned (.string ⟨(qas l ws).toArray⟩)∧Below w.heap.size w w':=by
 cases hP:qar l ws 3 with
 |false=>
  have HF:Hid (qas l ws=[]):=by simp[Hid,qas,hP]
  go_enter Tryz.func144,Tryz.ntmps144;go_wp2_with fail;refine(qec A B l ws c d 3 _ h g).mono ?_;rw[hP];rintro e w1 ⟨rfl,b1⟩;go_wp2_with fail;go_ret;exact⟨by rw[HF.out];rfl,b1⟩
 |true=>
  obtain⟨hs,hlen⟩:=qky hP;have hl5:=Vl hs;have HF:Hid (qas l ws=qg9 l ws 3):=by simp[Hid,qas,hP]
  have HP:=zhi hP;have Hlen:=zhi hlen;clear hs hlen hP;go_enter Tryz.func144,Tryz.ntmps144;go_wp2_with fail;refine(qec A B l ws c d 3 _ h g).mono ?_;rw[HP.out];rintro e w1 ⟨rfl,b1⟩;go_wp2_with fail;go_loopw [5,12] (fun v i wr=> ∃(k:Nat) (T:List UInt8),i=.int .i64 (k:Int)∧v=.string ⟨T.toArray⟩∧k≤3∧Hid (T=qg9 l ws k)∧Below w.heap.size w wr) (fun _ i _=>3-(intOf i).toNat)
  case atStart=>exact⟨0,[],rfl,rfl,by omega,rfl,b1⟩
  case round=>
   obtain⟨k,T,rfl,rfl,hk,hT,hb⟩:=hrel
   have hTl:T.length≤1800:=by
    rw[hT.out];have:=qn4 l ws k (by omega);omega
   by_cases hlt:(k:Int)<3
   ·have hgl:=qgo l ws (k:Int);have hnl:=Qp (k:Int) (by omega);have hsl:=qcq (grp l ws (k:Int));have hnx:Hid (qg9 l ws (k+1)=T++qn3 l ws (k:Int)):=by rw[Hid,hT.out];rfl
    go_wp2_with fail;refine(qi2 A B l ws c d (k:Int) _ (h.keep hb) (g.keep hb) Hlen.out (by omega)).mono ?_;rintro e w2 ⟨A2,c2,rfl,o2,b2⟩;have B2:=Qa hb b2;by_cases hg0:0<(grp l ws (k:Int)).length
    ·have hpc:Hid (T++qn3 l ws (k:Int)=T++([112,114,111,99,101,115,115,111,114,32]++num (k:Int)++[58,32]++Va (grp l ws (k:Int))++[10])):=by rw[Hid,qn3,Yav hg0]
     generalize grp l ws (k:Int)=G at*;go_wp2_with fail;refine(qck (k:Int) (by omega) (by omega) _).mono ?_;rintro e w3 ⟨rfl,rfl⟩;go_wp2_with fail;refine(qgl A2 G c2 _ o2.ts).mono ?_;rintro e w4 ⟨rfl,b4⟩;go_wp2_with fail;go_roundw
     case rel=>exact⟨k+1,_,by go_num,by rw[hnx.out,hpc.out];simp only[←Qn],by omega,rfl,Qa B2 b4⟩
     case measure=>simp[intOf];omega
    ·have hpc:Hid (qg9 l ws (k+1)=T):=by rw[Hid,hnx.out,qn3,Yaq hg0,Ybx]
     go_wp2_with fail;go_roundw
     case rel=>exact⟨k+1,_,by go_num,by rw[hpc.out],by omega,rfl,B2⟩
     case measure=>simp[intOf];omega
   ·obtain rfl:k=3:=by omega
    go_wp2_with fail;go_ret;exact⟨by rw[HF.out,←hT.out];rfl,hb⟩
theorem qn6(A B:ZA)(l:List Tk)(ws:List Int)(c d:Nat)(w:World)(h:TS w A l)(g:IS w B ws)(hm:l.length≤9223372036854775807):
  Calls Tryz.prog 161 #[.slice A l.length c,.slice B ws.length d] w fun e w'=>e=.returned (.string ⟨(qas l ws).toArray⟩)∧Below w.heap.size w w':=by
 cases hP:qar l ws 3 with
 |false=>
  have HF:Hid (qas l ws=[]):=by simp[Hid,qas,hP]
  go_enter Tryz.func161,Tryz.ntmps161;go_wp2_with fail;refine(qed A B l ws c d 3 _ h g hm).mono ?_;rw[hP];rintro e w1 ⟨rfl,b1⟩;go_wp2_with fail;go_ret;exact⟨by rw[HF.out];rfl,b1⟩
 |true=>
  obtain⟨hs,hlen⟩:=qky hP;have hl5:=Vl hs;have HF:Hid (qas l ws=qg9 l ws 3):=by simp[Hid,qas,hP]
  have HP:=zhi hP;have Hlen:=zhi hlen;clear hs hlen hP;go_enter Tryz.func161,Tryz.ntmps161;go_wp2_with fail;refine(qed A B l ws c d 3 _ h g hm).mono ?_;rw[HP.out];rintro e w1 ⟨rfl,b1⟩;go_wp2_with fail;go_loopw [5,6] (fun v i wr=> ∃(k:Nat) (T:List UInt8),i=.int .i64 (k:Int)∧v=.string ⟨T.toArray⟩∧k≤3∧Hid (T=qg9 l ws k)∧Below w.heap.size w wr) (fun _ i _=>3-(intOf i).toNat)
  case atStart=>exact⟨0,[],rfl,rfl,by omega,rfl,b1⟩
  case round=>
   obtain⟨k,T,rfl,rfl,hk,hT,hb⟩:=hrel
   have hTl:T.length≤1800:=by
    rw[hT.out];have:=qn4 l ws k (by omega);omega
   by_cases hlt:(k:Int)<3
   ·have hgl:=qgo l ws (k:Int);have hnl:=Qp (k:Int) (by omega);have hsl:=qcq (grp l ws (k:Int));have hnx:Hid (qg9 l ws (k+1)=T++qn3 l ws (k:Int)):=by rw[Hid,hT.out];rfl
    go_wp2_with fail;refine(qge A B l ws c d (k:Int) _ (h.keep hb) (g.keep hb) Hlen.out (by omega)).mono ?_;rintro e w2 ⟨A2,c2,rfl,o2,b2⟩;have B2:=Qa hb b2;by_cases hg0:0<(grp l ws (k:Int)).length
    ·have hpc:Hid (T++qn3 l ws (k:Int)=((((T++[112,114,111,99,101,115,115,111,114,32])++num (k:Int))++[58,32])++Va (grp l ws (k:Int)))++[10]):=by rw[Hid,qn3,Yav hg0];simp[List.append_assoc]
     generalize grp l ws (k:Int)=G at*;go_wp2_with fail;refine(qdy (k:Int) (by omega) (by omega) _).mono ?_;rintro e w3 ⟨rfl,b3⟩;go_wp2_with fail;refine(qcr A2 G c2 _ (o2.ts.keep b3) (by omega)).mono ?_;rintro e w4 ⟨rfl,b4⟩;go_wp2_with fail;go_roundw
     case rel=>exact⟨k+1,_,by go_num,by rw[hnx.out,hpc.out];simp only[←Qn],by omega,rfl,Qa B2 (Qa b3 b4)⟩
     case measure=>simp[intOf];omega
    ·have hpc:Hid (qg9 l ws (k+1)=T):=by rw[Hid,hnx.out,qn3,Yaq hg0,Ybx]
     go_wp2_with fail;go_roundw
     case rel=>exact⟨k+1,_,by go_num,by rw[hpc.out],by omega,rfl,B2⟩
     case measure=>simp[intOf];omega
   ·obtain rfl:k=3:=by omega
    go_wp2_with fail;go_ret;exact⟨by rw[HF.out,←hT.out];rfl,hb⟩
end Go.Proofs.YtmkjmancmiphfaaGreatDoor

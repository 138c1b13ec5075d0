/-
  Which jobs are valid: the reference's.
-/
import Derived.Test.YtmkjmancmiphfaaGreatDoorRc05
namespace Go.Proofs.YtmkjmancmiphfaaGreatDoor
set_option maxHeartbeats 8000000
set_option maxRecDepth 1000000
open Go.RowKit
theorem qhf(x y:Jb)(w:World):
  Calls Tryz.prog 57 #[x.val,y.val] w fun e w'=>e=.returned (.bool (qox x y))∧Below w.heap.size w w':=by
 obtain⟨t,a,n⟩:=x;obtain⟨t',a',n'⟩:=y;by_cases h0:a<a'
 ·have e0:decide (a<a')=true:=Yag h0;have E:Hid (qox ⟨t,a,n⟩ ⟨t',a',n'⟩=true):=by simp[Hid,qox,h0]
  go_enter Tryz.func57,Tryz.ntmps57;go_wp2_with fail;go_ret;exact⟨by rw[E.out];rfl,bal (bal br _) _⟩
 ·have e0:decide (a<a')=false:=Yaf h0;by_cases h1:a=a'
  ·subst h1;have E:Hid (qox ⟨t,a,n⟩ ⟨t',a,n'⟩=decide (t<t')):=by simp[Hid,qox]
   go_enter Tryz.func57,Tryz.ntmps57;go_wp2_with fail;go_ret;exact⟨by rw[E.out];rfl,bal (bal br _) _⟩
  ·have e1:(a==a')=false:=by simp[h1]
   have E:Hid (qox ⟨t,a,n⟩ ⟨t',a',n'⟩=false):=by simp[Hid,qox,h0,h1]
   go_enter Tryz.func57,Tryz.ntmps57;go_wp2_with fail;go_ret;exact⟨by rw[E.out];rfl,bal (bal br _) _⟩
theorem qfa(A:ZA)(l:List Tk)(c:Nat)(j:Jb)(w:World)(h:TS w A l)(hS:Qe l=true):
  Calls Tryz.prog 56 #[.slice A l.length c,j.val] w fun e w'=>e=.returned (.bool (Vy l j))∧Below w.heap.size w w':=by
 obtain⟨q,a,n⟩:=j;have hl5:=(Qj hS).1;by_cases hq0:0≤q
 ·have eq0:decide (0≤q)=true:=Yag hq0;by_cases hq1:q<(l.length:Int)
  ·have eq1:decide (q<(l.length:Int))=true:=Yag hq1;by_cases h0:0≤a
   ·have e0:decide (0≤a)=true:=Yag h0;by_cases h1:a≤200
    ·have e1:decide (a≤200)=true:=Yag h1;by_cases h2:1≤n
     ·have e2:decide (1≤n)=true:=Yag h2;obtain⟨k,rfl⟩: ∃k:Nat,q=(k:Int):=⟨q.toNat,(Yay hq0).symm⟩;have hk:k<l.length:=by omega
      obtain⟨b,off,rfl,hbl,hc⟩:=h (by omega);obtain⟨_,k1,_⟩:=Qv hc k hk;clear hc
      have E:Hid (Vy l ⟨(k:Int),a,n⟩=decide (n≤(Qg l k).high)):=by
       simp[Hid,Vy,plc,hS,hq1,h0,h1,h2]
      clear hS;go_enter Tryz.func56,Tryz.ntmps56;go_wp2_with fail;go_quiet (fail)
      go_wp2_with fail;go_ret;exact⟨by rw[E.out];rfl,bdr (bal br _) _⟩
     ·have e2:decide (1≤n)=false:=Yaf h2
      have E:Hid (Vy l ⟨q,a,n⟩=false):=by
       simp[Hid,Vy,plc,hS,h2]
      clear hS;go_enter Tryz.func56,Tryz.ntmps56;go_wp2_with fail;go_quiet (fail)
      go_wp2_with fail;go_ret;exact⟨by rw[E.out];rfl,bdr (bal br _) _⟩
    ·have e1:decide (a≤200)=false:=Yaf h1
     have E:Hid (Vy l ⟨q,a,n⟩=false):=by
      simp[Hid,Vy,plc,hS,h1]
     clear hS;go_enter Tryz.func56,Tryz.ntmps56;go_wp2_with fail;go_quiet (fail)
     go_wp2_with fail;go_ret;exact⟨by rw[E.out];rfl,bdr (bal br _) _⟩
   ·have e0:decide (0≤a)=false:=Yaf h0
    have E:Hid (Vy l ⟨q,a,n⟩=false):=by
     simp[Hid,Vy,plc,hS,h0]
    clear hS;go_enter Tryz.func56,Tryz.ntmps56;go_wp2_with fail;go_quiet (fail)
    go_wp2_with fail;go_ret;exact⟨by rw[E.out];rfl,bdr (bal br _) _⟩
  ·have eq1:decide (q<(l.length:Int))=false:=Yaf hq1
   have E:Hid (Vy l ⟨q,a,n⟩=false):=by
    simp[Hid,Vy,plc,hS,hq1]
   clear hS;go_enter Tryz.func56,Tryz.ntmps56;go_wp2_with fail;go_quiet (fail)
   go_wp2_with fail;go_ret;exact⟨by rw[E.out];rfl,bdr (bal br _) _⟩
 ·have eq0:decide (0≤q)=false:=Yaf hq0
  have E:Hid (Vy l ⟨q,a,n⟩=false):=by
   simp[Hid,Vy,plc,hS,hq0]
  clear hS;go_enter Tryz.func56,Tryz.ntmps56;go_wp2_with fail;go_quiet (fail)
  go_wp2_with fail;go_ret;exact⟨by rw[E.out];rfl,bdr (bal br _) _⟩
end Go.Proofs.YtmkjmancmiphfaaGreatDoor

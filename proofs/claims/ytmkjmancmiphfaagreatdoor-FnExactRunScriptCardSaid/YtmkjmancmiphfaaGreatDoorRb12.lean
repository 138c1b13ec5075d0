/-
  The reference's machine in plain Lean: a list of works, an index of the next job; it is the machine.
  By place the factor does not count: in plain Lean.
  Numbers in decimal: the reference's.
-/
import Derived.Test.YtmkjmancmiphfaaGreatDoorRb07
import Derived.Lib.ItoaLen
namespace Go.Proofs.YtmkjmancmiphfaaGreatDoor
set_option maxHeartbeats 8000000
set_option maxRecDepth 1000000
open Go.RowKit
def qgq(dn:List Int)(lf:List Nat):List (Nat×Int):=lf.map (fun i=>(i,dn.getD i 0))
def qg8(g:Nat→Nat→Bool)(lf:List Nat):Nat→Nat
 |0=>0
 |k+1=>if g (lf.getD (k+1) 0) (lf.getD (qg8 g lf k) 0) then k+1 else qg8 g lf k
theorem quf(g:Nat→Nat→Bool)(lf:List Nat)(k:Nat):qg8 g lf k≤k:=by
 induction k with
 |zero=>exact zlr _
 |succ k ih=>
  simp only[qg8];split<;>omega
theorem q05(g:Nat→Nat→Bool)(lf:List Nat)(k:Nat):lf.getD (qg8 g lf k) 0=qi9 g lf k:=by
 induction k with
 |zero=>rfl
 |succ k ih=>
  simp only[qg8,qi9,ih];split
  ·rfl
  ·exact ih
structure NX (js:List Jb) (t:Int) (nx:Nat):Prop where
 le:nx≤js.length
 lo: ∀i,i<nx→jA js i<t
 hi: ∀i,nx≤i→i<js.length→t≤jA js i
theorem q6e{l:List Tk}{js:List Jb}{tick:Int}{hi:Bool}{s:List Int×List Nat}{m:Nat}(h: ∀i,i<m→jA js i≠tick):qdk l js tick hi s m=s:=by
 induction m with
 |zero=>rfl
 |succ m ih=>
  simp only[qdk,q0r];rw[if_neg (h m (by omega))];exact ih (fun i hi=>h i (by omega))
theorem q3z{l:List Tk}{js:List Jb}{tick:Int}{hi:Bool}{s:List Int×List Nat}{m n:Nat}(hmn:m≤n)(h: ∀i,m≤i→i<n→jA js i≠tick):qdk l js tick hi s n=qdk l js tick hi s m:=by
 induction n with
 |zero=>
  obtain rfl:m=0:=by omega
  rfl
 |succ n ih=>
  by_cases e:m=n+1
  ·rw[e]
  ·simp only[qdk,q0r];rw[if_neg (h n (by omega) (by omega))];exact ih (by omega) (fun i h1 h2=>h i h1 (by omega))
theorem qwc{l:List Tk}{js:List Jb}(h:qa6 l js=true){i j:Nat}(hij:i≤j)(hj:j<js.length):jA js i≤jA js j:=by
 simp only[qa6,Bool.and_eq_true,List.all_eq_true,List.mem_range,decide_eq_true_eq] at h;obtain⟨_,hall⟩:=h;induction j with
 |zero=>
  obtain rfl:i=0:=by omega
  exact Int.le_refl _
 |succ j ih=>
  by_cases e:i=j+1
  ·rw[e];exact Int.le_refl _
  ·have h1:=hall (j+1) hj;simp only[qeb,Bool.and_eq_true] at h1;have h2:=h1.2;have e1:j+1-1=j:=by omega
   simp only[qp5,Bool.or_eq_true,Bool.and_eq_true,decide_eq_true_eq,e1] at h2;have:=ih (by omega) (by omega);unfold jA at this⊢;omega
theorem NX.step{l:List Tk}{js:List Jb}(hv:qa6 l js=true){t:Int}{nx m:Nat}(h:NX js t nx)(hm:nx≤m)(hml:m≤js.length)(he: ∀i,nx≤i→i<m→jA js i=t)(hx:m<js.length→jA js m≠t):NX js (t+1) m:=by
 refine⟨hml,fun i hi=>?_,fun i h1 h2=>?_⟩
 ·by_cases e:i<nx
  ·have:=h.lo i e;omega
  ·have:=he i (by omega) hi;omega
 ·have a:=hx (by omega);have b:=h.hi m hm (by omega);have c:=qwc hv h1 h2;omega
theorem q06{l:List Tk}{js:List Jb}{t:Int}{hi:Bool}{s:List Int×List Nat}{m:Nat}(h:NX js (t+1) m):qdk l js t hi s js.length=qdk l js t hi s m:=
 q3z h.le (fun i h1 h2=>by
  have:=h.hi i h1 h2;omega)
theorem q30{l:List Tk}{js:List Jb}{t:Int}{hi:Bool}{s:List Int×List Nat}{nx:Nat}(h:NX js t nx):qdk l js t hi s nx=s:=
 q6e (fun i hi=>by
  have:=h.lo i hi;omega)
theorem qwd{l:List Tk}{js:List Jb}{t:Int}{hi:Bool}{s:List Int×List Nat}{m:Nat}(h:jA js m=t):
  qdk l js t hi s (m+1)=if hi&& !(qag l (jK js m)).crit then((qdk l js t hi s m).1.set m (-2),(qdk l js t hi s m).2) else((qdk l js t hi s m).1,(qdk l js t hi s m).2++[m]):=by
 simp only[qdk,q0r];rw[if_pos h]
theorem qug(dn:List Int)(lf:List Nat)(m:Nat)(h:dn.getD m 0=0):qgq dn (lf++[m])=qgq dn lf++[(m,0)]:=by
 unfold qgq;rw[List.map_append,List.map_singleton,h]
theorem quh{l:List Tk}{js:List Jb}{t:Int}{hi:Bool}{s:List Int×List Nat}(h:s.2.Nodup)(hl: ∀i,i∈s.2→jA js i<t)(m:Nat):(qdk l js t hi s m).2.Nodup:=by
 induction m with
 |zero=>exact h
 |succ m ih=>
  simp only[qdk,q0r];split
  ·rename_i he
   split
   ·exact ih
   ·refine List.nodup_append.2 ⟨ih,by simp,?_⟩;intro a ha b hb e;rw[List.mem_singleton] at hb;subst hb;subst e;rcases(q0t l js t hi s a a).1 ha with h1|⟨h1,_⟩
    ·have:=hl a h1;omega
    ·omega
  ·exact ih
theorem qhs(en:List Int)(lf:List Nat)(k:Nat)(hk:k≤lf.length):qb6 en lf k=(lf.take k).filter (fun i=>decide (en.getD i 0= -1)):=by
 induction k with
 |zero=>rfl
 |succ k ih=>
  have hk':k<lf.length:=by omega
  rw[List.take_succ_eq_append_getElem hk',List.filter_append,←ih (by omega)];simp only[qb6];have e:lf.getD k 0=lf[k]:=by simp[hk']
  rw[e];by_cases h:en.getD lf[k] 0= -1
  ·rw[if_pos h,List.filter_cons_of_pos (by simpa using h),List.filter_nil]
  ·rw[if_neg h,List.filter_cons_of_neg (by simpa using h),List.filter_nil]
theorem q07{en:List Int}{lf:List Nat}(h: ∀i,i∈lf→en.getD i 0= -1):qb6 en lf lf.length=lf:=by
 rw[qhs _ _ _ (zlr _),List.take_length,List.filter_eq_self];intro a ha;simpa using h a ha
theorem qyb(lf:List Nat){b:Nat}(hb:b<lf.length)(hn:lf.Nodup): ∃r,lf.getD b 0=r∧lf=lf.take b++r::lf.drop (b+1)∧(∀i,i∈lf.take b++lf.drop (b+1)→i≠r)∧r∈lf:=by
 have hs:lf=lf.take b++lf[b]::lf.drop (b+1):=by
  rw[List.getElem_cons_drop,List.take_append_drop]
 refine⟨lf[b],by simp[hb],hs,?_,List.getElem_mem hb⟩;generalize lf[b]=r at hs⊢;intro i hi e2;rw[hs] at hn;have h1:=List.nodup_append.1 hn;have h2:=List.nodup_cons.1 h1.2.1;rcases List.mem_append.1 hi with hi|hi
 ·exact h1.2.2 i hi r (by simp) e2
 ·exact h2.1 (e2▸hi)
theorem qwe{en:List Int}{lf:List Nat}(h: ∀i,i∈lf→en.getD i 0= -1∧i<en.length)(hn:lf.Nodup){b:Nat}(hb:b<lf.length){v:Int}(hv:v≠ -1):
  qb6 (en.set (lf.getD b 0) v) lf lf.length=lf.take b++lf.drop (b+1):=by
 rw[qhs _ _ _ (zlr _),List.take_length];obtain⟨r,e,hs,hne,hr⟩:=qyb lf hb hn;rw[e]
 have hmem: ∀i,i∈lf.take b++lf.drop (b+1)→i∈lf:=by
  intro i hi;rcases List.mem_append.1 hi with hi|hi
  ·exact List.mem_of_mem_take hi
  ·exact List.mem_of_mem_drop hi
 have keep: ∀i,i∈lf.take b++lf.drop (b+1)→decide ((en.set r v).getD i 0= -1)=true:=by
  intro i hi;have h1:=h i (hmem i hi);rw[qem,if_neg (fun h2=>hne i hi h2.1.symm)];simpa using h1.1
 have out:decide ((en.set r v).getD r 0= -1)=false:=by
  rw[qem,if_pos ⟨rfl,(h _ hr).2⟩];simpa using hv
 have hf:(lf.take b++r::lf.drop (b+1)).filter (fun i=>decide ((en.set r v).getD i 0= -1))=lf.take b++lf.drop (b+1):=by
  rw[List.filter_append,List.filter_cons,out];simp only[Bool.false_eq_true,if_false];rw[List.filter_eq_self.2 (fun a ha=>keep a (by simp[ha])),List.filter_eq_self.2 (fun a ha=>keep a (by simp[ha]))]
 rw[←hs] at hf;exact hf
theorem qg9(dn:List Int)(lf:List Nat):(qgq dn lf).length=lf.length:=by simp[qgq]
theorem wk_set{dn:List Int}{lf:List Nat}(hn:lf.Nodup)(hl: ∀i,i∈lf→i<dn.length){b:Nat}(hb:b<lf.length)(d:Int):
  qgq (dn.set (lf.getD b 0) d) lf=(qgq dn lf).set b (lf.getD b 0,d):=by
 have e:lf.getD b 0=lf[b]:=by simp[hb]
 rw[e];apply List.ext_getElem
 ·simp[qgq]
 ·intro j h1 h2;have hj:j<lf.length:=by simpa [qgq] using h1
  rw[List.getElem_set];simp only[qgq,List.getElem_map];rw[qem];by_cases ej:b=j
  ·subst ej;rw[if_pos ⟨rfl,hl _ (List.getElem_mem hb)⟩,if_pos rfl]
  ·have hne:lf[b]≠lf[j]:=fun h=>ej ((List.getElem_inj hn).1 h)
   rw[if_neg (fun h=>hne h.1),if_neg ej]
theorem q31{dn:List Int}{lf:List Nat}(hn:lf.Nodup){b:Nat}(hb:b<lf.length)(d:Int):
  qgq (dn.set (lf.getD b 0) d) (lf.take b++lf.drop (b+1))=(qgq dn lf).take b++(qgq dn lf).drop (b+1):=by
 obtain⟨r,e,_,hne,_⟩:=qyb lf hb hn;rw[e]
 have hm:qgq (dn.set r d) (lf.take b++lf.drop (b+1))=qgq dn (lf.take b++lf.drop (b+1)):=by
  unfold qgq;apply List.map_congr_left
  intro i hi;rw[qem,if_neg (fun h=>hne i hi h.1.symm)]
 rw[hm];simp[qgq,List.map_append,List.map_take,List.map_drop]
theorem qui{l:List Tk}{js:List Jb}{en:List Int}{lf:List Nat}(h: ∀i,i∈lf→en.getD i 0= -1∧i<en.length):
  qb6 (qdc l js lf en lf.length) lf lf.length=lf.filter (fun i=>(qag l (jK js i)).crit):=by
 rw[qhs _ _ _ (zlr _),List.take_length];apply List.filter_congr
 intro i hi;obtain⟨h1,h2⟩:=h i hi;rw[qwa l js lf en lf.length i h2];have hex: ∃j,j<lf.length∧lf.getD j 0=i:=(qe5 lf i).2 hi;cases hc:(qag l (jK js i)).crit with
 |true=>
  rw[if_neg (fun h=>by cases h.2)];simpa using h1
 |false=>
  rw[if_pos ⟨hex,rfl⟩];rfl
structure SInv (l:List Tk) (js:List Jb) (t:Nat) (s:Mc) (nx:Nat):Prop where
 inv:MInv l js t s
 nx:NX js (t:Int) nx
 nd:s.lf.Nodup
theorem SInv.step{l:List Tk}{js:List Jb}{num den pol:Int}(hv:qa6 l js=true){t:Nat}{s:Mc}{nx:Nat}(I:SInv l js t s nx){m:Nat}(hm:NX js ((t:Int)+1) m):SInv l js (t+1) (qg5 l js num den pol t s) m:=by
 have hS:qad l=true:=by
  simp only[qa6,Bool.and_eq_true] at hv;exact hv.1.1
 have ha:(qck l js t s).2.Nodup:=quh I.nd (fun i hi=>(I.inv.lfI i hi).2.1) _;refine⟨I.inv.step (qfr hv) (fun k hk=>qaq hS hk),by exact_mod_cast hm,?_⟩;unfold qg5;by_cases he:(qck l js t s).2=[]
 ·simp only[he,if_true];exact List.nodup_nil
 ·simp only[he,if_false];rw[qhs _ _ _ (zlr _),List.take_length];exact ha.filter _
theorem best0(l:List Tk)(js:List Jb)(n d n' d':Int)(hi:Bool)(lf:List Nat):qjo l js n d 0 hi lf=qjo l js n' d' 0 hi lf:=by
 have e:qgd l js n d 0 hi=qgd l js n' d' 0 hi:=by
  funext a b
  simp[qgd]
 unfold qjo;rw[e]
theorem mrun0(l:List Tk)(js:List Jb)(n d n' d':Int)(k:Nat):qd1 l js n d 0 k=qd1 l js n' d' 0 k:=by
 induction k with
 |zero=>rfl
 |succ k ih=>
  simp only[qd1];rw[ih];unfold qg5;simp only[best0 l js n d n' d']
theorem sinv0{l:List Tk}{js:List Jb}{num den pol:Int}(hv:qa6 l js=true):SInv l js 0 (qd1 l js num den pol 0) 0:=by
 have hS:qad l=true:=by
  simp only[qa6,Bool.and_eq_true] at hv;exact hv.1.1
 refine⟨minv (qfr hv) (fun k hk=>qaq hS hk) 0,⟨Nat.zero_le _,fun i hi=>by omega,fun i _ hi=>(qfr hv).at0 i hi⟩,List.nodup_nil⟩
def num(n:Int):List UInt8:=Lib.decDigits n.toNat
theorem qc8(n:Nat)(h:n<10):Lib.decDigits n=[UInt8.ofNat (48+n)]:=by
 unfold Lib.decDigits;rw[dif_pos h]
theorem qjq(n:Nat)(h: ¬n<10):Lib.decDigits n=Lib.decDigits (n/10)++[UInt8.ofNat (48+n % 10)]:=by
 conv=>lhs;unfold Lib.decDigits
 rw[dif_neg h]
theorem qyc(w:World)(v:Int)(n:Nat)(hv:v=(n:Int))(hn:n<256):
  (convert 22 9 (.slice (some ⟨w.heap.size,0,none⟩) 1 1)).run Tryz.prog (w.alloc (.cells #[.int .u8 v] 5))=.ok (.string ⟨[UInt8.ofNat n].toArray⟩) (w.alloc (.cells #[.int .u8 v] 5)):=by
 subst hv;refine run_convert_bytes_back _ 22 9 5 _ 1 [UInt8.ofNat n] Tryz.underlying22 Tryz.underlying5 Tryz.underlying9 ?_;intro j hj;obtain rfl:j=0:=by simpa using hj
 have e:((⟨w.heap.size,0,none⟩:Addr).add 0)=⟨w.heap.size,0,none⟩:=by unfold Addr.add;split<;>simp_all
 rw[e,World.cell?_alloc_mark];have:(UInt8.ofNat n).toNat=n:=by rw[UInt8.toNat_ofNat'];omega
 simp[this]
theorem qan(x y:List UInt8):(ByteArray.mk x.toArray++ByteArray.mk y.toArray)=ByteArray.mk (x++y).toArray:=ByteArray.mk_append_mk x y
theorem qk4(n:Nat)(hn:n≤9223372036854775807)(w:World):
  Calls Tryz.prog 91 #[.int .i64 (n:Int)] w fun e w'=>e=.returned (.string ⟨(Lib.decDigits n).toArray⟩)∧Below w.heap.size w w':=by
 have hlen:(Lib.decDigits n).length≤21:=by
  have:=Lib.itoa_length_le (n:Int) (by omega) (by omega);rwa [Lib.itoa,if_neg (by omega),Int.toNat_natCast] at this
 obtain⟨D,hD⟩: ∃D,Lib.decDigits n=D:=⟨_,rfl⟩;rw[hD] at hlen⊢;have HD:=zhi hD;clear hD;go_enter Tryz.func91,Tryz.ntmps91;go_wp2_with fail;go_loopw [0,3] (fun i v wr=> ∃(m:Nat) (acc:List UInt8),i=.int .i64 (m:Int)∧v=.string ⟨acc.toArray⟩∧m≤n∧Hid (Lib.decDigits m++acc=D)∧Below w.heap.size w wr) (fun i _ _=>(intOf i).toNat)
 case atStart=>exact⟨n,[],rfl,rfl,zlr _,by rw[Hid,List.append_nil];exact HD.out,br⟩
 case round=>
  obtain⟨m,acc,rfl,rfl,hm,hacc,hb⟩:=hrel
  have hal:acc.length≤21:=by
   have:=congrArg List.length hacc.out;rw[List.length_append] at this;omega
  by_cases hm9:9<(m:Int)
  ·have h1:=qyc wr (48+(m:Int) % 10) (48+m % 10) (by omega) (by omega)
   have hd:Hid (Lib.decDigits (m/10)++(UInt8.ofNat (48+m % 10)::acc)=D):=by
    rw[Hid,←hacc.out,qjq m (by omega),List.append_assoc];rfl
   generalize UInt8.ofNat (48+m % 10)=x at h1 hd;go_wp2_with fail;go_roundw
   case rel=>exact⟨m/10,_,by go_num,by rw[qan];rfl,by omega,hd,bal hb _⟩
   case measure=>simp[intOf];omega
  ·have h1:=qyc wr (48+(m:Int)) (48+m) (by omega) (by omega)
   have hd:Hid ([UInt8.ofNat (48+m)]++acc=D):=by
    rw[Hid,←hacc.out,qc8 m (by omega)]
   generalize UInt8.ofNat (48+m)=x at h1 hd;go_wp2_with fail;go_ret;exact⟨by rw[←hd.out,←qan];rfl,bal hb _⟩
end Go.Proofs.YtmkjmancmiphfaaGreatDoor

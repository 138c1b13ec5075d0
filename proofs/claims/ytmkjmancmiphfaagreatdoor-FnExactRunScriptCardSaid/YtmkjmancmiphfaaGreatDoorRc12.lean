/-
  The reference's machine in plain Lean: a list of works, an index of the next job; it is the machine.
  By place the factor does not count: in plain Lean.
  Numbers in decimal: the reference's.
-/
import Derived.Test.YtmkjmancmiphfaaGreatDoorRc07
import Derived.Lib.ItoaLen
namespace Go.Proofs.YtmkjmancmiphfaaGreatDoor
set_option maxHeartbeats 8000000
set_option maxRecDepth 1000000
open Go.RowKit
def qe7(dn:List Int)(lf:List Nat):List (Nat×Int):=lf.map (fun i=>(i,dn.getD i 0))
def qfp(g:Nat→Nat→Bool)(lf:List Nat):Nat→Nat
 |0=>0
 |k+1=>if g (lf.getD (k+1) 0) (lf.getD (qfp g lf k) 0) then k+1 else qfp g lf k
theorem qtc(g:Nat→Nat→Bool)(lf:List Nat)(k:Nat):qfp g lf k≤k:=by
 induction k with
 |zero=>exact zlr _
 |succ k ih=>
  simp only[qfp];split<;>omega
theorem q0h(g:Nat→Nat→Bool)(lf:List Nat)(k:Nat):lf.getD (qfp g lf k) 0=qhq g lf k:=by
 induction k with
 |zero=>rfl
 |succ k ih=>
  simp only[qfp,qhq,ih];split
  ·rfl
  ·exact ih
structure NX (js:List Jb) (t:Int) (nx:Nat):Prop where
 le:nx≤js.length
 lo: ∀i,i<nx→jA js i<t
 hi: ∀i,nx≤i→i<js.length→t≤jA js i
theorem q5x{l:List Tk}{js:List Jb}{tick:Int}{hi:Bool}{s:List Int×List Nat}{m:Nat}(h: ∀i,i<m→jA js i≠tick):qby l js tick hi s m=s:=by
 induction m with
 |zero=>rfl
 |succ m ih=>
  simp only[qby,qz3];rw[Yaq (h m (by omega))];exact ih (fun i hi=>h i (by omega))
theorem q3i{l:List Tk}{js:List Jb}{tick:Int}{hi:Bool}{s:List Int×List Nat}{m n:Nat}(hmn:m≤n)(h: ∀i,m≤i→i<n→jA js i≠tick):qby l js tick hi s n=qby l js tick hi s m:=by
 induction n with
 |zero=>
  obtain rfl:m=0:=by omega
  rfl
 |succ n ih=>
  by_cases e:m=n+1
  ·rw[e]
  ·simp only[qby,qz3];rw[Yaq (h n (by omega) (by omega))];exact ih (by omega) (fun i h1 h2=>h i h1 (by omega))
theorem qvb{l:List Tk}{js:List Jb}(h:Q9 l js=true){i j:Nat}(hij:i≤j)(hj:j<js.length):jA js i≤jA js j:=by
 simp only[Q9,Yac,Yaz,Ybu,Yae] at h;obtain⟨_,hall⟩:=h;induction j with
 |zero=>
  obtain rfl:i=0:=by omega
  exact Ycs _
 |succ j ih=>
  by_cases e:i=j+1
  ·rw[e];exact Ycs _
  ·have h1:=hall (j+1) hj;simp only[qco,Yac] at h1;have h2:=h1.2;have e1:j+1-1=j:=by omega
   simp only[qox,Ydw,Yac,Yae,e1] at h2;have:=ih (by omega) (by omega);unfold jA at this⊢;omega
theorem NX.step{l:List Tk}{js:List Jb}(hv:Q9 l js=true){t:Int}{nx m:Nat}(h:NX js t nx)(hm:nx≤m)(hml:m≤js.length)(he: ∀i,nx≤i→i<m→jA js i=t)(hx:m<js.length→jA js m≠t):NX js (t+1) m:=by
 refine⟨hml,fun i hi=>?_,fun i h1 h2=>?_⟩
 ·by_cases e:i<nx
  ·have:=h.lo i e;omega
  ·have:=he i (by omega) hi;omega
 ·have a:=hx (by omega);have b:=h.hi m hm (by omega);have c:=qvb hv h1 h2;omega
theorem q0i{l:List Tk}{js:List Jb}{t:Int}{hi:Bool}{s:List Int×List Nat}{m:Nat}(h:NX js (t+1) m):qby l js t hi s js.length=qby l js t hi s m:=
 q3i h.le (fun i h1 h2=>by
  have:=h.hi i h1 h2;omega)
theorem q3j{l:List Tk}{js:List Jb}{t:Int}{hi:Bool}{s:List Int×List Nat}{nx:Nat}(h:NX js t nx):qby l js t hi s nx=s:=
 q5x (fun i hi=>by
  have:=h.lo i hi;omega)
theorem qvc{l:List Tk}{js:List Jb}{t:Int}{hi:Bool}{s:List Int×List Nat}{m:Nat}(h:jA js m=t):
  qby l js t hi s (m+1)=if hi&& !(Qg l (jK js m)).crit then((qby l js t hi s m).1.set m (-2),(qby l js t hi s m).2) else((qby l js t hi s m).1,(qby l js t hi s m).2++[m]):=by
 simp only[qby,qz3];rw[Yav h]
theorem qtd(dn:List Int)(lf:List Nat)(m:Nat)(h:dn.getD m 0=0):qe7 dn (lf++[m])=qe7 dn lf++[(m,0)]:=by
 unfold qe7;rw[Ybg,List.map_singleton,h]
theorem qte{l:List Tk}{js:List Jb}{t:Int}{hi:Bool}{s:List Int×List Nat}(h:s.2.Nodup)(hl: ∀i,i∈s.2→jA js i<t)(m:Nat):(qby l js t hi s m).2.Nodup:=by
 induction m with
 |zero=>exact h
 |succ m ih=>
  simp only[qby,qz3];split
  ·rename_i he
   split
   ·exact ih
   ·refine List.nodup_append.2 ⟨ih,by simp,?_⟩;intro a ha b hb e;rw[Yaw] at hb;subst hb;subst e;rcases(qz5 l js t hi s a a).1 ha with h1|⟨h1,_⟩
    ·have:=hl a h1;omega
    ·omega
  ·exact ih
theorem qf8(en:List Int)(lf:List Nat)(k:Nat)(hk:k≤lf.length):qaj en lf k=(lf.take k).filter (fun i=>decide (en.getD i 0= -1)):=by
 induction k with
 |zero=>rfl
 |succ k ih=>
  have hk':k<lf.length:=by omega
  rw[Yad hk',Ycr,←ih (by omega)];simp only[qaj];have e:lf.getD k 0=lf[k]:=by simp[hk']
  rw[e];by_cases h:en.getD lf[k] 0= -1
  ·rw[Yav h,List.filter_cons_of_pos (by simpa using h),List.filter_nil]
  ·rw[Yaq h,List.filter_cons_of_neg (by simpa using h),List.filter_nil]
theorem q0j{en:List Int}{lf:List Nat}(h: ∀i,i∈lf→en.getD i 0= -1):qaj en lf lf.length=lf:=by
 rw[qf8 _ _ _ (zlr _),Ybi,List.filter_eq_self];intro a ha;simpa using h a ha
theorem qxb(lf:List Nat){b:Nat}(hb:b<lf.length)(hn:lf.Nodup): ∃r,lf.getD b 0=r∧lf=lf.take b++r::lf.drop (b+1)∧(∀i,i∈lf.take b++lf.drop (b+1)→i≠r)∧r∈lf:=by
 have hs:lf=lf.take b++lf[b]::lf.drop (b+1):=by
  rw[List.getElem_cons_drop,Yco]
 refine⟨lf[b],by simp[hb],hs,?_,Yao hb⟩;generalize lf[b]=r at hs⊢;intro i hi e2;rw[hs] at hn;have h1:=List.nodup_append.1 hn;have h2:=List.nodup_cons.1 h1.2.1;rcases Ybq.1 hi with hi|hi
 ·exact h1.2.2 i hi r (by simp) e2
 ·exact h2.1 (e2▸hi)
theorem qvd{en:List Int}{lf:List Nat}(h: ∀i,i∈lf→en.getD i 0= -1∧i<en.length)(hn:lf.Nodup){b:Nat}(hb:b<lf.length){v:Int}(hv:v≠ -1):
  qaj (en.set (lf.getD b 0) v) lf lf.length=lf.take b++lf.drop (b+1):=by
 rw[qf8 _ _ _ (zlr _),Ybi];obtain⟨r,e,hs,hne,hr⟩:=qxb lf hb hn;rw[e]
 have hmem: ∀i,i∈lf.take b++lf.drop (b+1)→i∈lf:=by
  intro i hi;rcases Ybq.1 hi with hi|hi
  ·exact Ydd hi
  ·exact List.mem_of_mem_drop hi
 have keep: ∀i,i∈lf.take b++lf.drop (b+1)→decide ((en.set r v).getD i 0= -1)=true:=by
  intro i hi;have h1:=h i (hmem i hi);rw[qc2,Yaq (fun h2=>hne i hi h2.1.symm)];simpa using h1.1
 have out:decide ((en.set r v).getD r 0= -1)=false:=by
  rw[qc2,Yav ⟨rfl,(h _ hr).2⟩];simpa using hv
 have hf:(lf.take b++r::lf.drop (b+1)).filter (fun i=>decide ((en.set r v).getD i 0= -1))=lf.take b++lf.drop (b+1):=by
  rw[Ycr,List.filter_cons,out];simp only[Yci,Ydh];rw[List.filter_eq_self.2 (fun a ha=>keep a (by simp[ha])),List.filter_eq_self.2 (fun a ha=>keep a (by simp[ha]))]
 rw[←hs] at hf;exact hf
theorem qfq(dn:List Int)(lf:List Nat):(qe7 dn lf).length=lf.length:=by simp[qe7]
theorem q7d{dn:List Int}{lf:List Nat}(hn:lf.Nodup)(hl: ∀i,i∈lf→i<dn.length){b:Nat}(hb:b<lf.length)(d:Int):
  qe7 (dn.set (lf.getD b 0) d) lf=(qe7 dn lf).set b (lf.getD b 0,d):=by
 have e:lf.getD b 0=lf[b]:=by simp[hb]
 rw[e];apply List.ext_getElem
 ·simp[qe7]
 ·intro j h1 h2;have hj:j<lf.length:=by simpa [qe7] using h1
  rw[List.getElem_set];simp only[qe7,List.getElem_map];rw[qc2];by_cases ej:b=j
  ·subst ej;rw[Yav ⟨rfl,hl _ (Yao hb)⟩,Yav rfl]
  ·have hne:lf[b]≠lf[j]:=fun h=>ej ((List.getElem_inj hn).1 h)
   rw[Yaq (fun h=>hne h.1),Yaq ej]
theorem q3k{dn:List Int}{lf:List Nat}(hn:lf.Nodup){b:Nat}(hb:b<lf.length)(d:Int):
  qe7 (dn.set (lf.getD b 0) d) (lf.take b++lf.drop (b+1))=(qe7 dn lf).take b++(qe7 dn lf).drop (b+1):=by
 obtain⟨r,e,_,hne,_⟩:=qxb lf hb hn;rw[e]
 have hm:qe7 (dn.set r d) (lf.take b++lf.drop (b+1))=qe7 dn (lf.take b++lf.drop (b+1)):=by
  unfold qe7;apply Yee
  intro i hi;rw[qc2,Yaq (fun h=>hne i hi h.1.symm)]
 rw[hm];simp[qe7,List.map_append,List.map_take,List.map_drop]
theorem qtf{l:List Tk}{js:List Jb}{en:List Int}{lf:List Nat}(h: ∀i,i∈lf→en.getD i 0= -1∧i<en.length):
  qaj (qbq l js lf en lf.length) lf lf.length=lf.filter (fun i=>(Qg l (jK js i)).crit):=by
 rw[qf8 _ _ _ (zlr _),Ybi];apply List.filter_congr
 intro i hi;obtain⟨h1,h2⟩:=h i hi;rw[qu9 l js lf en lf.length i h2];have hex: ∃j,j<lf.length∧lf.getD j 0=i:=(qdm lf i).2 hi;cases hc:(Qg l (jK js i)).crit with
 |true=>
  rw[Yaq (fun h=>by cases h.2)];simpa using h1
 |false=>
  rw[Yav ⟨hex,rfl⟩];rfl
structure SInv (l:List Tk) (js:List Jb) (t:Nat) (s:Mc) (nx:Nat):Prop where
 inv:MInv l js t s
 nx:NX js (t:Int) nx
 nd:s.lf.Nodup
theorem SInv.step{l:List Tk}{js:List Jb}{num den pol:Int}(hv:Q9 l js=true){t:Nat}{s:Mc}{nx:Nat}(I:SInv l js t s nx){m:Nat}(hm:NX js ((t:Int)+1) m):SInv l js (t+1) (qfm l js num den pol t s) m:=by
 have hS:Qe l=true:=by
  simp only[Q9,Yac] at hv;exact hv.1.1
 have ha:(qaz l js t s).2.Nodup:=qte I.nd (fun i hi=>(I.inv.lfI i hi).2.1) _;refine⟨I.inv.step (qd8 hv) (fun k hk=>Qs hS hk),by exact_mod_cast hm,?_⟩;unfold qfm;by_cases he:(qaz l js t s).2=[]
 ·simp only[he,if_true];exact List.nodup_nil
 ·simp only[he,Ydh];rw[qf8 _ _ _ (zlr _),Ybi];exact ha.filter _
theorem q7x(l:List Tk)(js:List Jb)(n d n' d':Int)(hi:Bool)(lf:List Nat):qh5 l js n d 0 hi lf=qh5 l js n' d' 0 hi lf:=by
 have e:qeu l js n d 0 hi=qeu l js n' d' 0 hi:=by
  funext a b
  simp[qeu]
 unfold qh5;rw[e]
theorem q7y(l:List Tk)(js:List Jb)(n d n' d':Int)(k:Nat):qce l js n d 0 k=qce l js n' d' 0 k:=by
 induction k with
 |zero=>rfl
 |succ k ih=>
  simp only[qce];rw[ih];unfold qfm;simp only[q7x l js n d n' d']
theorem q7z{l:List Tk}{js:List Jb}{num den pol:Int}(hv:Q9 l js=true):SInv l js 0 (qce l js num den pol 0) 0:=by
 have hS:Qe l=true:=by
  simp only[Q9,Yac] at hv;exact hv.1.1
 refine⟨q68 (qd8 hv) (fun k hk=>Qs hS hk) 0,⟨Nat.zero_le _,fun i hi=>by omega,fun i _ hi=>(qd8 hv).at0 i hi⟩,List.nodup_nil⟩
def num(n:Int):List UInt8:=Lib.decDigits n.toNat
theorem qbm(n:Nat)(h:n<10):Lib.decDigits n=[UInt8.ofNat (48+n)]:=by
 unfold Lib.decDigits;rw[dif_pos h]
theorem qh7(n:Nat)(h: ¬n<10):Lib.decDigits n=Lib.decDigits (n/10)++[UInt8.ofNat (48+n % 10)]:=by
 conv=>lhs;unfold Lib.decDigits
 rw[dif_neg h]
theorem qxc(w:World)(v:Int)(n:Nat)(hv:v=(n:Int))(hn:n<256):
  (convert 22 9 (.slice (some ⟨w.heap.size,0,none⟩) 1 1)).run Tryz.prog (w.alloc (.cells #[.int .u8 v] 5))=.ok (.string ⟨[UInt8.ofNat n].toArray⟩) (w.alloc (.cells #[.int .u8 v] 5)):=by
 subst hv;refine run_convert_bytes_back _ 22 9 5 _ 1 [UInt8.ofNat n] Tryz.underlying22 Tryz.underlying5 Tryz.underlying9 ?_;intro j hj;obtain rfl:j=0:=by simpa using hj
 have e:((⟨w.heap.size,0,none⟩:Addr).add 0)=⟨w.heap.size,0,none⟩:=by unfold Addr.add;split<;>simp_all
 rw[e,World.cell?_alloc_mark];have:(UInt8.ofNat n).toNat=n:=by rw[Ycz];omega
 simp[this]
theorem Qn(x y:List UInt8):(ByteArray.mk x.toArray++ByteArray.mk y.toArray)=ByteArray.mk (x++y).toArray:=ByteArray.mk_append_mk x y
theorem qjt(n:Nat)(hn:n≤9223372036854775807)(w:World):
  Calls Tryz.prog 91 #[.int .i64 (n:Int)] w fun e w'=>e=.returned (.string ⟨(Lib.decDigits n).toArray⟩)∧Below w.heap.size w w':=by
 have hlen:(Lib.decDigits n).length≤21:=by
  have:=Lib.itoa_length_le (n:Int) (by omega) (by omega);rwa [Lib.itoa,Yaq (by omega),Yam] at this
 obtain⟨D,hD⟩: ∃D,Lib.decDigits n=D:=⟨_,rfl⟩;rw[hD] at hlen⊢;have HD:=zhi hD;clear hD;go_enter Tryz.func91,Tryz.ntmps91;go_wp2_with fail;go_loopw [0,3] (fun i v wr=> ∃(m:Nat) (acc:List UInt8),i=.int .i64 (m:Int)∧v=.string ⟨acc.toArray⟩∧m≤n∧Hid (Lib.decDigits m++acc=D)∧Below w.heap.size w wr) (fun i _ _=>(intOf i).toNat)
 case atStart=>exact⟨n,[],rfl,rfl,zlr _,by rw[Hid,Ybx];exact HD.out,br⟩
 case round=>
  obtain⟨m,acc,rfl,rfl,hm,hacc,hb⟩:=hrel
  have hal:acc.length≤21:=by
   have:=congrArg List.length hacc.out;rw[Yaa] at this;omega
  by_cases hm9:9<(m:Int)
  ·have h1:=qxc wr (48+(m:Int) % 10) (48+m % 10) (by omega) (by omega)
   have hd:Hid (Lib.decDigits (m/10)++(UInt8.ofNat (48+m % 10)::acc)=D):=by
    rw[Hid,←hacc.out,qh7 m (by omega),Yax];rfl
   generalize UInt8.ofNat (48+m % 10)=x at h1 hd;go_wp2_with fail;go_roundw
   case rel=>exact⟨m/10,_,by go_num,by rw[Qn];rfl,by omega,hd,bal hb _⟩
   case measure=>simp[intOf];omega
  ·have h1:=qxc wr (48+(m:Int)) (48+m) (by omega) (by omega)
   have hd:Hid ([UInt8.ofNat (48+m)]++acc=D):=by
    rw[Hid,←hacc.out,qbm m (by omega)]
   generalize UInt8.ofNat (48+m)=x at h1 hd;go_wp2_with fail;go_ret;exact⟨by rw[←hd.out,←Qn];rfl,bal hb _⟩
end Go.Proofs.YtmkjmancmiphfaaGreatDoor

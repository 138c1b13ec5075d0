/-
  RunJobs' closures: the deadline of a job, and which of two jobs goes first: the program's.
-/
import Derived.Test.YtmkjmancmiphfaaMissI
import Derived.Test.YtmkjmancmiphfaaHeldF
namespace Go.Proofs.Ytmkjmancmiphfaa
open Go.RowKit

/-- What the closure 'due' reads. -/
structure DueEnv (A : Option Addr) (l : List Tk) (c : Nat) (B : Option Addr) (js : List Jb) (d : Nat) (num den : Int) (L J R X : Nat) (hi : Bool) (w : World) : Prop where
  ts : TS w A l
  jS : JS w B js
  cL : w.cell? ⟨L, 0, none⟩ = some (.slice A l.length c)
  cJ : w.cell? ⟨J, 0, none⟩ = some (.slice B js.length d)
  cR : w.cell? ⟨R, 3, none⟩ = some (.bool hi)
  cX0 : w.cell? ⟨X, 0, none⟩ = some (.int .i64 num)
  cX1 : w.cell? ⟨X, 1, none⟩ = some (.int .i64 den)
  Ll : L < w.heap.size
  Jl : J < w.heap.size
  Rl : R < w.heap.size
  Xl : X < w.heap.size
theorem DueEnv.keep {A : Option Addr} {l : List Tk} {c : Nat} {B : Option Addr} {js : List Jb} {d : Nat} {num den : Int} {L J R X : Nat} {hi : Bool} {w w' : World} (h : DueEnv A l c B js d num den L J R X hi w) (hb : Below w.heap.size w w') : DueEnv A l c B js d num den L J R X hi w' :=
  ⟨h.ts.keep hb, h.jS.keep hb, (hb.cell (p := ⟨L, 0, none⟩) h.Ll).trans h.cL, (hb.cell (p := ⟨J, 0, none⟩) h.Jl).trans h.cJ, (hb.cell (p := ⟨R, 3, none⟩) h.Rl).trans h.cR, (hb.cell (p := ⟨X, 0, none⟩) h.Xl).trans h.cX0, (hb.cell (p := ⟨X, 1, none⟩) h.Xl).trans h.cX1,
    Nat.lt_of_lt_of_le h.Ll hb.size, Nat.lt_of_lt_of_le h.Jl hb.size, Nat.lt_of_lt_of_le h.Rl hb.size, Nat.lt_of_lt_of_le h.Xl hb.size⟩
/-- What is known of the jobs and of the factor. -/
structure JobsIn (l : List Tk) (js : List Jb) (num den : Int) : Prop where
  v : setVld l = true
  job : ∀ i, i < js.length → 0 ≤ (jobAt js i).at_ ∧ (jobAt js i).at_ ≤ 200 ∧ (jobAt js i).task = (jK js i : Int) ∧ jK js i < l.length ∧ 1 ≤ (jobAt js i).need ∧ (jobAt js i).need ≤ 20
  n0 : 0 ≤ num
  n1 : num ≤ 1000000000
  d0 : 0 ≤ den
  d1 : den ≤ 1000000000
set_option maxHeartbeats 4000000 in
set_option maxRecDepth 100000 in
theorem impl_due {A : Option Addr} {l : List Tk} {c : Nat} {B : Option Addr} {js : List Jb} {d : Nat} {num den : Int} {L J R X : Nat} {hi : Bool} (V : JobsIn l js num den) (i : Nat) (hil : i < js.length) (w : World) (h : DueEnv A l c B js d num den L J R X hi w) :
    Calls Try.prog 20 #[.int .i64 (i : Int), .pointer (some ⟨L, 0, none⟩), .pointer (some ⟨J, 0, none⟩), .pointer (some ⟨R, 0, none⟩), .pointer (some ⟨X, 0, none⟩)] w fun e w' => e = .returned (.int .i64 (vkey l js num den hi i)) ∧ Below w.heap.size w w' := by
  obtain ⟨hTS, hJS, hL, hJ, hR, hX0, hX1, hLl, hJl, hRl, hXl⟩ := h
  obtain ⟨a0, a1, ht, hk, _, _⟩ := V.job i hil
  have hev := vld_bd (tkAt_vld V.v hk)
  obtain ⟨v1, v2, v3, v4, v5⟩ := hev
  obtain ⟨b, off, rfl, hbl, hc⟩ := hJS (by omega)
  obtain ⟨k0, k1, k2⟩ := job_cells hc i hil
  obtain ⟨tb, toff, rfl, htb, htc⟩ := hTS (by omega)
  obtain ⟨c0, c1, c2, c3, c4⟩ := cells_tk htc (jK js i) hk
  rw [← jobAt_eq js i hil] at k0 k1 k2
  rw [ht] at k0
  have hv : vkey l js num den hi i = if (tkAt l (jK js i)).crit && !hi then (jobAt js i).at_ * den + (tkAt l (jK js i)).due * num else ((jobAt js i).at_ + (tkAt l (jK js i)).due) * den := rfl
  have HV := Lib.hid hv
  have n0 := V.n0
  have n1 := V.n1
  have d0 := V.d0
  have d1 := V.d1
  clear hv hc htc ht V
  generalize jobAt js i = j at a0 a1 k0 k1 k2 HV
  generalize jK js i = x at hk v1 v2 v3 v4 v5 c0 c1 c2 c3 c4 k0 HV
  generalize tkAt l x = t at v1 v2 v3 v4 v5 c0 c1 c2 c3 c4 HV
  obtain ⟨q, a, n⟩ := j
  obtain ⟨tl, th, td, te, tc⟩ := t
  simp only at a0 a1 k1 k2 HV v1 v2 v3 v4 v5 c0 c1 c2 c3 c4
  have hxI : (x : Int) < (l.length : Int) := by omega
  have hiI : (i : Int) < (js.length : Int) := by omega
  have p1 := mul_bd a0 a1 d0 d1 (by omega)
  have p2 := mul_bd (show 0 ≤ td by omega) (show td ≤ 20 by omega) n0 n1 (by omega)
  have p3 := mul_bd (show 0 ≤ a + td by omega) (show a + td ≤ 220 by omega) d0 d1 (by omega)
  obtain ⟨p10, p11⟩ := p1
  obtain ⟨p20, p21⟩ := p2
  obtain ⟨p30, p31⟩ := p3
  cases tc with
  | true =>
    cases hi with
    | false =>
      have qw1 : IntKind.i64.wrap (a * den) = a * den := IntWalk.i64_in _ (by omega)
      have qw2 : IntKind.i64.wrap (td * num) = td * num := IntWalk.i64_in _ (by omega)
      have qw3 : IntKind.i64.wrap (a * den + td * num) = a * den + td * num := IntWalk.i64_in _ (by omega)
      have HV2 : Hid (vkey l js num den false i = a * den + td * num) := HV.out
      go_enter Try.func20, Try.ntmps20
      go_wp2_with fail
      go_region
      have hN := heap_alloc_new w (.cells #[.int .i64 tl, .int .i64 th, .int .i64 td, .int .i64 te, .bool true] 43 (0, 0))
      have hba : Below w.heap.size w (World.alloc w (.cells #[.int .i64 tl, .int .i64 th, .int .i64 td, .int .i64 te, .bool true] 43 (0, 0))).drew := Below.drew (bal (Below.refl _ _) _)
      replace k1 := (hba.cell (p := ⟨b, off + i * 3 + 1, none⟩) hbl).trans k1
      replace hJ := (hba.cell (p := ⟨J, 0, none⟩) hJl).trans hJ
      replace hR := (hba.cell (p := ⟨R, 3, none⟩) hRl).trans hR
      replace hX0 := (hba.cell (p := ⟨X, 0, none⟩) hXl).trans hX0
      replace hX1 := (hba.cell (p := ⟨X, 1, none⟩) hXl).trans hX1
      have hN2 : (World.alloc w (.cells #[.int .i64 tl, .int .i64 th, .int .i64 td, .int .i64 te, .bool true] 43 (0, 0))).drew.heap[w.heap.size]? = some (.cells #[.int .i64 tl, .int .i64 th, .int .i64 td, .int .i64 te, .bool true] 43 (0, 0)) := hN
      generalize (World.alloc w _).drew = wa at hba k1 hJ hR hX0 hX1 hN2 ⊢
      generalize w.heap.size = nT at hN2 ⊢
      obtain ⟨y0, y1, y2, y3, y4, yf⟩ := blk_five hN2
      clear hN hN2 k0 k2 c0 c1 c2 c3 c4 hL
      go_wp2_with fail
      go_quiet (fail)
      go_wp2_with fail
      go_ret
      exact ⟨by rw [HV2.out]; rfl, bdr (by assumption) _⟩
    | true =>
      have qw1 : IntKind.i64.wrap (a + td) = a + td := IntWalk.i64_in _ (by omega)
      have qw2 : IntKind.i64.wrap ((a + td) * den) = (a + td) * den := IntWalk.i64_in _ (by omega)
      have HV2 : Hid (vkey l js num den true i = (a + td) * den) := HV.out
      go_enter Try.func20, Try.ntmps20
      go_wp2_with fail
      go_region
      have hN := heap_alloc_new w (.cells #[.int .i64 tl, .int .i64 th, .int .i64 td, .int .i64 te, .bool true] 43 (0, 0))
      have hba : Below w.heap.size w (World.alloc w (.cells #[.int .i64 tl, .int .i64 th, .int .i64 td, .int .i64 te, .bool true] 43 (0, 0))).drew := Below.drew (bal (Below.refl _ _) _)
      replace k1 := (hba.cell (p := ⟨b, off + i * 3 + 1, none⟩) hbl).trans k1
      replace hJ := (hba.cell (p := ⟨J, 0, none⟩) hJl).trans hJ
      replace hR := (hba.cell (p := ⟨R, 3, none⟩) hRl).trans hR
      replace hX0 := (hba.cell (p := ⟨X, 0, none⟩) hXl).trans hX0
      replace hX1 := (hba.cell (p := ⟨X, 1, none⟩) hXl).trans hX1
      have hN2 : (World.alloc w (.cells #[.int .i64 tl, .int .i64 th, .int .i64 td, .int .i64 te, .bool true] 43 (0, 0))).drew.heap[w.heap.size]? = some (.cells #[.int .i64 tl, .int .i64 th, .int .i64 td, .int .i64 te, .bool true] 43 (0, 0)) := hN
      generalize (World.alloc w _).drew = wa at hba k1 hJ hR hX0 hX1 hN2 ⊢
      generalize w.heap.size = nT at hN2 ⊢
      obtain ⟨y0, y1, y2, y3, y4, yf⟩ := blk_five hN2
      clear hN hN2 k0 k2 c0 c1 c2 c3 c4 hL
      go_wp2_with fail
      go_quiet (fail)
      go_wp2_with fail
      go_ret
      exact ⟨by rw [HV2.out]; rfl, bdr (by assumption) _⟩
  | false =>
    have qw1 : IntKind.i64.wrap (a + td) = a + td := IntWalk.i64_in _ (by omega)
    have qw2 : IntKind.i64.wrap ((a + td) * den) = (a + td) * den := IntWalk.i64_in _ (by omega)
    have HV2 : Hid (vkey l js num den hi i = (a + td) * den) := HV.out
    go_enter Try.func20, Try.ntmps20
    go_wp2_with fail
    go_region
    have hN := heap_alloc_new w (.cells #[.int .i64 tl, .int .i64 th, .int .i64 td, .int .i64 te, .bool false] 43 (0, 0))
    have hba : Below w.heap.size w (World.alloc w (.cells #[.int .i64 tl, .int .i64 th, .int .i64 td, .int .i64 te, .bool false] 43 (0, 0))).drew := Below.drew (bal (Below.refl _ _) _)
    replace k1 := (hba.cell (p := ⟨b, off + i * 3 + 1, none⟩) hbl).trans k1
    replace hJ := (hba.cell (p := ⟨J, 0, none⟩) hJl).trans hJ
    replace hR := (hba.cell (p := ⟨R, 3, none⟩) hRl).trans hR
    replace hX0 := (hba.cell (p := ⟨X, 0, none⟩) hXl).trans hX0
    replace hX1 := (hba.cell (p := ⟨X, 1, none⟩) hXl).trans hX1
    have hN2 : (World.alloc w (.cells #[.int .i64 tl, .int .i64 th, .int .i64 td, .int .i64 te, .bool false] 43 (0, 0))).drew.heap[w.heap.size]? = some (.cells #[.int .i64 tl, .int .i64 th, .int .i64 td, .int .i64 te, .bool false] 43 (0, 0)) := hN
    generalize (World.alloc w _).drew = wa at hba k1 hJ hR hX0 hX1 hN2 ⊢
    generalize w.heap.size = nT at hN2 ⊢
    obtain ⟨y0, y1, y2, y3, y4, yf⟩ := blk_five hN2
    clear hN hN2 k0 k2 c0 c1 c2 c3 c4 hL
    go_wp2_with fail
    go_quiet (fail)
    go_wp2_with fail
    go_ret
    exact ⟨by rw [HV2.out]; rfl, bdr (by assumption) _⟩
set_option maxHeartbeats 4000000 in
set_option maxRecDepth 100000 in
theorem impl_goes {A : Option Addr} {l : List Tk} {c : Nat} {B : Option Addr} {js : List Jb} {d : Nat} {num den pol : Int} {L J R X Pp F : Nat} {hi : Bool} (V : JobsIn l js num den) (a b : Nat) (hl_a : a < js.length) (hl_b : b < js.length) (w : World) (h : DueEnv A l c B js d num den L J R X hi w)
    (hP : w.cell? ⟨Pp, 0, none⟩ = some (.int .i64 pol)) (hPl : Pp < w.heap.size) (hF : w.cell? ⟨F, 0, none⟩ = some (.func (.func 20) #[] #[.pointer (some ⟨L, 0, none⟩), .pointer (some ⟨J, 0, none⟩), .pointer (some ⟨R, 0, none⟩), .pointer (some ⟨X, 0, none⟩)])) (hFl : F < w.heap.size) (hpol : pol = 0 ∨ pol = 1) :
    Calls Try.prog 21 #[.int .i64 (a : Int), .int .i64 (b : Int), .pointer (some ⟨Pp, 0, none⟩), .pointer (some ⟨F, 0, none⟩), .pointer (some ⟨J, 0, none⟩)] w fun e w' => e = .returned (.bool (goesB l js num den pol hi a b)) ∧ Below w.heap.size w w' := by
  have hSof : ∀ {w' : World}, Below w.heap.size w w' → w'.cell? ⟨Pp, 0, none⟩ = some (.int .i64 pol) ∧ w'.cell? ⟨F, 0, none⟩ = some (.func (.func 20) #[] #[.pointer (some ⟨L, 0, none⟩), .pointer (some ⟨J, 0, none⟩), .pointer (some ⟨R, 0, none⟩), .pointer (some ⟨X, 0, none⟩)]) := fun hb =>
    ⟨(hb.cell (p := ⟨Pp, 0, none⟩) hPl).trans hP, (hb.cell (p := ⟨F, 0, none⟩) hFl).trans hF⟩
  rcases hpol with rfl | rfl
  · have HE : Hid (goesB l js num den 0 hi a b = goesP js a b) := by simp [Hid, goesB]
    clear hP hF
    have KK := Below.refl w.heap.size w
    have h' := h.keep KK
    have hP1 := hSof KK
    obtain ⟨hP1, hF1⟩ := hP1
    obtain ⟨hTS, hJS, hL, hJ, hR, hX0, hX1, hLl, hJl, hRl, hXl⟩ := h'
    obtain ⟨bb, off, hBe, hbl, hc⟩ := hJS (by omega)
    obtain ⟨ka0, ka1, ka2⟩ := job_cells hc a hl_a
    obtain ⟨kb0, kb1, kb2⟩ := job_cells hc b hl_b
    rw [← jobAt_eq js a hl_a] at ka0 ka1 ka2
    rw [← jobAt_eq js b hl_b] at kb0 kb1 kb2
    subst hBe
    clear hc
    have haI : (a : Int) < (js.length : Int) := by omega
    have hbI : (b : Int) < (js.length : Int) := by omega
    have HG : Hid (goesP js a b = if (jobAt js a).task = (jobAt js b).task then decide ((jobAt js a).at_ < (jobAt js b).at_) else decide ((jobAt js a).task < (jobAt js b).task)) := rfl
    generalize jobAt js a = ja at ka0 ka1 ka2 HG
    generalize jobAt js b = jb at kb0 kb1 kb2 HG
    obtain ⟨qa, aa, na⟩ := ja
    obtain ⟨qb, ab, nb⟩ := jb
    simp only at ka0 ka1 ka2 kb0 kb1 kb2 HG
    by_cases hq : qa = qb
    · subst hq
      have eq0 : (qa != qa) = false := by simp
      rw [if_pos rfl] at HG
      go_enter Try.func21, Try.ntmps21
      go_wp2_with fail
      go_quiet (fail)
      go_wp2_with fail
      go_quiet (fail)
      go_wp2_with fail
      go_quiet (fail)
      go_wp2_with fail
      go_ret
      exact ⟨by rw [HE.out, HG.out]; rfl, bdr (bdr (bdr KK _) _) _⟩
    · have eq0 : (qa != qb) = true := by simpa using hq
      rw [if_neg hq] at HG
      clear hq
      go_enter Try.func21, Try.ntmps21
      go_wp2_with fail
      go_quiet (fail)
      go_wp2_with fail
      go_quiet (fail)
      go_wp2_with fail
      go_quiet (fail)
      go_wp2_with fail
      go_ret
      exact ⟨by rw [HE.out, HG.out]; rfl, bdr (bdr (bdr KK _) _) _⟩
  · by_cases hne : vkey l js num den hi a = vkey l js num den hi b
    · have HE : Hid (goesB l js num den 1 hi a b = goesP js a b) := by simp [Hid, goesB, hne]
      go_enter Try.func21, Try.ntmps21
      go_upto_region 1 with fail
      refine wp_region_held (S := fun w' => w'.cell? ⟨Pp, 0, none⟩ = some (.int .i64 1) ∧ w'.cell? ⟨F, 0, none⟩ = some (.func (.func 20) #[] #[.pointer (some ⟨L, 0, none⟩), .pointer (some ⟨J, 0, none⟩), .pointer (some ⟨R, 0, none⟩), .pointer (some ⟨X, 0, none⟩)])) (by kernel_rfl) ?_
      change wpAnyH _ _ _ _ _ _ _ _ (World.drew _)
      have Kz : Below w.heap.size w (World.drew w) := Below.drew (Below.refl _ _)
      have hS0 := hSof Kz
      refine takeHL (i := 0) 8 (.int .i64 1) rfl rfl (by kernel_rfl) (by kernel_rfl) (by kernel_rfl) (fun _ _ _ h => h) (.inl ⟨by rfl, fun w hS => by obtain ⟨h0, h1⟩ := hS; go_simp⟩) hS0 ?_
      simp only [List.set_cons_succ, List.set_cons_zero]
      refine takeHL (i := 1) 9 (.bool true) rfl rfl (by kernel_rfl) (by kernel_rfl) (by kernel_rfl) (fun _ _ _ h => h) (.inl ⟨by rfl, fun w _ => by go_simp⟩) hS0 ?_
      simp only [List.set_cons_succ, List.set_cons_zero]
      refine takeHL (i := 2) 10 (.bool true) rfl rfl (by kernel_rfl) (by kernel_rfl) (by kernel_rfl) (fun _ _ _ h => h) (.inl ⟨by rfl, fun _ _ => rfl⟩) hS0 ?_
      simp only [List.set_cons_succ, List.set_cons_zero]
      refine takeHL (i := 3) 11 (.func (.func 20) #[] #[.pointer (some ⟨L, 0, none⟩), .pointer (some ⟨J, 0, none⟩), .pointer (some ⟨R, 0, none⟩), .pointer (some ⟨X, 0, none⟩)]) rfl rfl (by kernel_rfl) (by kernel_rfl) (by kernel_rfl) (fun _ _ _ h => h) (.inl ⟨by rfl, fun w hS => by obtain ⟨h0, h1⟩ := hS; go_simp⟩) hS0 ?_
      simp only [List.set_cons_succ, List.set_cons_zero]
      refine takeHL (i := 4) 12 (.int .i64 (a : Int)) rfl rfl (by kernel_rfl) (by kernel_rfl) (by kernel_rfl) (fun _ _ _ h => h) (.inl ⟨by rfl, fun _ _ => rfl⟩) hS0 ?_
      simp only [List.set_cons_succ, List.set_cons_zero]
      refine takeHL (i := 6) 14 (.func (.func 20) #[] #[.pointer (some ⟨L, 0, none⟩), .pointer (some ⟨J, 0, none⟩), .pointer (some ⟨R, 0, none⟩), .pointer (some ⟨X, 0, none⟩)]) rfl rfl (by kernel_rfl) (by kernel_rfl) (by kernel_rfl) (fun _ _ _ h => h) (.inl ⟨by rfl, fun w hS => by obtain ⟨h0, h1⟩ := hS; go_simp⟩) hS0 ?_
      simp only [List.set_cons_succ, List.set_cons_zero]
      refine takeHL (i := 7) 15 (.int .i64 (b : Int)) rfl rfl (by kernel_rfl) (by kernel_rfl) (by kernel_rfl) (fun _ _ _ h => h) (.inl ⟨by rfl, fun _ _ => rfl⟩) hS0 ?_
      simp only [List.set_cons_succ, List.set_cons_zero]
      refine callHF 5 13 rfl rfl (by kernel_rfl) (by rfl) 20 Try.func20 (by kernel_rfl) rfl _ _ _ rfl #[.pointer (some ⟨L, 0, none⟩), .pointer (some ⟨J, 0, none⟩), .pointer (some ⟨R, 0, none⟩), .pointer (some ⟨X, 0, none⟩)] (by simp [Act.eval]) #[.int .i64 (a : Int), .pointer (some ⟨L, 0, none⟩), .pointer (some ⟨J, 0, none⟩), .pointer (some ⟨R, 0, none⟩), .pointer (some ⟨X, 0, none⟩)] (by simp [Act.eval]) (impl_due V a hl_a _ (h.keep Kz)) ?_
      rintro e v1 ⟨rfl, k1⟩
      have K1 : Below w.heap.size w v1 := bthru Kz k1
      have S1 := hSof K1
      refine ⟨_, rfl, S1, ?_⟩
      simp only [List.set_cons_succ, List.set_cons_zero]
      refine callHF 8 16 rfl rfl (by kernel_rfl) (by rfl) 20 Try.func20 (by kernel_rfl) rfl _ _ _ rfl #[.pointer (some ⟨L, 0, none⟩), .pointer (some ⟨J, 0, none⟩), .pointer (some ⟨R, 0, none⟩), .pointer (some ⟨X, 0, none⟩)] (by simp [Act.eval]) #[.int .i64 (b : Int), .pointer (some ⟨L, 0, none⟩), .pointer (some ⟨J, 0, none⟩), .pointer (some ⟨R, 0, none⟩), .pointer (some ⟨X, 0, none⟩)] (by simp [Act.eval]) (impl_due V b hl_b _ (h.keep K1)) ?_
      rintro e v2 ⟨rfl, k2⟩
      have K2 : Below w.heap.size w v2 := bthru K1 k2
      have S2 := hSof K2
      refine ⟨_, rfl, S2, ?_⟩
      simp only [List.set_cons_succ, List.set_cons_zero]
      refine takeHL (i := 9) 17 (.bool false) rfl rfl (by kernel_rfl) (by kernel_rfl) (by kernel_rfl) (fun _ _ _ h => h) (.inl ⟨by rfl, fun w _ => by go_simp <;> simp [hne]⟩) S2 ?_
      simp only [List.set_cons_succ, List.set_cons_zero]
      refine takeHL (i := 10) 18 (.bool false) rfl rfl (by kernel_rfl) (by kernel_rfl) (by kernel_rfl) (fun _ _ _ h => h) (.inl ⟨by rfl, fun w _ => by go_simp⟩) S2 ?_
      simp only [List.set_cons_succ, List.set_cons_zero]
      refine wpAnyH_done (by kernel_rfl) ?_ _
      clear hne hS0 S1 S2
      go_upto_region 3 with fail
      have KK := K2
      have h' := h.keep KK
      have hP1 := hSof KK
      obtain ⟨hP1, hF1⟩ := hP1
      obtain ⟨hTS, hJS, hL, hJ, hR, hX0, hX1, hLl, hJl, hRl, hXl⟩ := h'
      obtain ⟨bb, off, hBe, hbl, hc⟩ := hJS (by omega)
      obtain ⟨ka0, ka1, ka2⟩ := job_cells hc a hl_a
      obtain ⟨kb0, kb1, kb2⟩ := job_cells hc b hl_b
      rw [← jobAt_eq js a hl_a] at ka0 ka1 ka2
      rw [← jobAt_eq js b hl_b] at kb0 kb1 kb2
      subst hBe
      clear hc
      have haI : (a : Int) < (js.length : Int) := by omega
      have hbI : (b : Int) < (js.length : Int) := by omega
      have HG : Hid (goesP js a b = if (jobAt js a).task = (jobAt js b).task then decide ((jobAt js a).at_ < (jobAt js b).at_) else decide ((jobAt js a).task < (jobAt js b).task)) := rfl
      generalize jobAt js a = ja at ka0 ka1 ka2 HG
      generalize jobAt js b = jb at kb0 kb1 kb2 HG
      obtain ⟨qa, aa, na⟩ := ja
      obtain ⟨qb, ab, nb⟩ := jb
      simp only at ka0 ka1 ka2 kb0 kb1 kb2 HG
      by_cases hq : qa = qb
      · subst hq
        have eq0 : (qa != qa) = false := by simp
        rw [if_pos rfl] at HG
        go_quiet (fail)
        go_wp2_with fail
        go_quiet (fail)
        go_wp2_with fail
        go_ret
        exact ⟨by rw [HE.out, HG.out]; rfl, bdr (bdr KK _) _⟩
      · have eq0 : (qa != qb) = true := by simpa using hq
        rw [if_neg hq] at HG
        clear hq
        go_quiet (fail)
        go_wp2_with fail
        go_quiet (fail)
        go_wp2_with fail
        go_ret
        exact ⟨by rw [HE.out, HG.out]; rfl, bdr (bdr KK _) _⟩
    · have HE : Hid (goesB l js num den 1 hi a b = decide (vkey l js num den hi a < vkey l js num den hi b)) := by simp [Hid, goesB, hne]
      go_enter Try.func21, Try.ntmps21
      go_upto_region 1 with fail
      refine wp_region_held (S := fun w' => w'.cell? ⟨Pp, 0, none⟩ = some (.int .i64 1) ∧ w'.cell? ⟨F, 0, none⟩ = some (.func (.func 20) #[] #[.pointer (some ⟨L, 0, none⟩), .pointer (some ⟨J, 0, none⟩), .pointer (some ⟨R, 0, none⟩), .pointer (some ⟨X, 0, none⟩)])) (by kernel_rfl) ?_
      change wpAnyH _ _ _ _ _ _ _ _ (World.drew _)
      have Kz : Below w.heap.size w (World.drew w) := Below.drew (Below.refl _ _)
      have hS0 := hSof Kz
      refine takeHL (i := 0) 8 (.int .i64 1) rfl rfl (by kernel_rfl) (by kernel_rfl) (by kernel_rfl) (fun _ _ _ h => h) (.inl ⟨by rfl, fun w hS => by obtain ⟨h0, h1⟩ := hS; go_simp⟩) hS0 ?_
      simp only [List.set_cons_succ, List.set_cons_zero]
      refine takeHL (i := 1) 9 (.bool true) rfl rfl (by kernel_rfl) (by kernel_rfl) (by kernel_rfl) (fun _ _ _ h => h) (.inl ⟨by rfl, fun w _ => by go_simp⟩) hS0 ?_
      simp only [List.set_cons_succ, List.set_cons_zero]
      refine takeHL (i := 2) 10 (.bool true) rfl rfl (by kernel_rfl) (by kernel_rfl) (by kernel_rfl) (fun _ _ _ h => h) (.inl ⟨by rfl, fun _ _ => rfl⟩) hS0 ?_
      simp only [List.set_cons_succ, List.set_cons_zero]
      refine takeHL (i := 3) 11 (.func (.func 20) #[] #[.pointer (some ⟨L, 0, none⟩), .pointer (some ⟨J, 0, none⟩), .pointer (some ⟨R, 0, none⟩), .pointer (some ⟨X, 0, none⟩)]) rfl rfl (by kernel_rfl) (by kernel_rfl) (by kernel_rfl) (fun _ _ _ h => h) (.inl ⟨by rfl, fun w hS => by obtain ⟨h0, h1⟩ := hS; go_simp⟩) hS0 ?_
      simp only [List.set_cons_succ, List.set_cons_zero]
      refine takeHL (i := 4) 12 (.int .i64 (a : Int)) rfl rfl (by kernel_rfl) (by kernel_rfl) (by kernel_rfl) (fun _ _ _ h => h) (.inl ⟨by rfl, fun _ _ => rfl⟩) hS0 ?_
      simp only [List.set_cons_succ, List.set_cons_zero]
      refine takeHL (i := 6) 14 (.func (.func 20) #[] #[.pointer (some ⟨L, 0, none⟩), .pointer (some ⟨J, 0, none⟩), .pointer (some ⟨R, 0, none⟩), .pointer (some ⟨X, 0, none⟩)]) rfl rfl (by kernel_rfl) (by kernel_rfl) (by kernel_rfl) (fun _ _ _ h => h) (.inl ⟨by rfl, fun w hS => by obtain ⟨h0, h1⟩ := hS; go_simp⟩) hS0 ?_
      simp only [List.set_cons_succ, List.set_cons_zero]
      refine takeHL (i := 7) 15 (.int .i64 (b : Int)) rfl rfl (by kernel_rfl) (by kernel_rfl) (by kernel_rfl) (fun _ _ _ h => h) (.inl ⟨by rfl, fun _ _ => rfl⟩) hS0 ?_
      simp only [List.set_cons_succ, List.set_cons_zero]
      refine callHF 5 13 rfl rfl (by kernel_rfl) (by rfl) 20 Try.func20 (by kernel_rfl) rfl _ _ _ rfl #[.pointer (some ⟨L, 0, none⟩), .pointer (some ⟨J, 0, none⟩), .pointer (some ⟨R, 0, none⟩), .pointer (some ⟨X, 0, none⟩)] (by simp [Act.eval]) #[.int .i64 (a : Int), .pointer (some ⟨L, 0, none⟩), .pointer (some ⟨J, 0, none⟩), .pointer (some ⟨R, 0, none⟩), .pointer (some ⟨X, 0, none⟩)] (by simp [Act.eval]) (impl_due V a hl_a _ (h.keep Kz)) ?_
      rintro e v1 ⟨rfl, k1⟩
      have K1 : Below w.heap.size w v1 := bthru Kz k1
      have S1 := hSof K1
      refine ⟨_, rfl, S1, ?_⟩
      simp only [List.set_cons_succ, List.set_cons_zero]
      refine callHF 8 16 rfl rfl (by kernel_rfl) (by rfl) 20 Try.func20 (by kernel_rfl) rfl _ _ _ rfl #[.pointer (some ⟨L, 0, none⟩), .pointer (some ⟨J, 0, none⟩), .pointer (some ⟨R, 0, none⟩), .pointer (some ⟨X, 0, none⟩)] (by simp [Act.eval]) #[.int .i64 (b : Int), .pointer (some ⟨L, 0, none⟩), .pointer (some ⟨J, 0, none⟩), .pointer (some ⟨R, 0, none⟩), .pointer (some ⟨X, 0, none⟩)] (by simp [Act.eval]) (impl_due V b hl_b _ (h.keep K1)) ?_
      rintro e v2 ⟨rfl, k2⟩
      have K2 : Below w.heap.size w v2 := bthru K1 k2
      have S2 := hSof K2
      refine ⟨_, rfl, S2, ?_⟩
      simp only [List.set_cons_succ, List.set_cons_zero]
      refine takeHL (i := 9) 17 (.bool true) rfl rfl (by kernel_rfl) (by kernel_rfl) (by kernel_rfl) (fun _ _ _ h => h) (.inl ⟨by rfl, fun w _ => by go_simp <;> simp [hne]⟩) S2 ?_
      simp only [List.set_cons_succ, List.set_cons_zero]
      refine takeHL (i := 10) 18 (.bool true) rfl rfl (by kernel_rfl) (by kernel_rfl) (by kernel_rfl) (fun _ _ _ h => h) (.inl ⟨by rfl, fun w _ => by go_simp⟩) S2 ?_
      simp only [List.set_cons_succ, List.set_cons_zero]
      refine wpAnyH_done (by kernel_rfl) ?_ _
      clear hne hS0 S1 S2
      go_upto_region 2 with fail
      refine wp_region_held (S := fun w' => w'.cell? ⟨Pp, 0, none⟩ = some (.int .i64 1) ∧ w'.cell? ⟨F, 0, none⟩ = some (.func (.func 20) #[] #[.pointer (some ⟨L, 0, none⟩), .pointer (some ⟨J, 0, none⟩), .pointer (some ⟨R, 0, none⟩), .pointer (some ⟨X, 0, none⟩)])) (by kernel_rfl) ?_
      change wpAnyH _ _ _ _ _ _ _ _ (World.drew _)
      have Ky : Below w.heap.size w (World.drew v2) := Below.drew K2
      have hS3 := hSof Ky
      refine takeHL (i := 0) 19 (.func (.func 20) #[] #[.pointer (some ⟨L, 0, none⟩), .pointer (some ⟨J, 0, none⟩), .pointer (some ⟨R, 0, none⟩), .pointer (some ⟨X, 0, none⟩)]) rfl rfl (by kernel_rfl) (by kernel_rfl) (by kernel_rfl) (fun _ _ _ h => h) (.inl ⟨by rfl, fun w hS => by obtain ⟨h0, h1⟩ := hS; go_simp⟩) hS3 ?_
      simp only [List.set_cons_succ, List.set_cons_zero]
      refine takeHL (i := 1) 20 (.int .i64 (a : Int)) rfl rfl (by kernel_rfl) (by kernel_rfl) (by kernel_rfl) (fun _ _ _ h => h) (.inl ⟨by rfl, fun _ _ => rfl⟩) hS3 ?_
      simp only [List.set_cons_succ, List.set_cons_zero]
      refine takeHL (i := 3) 22 (.func (.func 20) #[] #[.pointer (some ⟨L, 0, none⟩), .pointer (some ⟨J, 0, none⟩), .pointer (some ⟨R, 0, none⟩), .pointer (some ⟨X, 0, none⟩)]) rfl rfl (by kernel_rfl) (by kernel_rfl) (by kernel_rfl) (fun _ _ _ h => h) (.inl ⟨by rfl, fun w hS => by obtain ⟨h0, h1⟩ := hS; go_simp⟩) hS3 ?_
      simp only [List.set_cons_succ, List.set_cons_zero]
      refine takeHL (i := 4) 23 (.int .i64 (b : Int)) rfl rfl (by kernel_rfl) (by kernel_rfl) (by kernel_rfl) (fun _ _ _ h => h) (.inl ⟨by rfl, fun _ _ => rfl⟩) hS3 ?_
      simp only [List.set_cons_succ, List.set_cons_zero]
      refine callHF 2 21 rfl rfl (by kernel_rfl) (by rfl) 20 Try.func20 (by kernel_rfl) rfl _ _ _ rfl #[.pointer (some ⟨L, 0, none⟩), .pointer (some ⟨J, 0, none⟩), .pointer (some ⟨R, 0, none⟩), .pointer (some ⟨X, 0, none⟩)] (by simp [Act.eval]) #[.int .i64 (a : Int), .pointer (some ⟨L, 0, none⟩), .pointer (some ⟨J, 0, none⟩), .pointer (some ⟨R, 0, none⟩), .pointer (some ⟨X, 0, none⟩)] (by simp [Act.eval]) (impl_due V a hl_a _ (h.keep Ky)) ?_
      rintro e v3 ⟨rfl, k3⟩
      have K3 : Below w.heap.size w v3 := bthru Ky k3
      have S3 := hSof K3
      refine ⟨_, rfl, S3, ?_⟩
      simp only [List.set_cons_succ, List.set_cons_zero]
      refine callHF 5 24 rfl rfl (by kernel_rfl) (by rfl) 20 Try.func20 (by kernel_rfl) rfl _ _ _ rfl #[.pointer (some ⟨L, 0, none⟩), .pointer (some ⟨J, 0, none⟩), .pointer (some ⟨R, 0, none⟩), .pointer (some ⟨X, 0, none⟩)] (by simp [Act.eval]) #[.int .i64 (b : Int), .pointer (some ⟨L, 0, none⟩), .pointer (some ⟨J, 0, none⟩), .pointer (some ⟨R, 0, none⟩), .pointer (some ⟨X, 0, none⟩)] (by simp [Act.eval]) (impl_due V b hl_b _ (h.keep K3)) ?_
      rintro e v4 ⟨rfl, k4⟩
      have K4 : Below w.heap.size w v4 := bthru K3 k4
      have S4 := hSof K4
      refine ⟨_, rfl, S4, ?_⟩
      simp only [List.set_cons_succ, List.set_cons_zero]
      refine takeHL (i := 6) 25 (.bool (decide (vkey l js num den hi a < vkey l js num den hi b))) rfl rfl (by kernel_rfl) (by kernel_rfl) (by kernel_rfl) (fun _ _ _ h => h) (.inl ⟨by rfl, fun w _ => by go_simp⟩) S4 ?_
      simp only [List.set_cons_succ, List.set_cons_zero]
      refine takeHL (i := 7) 7 (.bool (decide (vkey l js num den hi a < vkey l js num den hi b))) rfl rfl (by kernel_rfl) (by kernel_rfl) (by kernel_rfl) (fun _ _ _ h => h) (.inl ⟨by rfl, fun _ _ => rfl⟩) S4 ?_
      simp only [List.set_cons_succ, List.set_cons_zero]
      refine wpAnyH_done (by kernel_rfl) ?_ _
      go_wp2_with fail
      go_ret
      exact ⟨by rw [HE.out]; rfl, K4⟩
end Go.Proofs.Ytmkjmancmiphfaa

/-
  Part 13 of the proof: L03, V12, L04, V3, L05, V4.
-/
import Derived.Test.YtegikhoholfcmaaGreatM12
namespace Go.Sx.Tryz
open Go Go.Sx Go.Proofs
set_option linter.unusedVariables false
set_option maxRecDepth 20000
section
variable {H H' : Heap} {S : PH} {R : List Asn} {d first many each jb : Nat} {D : Dk} {J : Jn} {G : List Sg} {s : PL}
theorem jopen_spec {t : List UInt8} (hs : Sat H S (dsk d D :: R)) (hL : Lay D first many G t s) (hr : first + many ≤ 32 ∧ 2 ≤ many ∧ many < 20) (he : 64 ≤ each ∧ each ≤ 1048576) (ha : D.armed = false) (hd : D.down = false) (hsy : ∀ i, i < many → (D.f (first + i)).s ≤ (D.f (first + i)).b.length) (hR : Roomy G many) (hS : Safe G) (hser : ∀ g ∈ G, g.hd.serial < 1000)
    {K : Value → Heap → Prop} (hK : ∀ jb J' D' G' H' S', PH.le S S' → (J'.d = d ∧ J'.first = first ∧ J'.many = many ∧ J'.each = each) → Rest D' J' G' s → J'.log.pure = s → eok S' J'.log.es → D'.armed = false → (G'.Sublist G ∨ ∀ x ∈ G', x.hd.serial = 0 ∧ x.rs = []) → (∀ i, i < many → (D'.f (first + i)).b.length ≤ (D.f (first + i)).b.length + 60) →
      Sat H' S' (jA jb J' :: dsk d D' :: R) → K (.tuple #[.pointer (some ⟨jb, 0, none⟩), .int .i64 0]) H') :
    CallsH Tryz.prog 11 #[.pointer (some ⟨d, 0, none⟩), .int .i64 (first : Int), .int .i64 (many : Int), .int .i64 (each : Int)] H K := by
  refine lay_open hs hL hd hr.2.1 hr.1 hr.2.2 he.1 he.2 fun jb g H' S' X hS' hg hge hX hs' => ?_
  obtain ⟨D', J', G', h1, h2, h3, h4, h5, h6⟩ := open_out (d := d) (each := each) (g := g) hL hr ha hd hsy hR hS hser
  rw [h1] at hX
  subst hX
  have hb : J'.broken = false := h3.mid.sound
  rw [if_neg (by rw [hb]; simp)]
  exact hK jb J' D' G' H' S' hS' (by rw [h2]; exact ⟨rfl, rfl, rfl, rfl⟩) h3 (by rw [h2]; exact hg) (by rw [h2]; exact hge) h4 h5 h6 hs'
theorem log_len (h : J.log.pure = s) : J.log.es.length = s.es.length := by rw [← h]; simp [Lg.pure]
theorem log_ents (h : J.log.pure = s) : J.log.es.map (·.1) = s.es := by rw [← h]; rfl
theorem log_fi (h : J.log.pure = s) : J.log.fi = s.fi ∧ J.log.ft = s.ft := by rw [← h]; exact ⟨rfl, rfl⟩
theorem log_last (h : J.log.pure = s) : J.log.last.1.i = s.last.1 ∧ J.log.last.1.t = s.last.2 := by
  have := Lg.pure_last J.log
  rw [h] at this
  rw [this]; exact ⟨rfl, rfl⟩
theorem beq_of {a b : Nat} (h : a = b) : ((a : Int) == (b : Int)) = true := by rw [h]; simp
theorem like_spec {x : PL} {y : Sl} {n : Nat} (hs : Sat H S (jA jb J :: dsk d D :: R)) (hX : Rest D J G s) (hB : ∀ i, i < 32 → (D.f i).b.length ≤ 1048576) (hlog : J.log.pure = s) (hge : eok S J.log.es) (hn : s.es.length ≤ n ∧ n < 100000) (hy : EL S y x.es) (hxl : x.es.length ≤ n) (hf0 : J.first = 0)
    {K : Value → Heap → Prop} (hK : ∀ b H' S', PH.le S S' → (x = s → b = true) → Sat H' S' (jA jb J :: dsk d D :: R) → K (.bool b) H') :
    CallsH Tryz.prog 13 #[.pointer (some ⟨d, 0, none⟩), .pointer (some ⟨jb, 0, none⟩), .agg (stV x y).toArray, .int .i64 (J.many : Int)] H K := by
  refine vc13 d 0 jb 0 (x.fi : Int) (x.ft : Int) ⟨none, 0, 0⟩ y (J.many : Int) H K ?_
  have hM := hX.mid
  have hL := hM.lay
  rw [hf0] at hL
  have hrng := hM.rng
  have hlen := log_len hlog
  have hents := log_ents hlog
  obtain ⟨hfi, hft⟩ := log_fi hlog
  obtain ⟨hli, hlt⟩ := log_last hlog
  intro b1 h1 f1
  have hs1 : Sat h1 S (lst b1 38 (stV x y) :: jA jb J :: dsk d D :: R) := hs.fresh f1
  refine floor_spec hs1.swap ⟨_, _, rfl, lastJ_spec hs1.swap (by omega) fun h2 hs2 => ⟨_, _, rfl, ?_⟩⟩
  refine files_spec (first := 0) (hs2.sel [2]) (by omega) fun fv vs h3 S1 hS1 hvl hfv hvs hs3 => ⟨fv, rfl, ?_⟩
  refine lay_rscan hs3 hL (by omega) (fun i hi => hB _ (by omega)) hvl hfv hvs fun z h4 S2 hS2 hz hs4 => ⟨_, _, ⟨none, 0, 0⟩, z, _, _, rfl, ?_⟩
  intro b2 h5 f5
  have hs5 := hs4.fresh f5
  refine Sat.store (T := 119) (l := zrV) hs5 (by simp [zrV]) fun h6 hs6 => ?_
  have hs6 : Sat h6 S2 (lst b2 119 (rfV s z G.length) :: dsk d D :: jA jb J :: lst b1 38 (stV x y) :: R) := hs6
  have hs6 : Sat h6 S2 (lst b1 38 (stV x y) :: lst b2 119 (rfV s z G.length) :: jA jb J :: dsk d D :: R) := hs6.sel [3, 0, 1]
  have hy2 := hy.mono (hS1.trans hS2)
  have hge2 := hge.mono (hS1.trans hS2)
  have no : ∀ (h : Heap) (SS : PH), PH.le S2 SS → x ≠ s → Sat h SS (lst b1 38 (stV x y) :: lst b2 119 (rfV s z G.length) :: jA jb J :: dsk d D :: R) → K (.bool false) h := by
    intro h SS hSS hne hh
    exact hK false h SS ((hS1.trans hS2).trans hSS) (fun e => absurd e hne) hh.drop.drop
  rw [hfi, hft]
  refine ⟨_, hs6.cell 0 rfl, CondP.of (fun hc => ?_) (fun hc => no _ S2 (PH.le.refl _) (fun e => by rw [e] at hc; simp at hc) hs6)⟩
  refine ⟨_, hs6.cell 1 rfl, CondP.of (fun hc2 => ?_) (fun hc => no _ S2 (PH.le.refl _) (fun e => by rw [e] at hc; simp at hc) hs6)⟩
  refine ⟨_, _, ⟨none, 0, 0⟩, y, hs6.cells 0 rfl, ?_⟩
  refine slast_spec hs6 hy2 (by omega) fun w h8 hs8 => ⟨_, _, w, rfl, ?_⟩
  rw [hli]
  refine CondP.of (fun hc3 => ?_) (fun hc => no _ S2 (PH.le.refl _) (fun e => by rw [e] at hc; simp at hc) hs8)
  refine ⟨_, _, ⟨none, 0, 0⟩, y, hs8.cells 0 rfl, ?_⟩
  refine slast_spec hs8 hy2 (by omega) fun w2 h9 hs9 => ⟨_, _, w2, rfl, ?_⟩
  rw [hlt]
  refine CondP.of (fun hc4 => ?_) (fun hc => no _ S2 (PH.le.refl _) (fun e => by rw [e] at hc; simp at hc) hs9)
  refine ⟨y, hs9.cell 3 rfl, ?_⟩
  refine entries_spec (hs9.sel [2]) hge2 (by omega) fun v h10 S3 hS3 hv hs10 => ⟨v, rfl, ?_⟩
  rw [hents] at hv
  have hs10 : Sat h10 S3 (lst b1 38 (stV x y) :: lst b2 119 (rfV s z G.length) :: jA jb J :: dsk d D :: R) := hs10.sel [1, 1]
  refine ⟨hs10.cell 3 rfl, plain_spec hs10 hv (by omega) fun v2 h11 S4 hS4 hv2 hs11 => ⟨v2, rfl, hs11.cell 3 rfl, ?_⟩⟩
  refine same_spec hs11 hv2 ((hy2.mono hS3).mono hS4) (by omega) (by omega) fun t1 ht1 => ⟨_, rfl, CondP.of (fun hc5 => ?_) (fun hc => no _ S4 (hS3.trans hS4) (fun e => by
    have := ht1.2 (by rw [e]); rw [this] at hc; cases hc) hs11)⟩
  refine CondP.of (fun _ => ?_) (fun hc => by simp at hc)
  have hb2 := hs11.swap
  refine ⟨_, hb2.cell 0 rfl, CondP.of (fun _ => ?_) (fun hc => by simp at hc)⟩
  refine ⟨_, hb2.cell 1 rfl, CondP.of (fun _ => ?_) (fun hc => by simp at hc)⟩
  refine ⟨z, hb2.cell 3 rfl, y, hs11.cell 3 rfl, ?_⟩
  have hz4 := (hz.mono hS3).mono hS4
  refine same_spec hs11 hz4 ((hy2.mono hS3).mono hS4) (by omega) (by omega) fun t2 ht2 => ⟨_, rfl, CondP.of (fun hc6 => ?_) (fun hc => no _ S4 (hS3.trans hS4) (fun e => by
    have := ht2.2 (by rw [e]); rw [this] at hc; cases hc) hs11)⟩
  refine broken_spec (hs11.sel [2]) ⟨_, rfl, ?_⟩
  rw [hM.sound]
  exact hK true h11 S4 (((hS1.trans hS2).trans hS3).trans hS4) (fun _ => rfl) hs11.drop.drop
theorem turn_armed (J : Jn) (D : Dk) : (J.turn D).1.armed = D.armed := by
  unfold Jn.turn
  split
  · exact start_armed _ _ _
  · rfl
theorem appD_armed (J : Jn) (D : Dk) (l : List Ent) : (J.appD D l).2.1.armed = D.armed := by
  unfold Jn.appD
  split
  · rfl
  · split
    · rfl
    · split
      · exact turn_armed _ _
      · split
        · show ((J.turn D).2.write (J.turn D).1 (J.turn D).2.cur (entB l)).2.1.armed = _
          rw [write_armed, turn_armed]
        · show ((J.turn D).2.write (J.turn D).1 (J.turn D).2.cur (entB l)).2.1.armed = _
          rw [write_armed, turn_armed]
theorem another_armed (J : Jn) (D : Dk) (h : Hd) : (J.another D h).2.1.armed = D.armed := by
  unfold Jn.another
  split
  · rfl
  · exact start_armed _ _ _
theorem cutJ_armed (J : Jn) (D : Dk) (fr : Nat) : (J.cutJ D fr).2.1.armed = D.armed := by
  unfold Jn.cutJ
  split
  · rfl
  · split
    · rfl
    · split
      · split
        · exact another_armed _ _ _
        · show (Jn.idle _ _).1.armed = _
          rw [idle_armed, another_armed]
      · split
        · exact write_armed _ _ _ _
        · exact write_armed _ _ _ _
theorem beginJ_armed (J : Jn) (D : Dk) (i t : Nat) : (J.beginJ D i t).2.1.armed = D.armed := by
  unfold Jn.beginJ
  split
  · rfl
  · split
    · rfl
    · split
      · exact another_armed _ _ _
      · show (Jn.dropN _ _ _).1.armed = _
        rw [dropN_armed, another_armed]
theorem trimN_armed (ix : Nat) : ∀ (k : Nat) (J : Jn) (D : Dk), (J.trimN ix k D).2.1.armed = D.armed
  | 0, J, D => rfl
  | k + 1, J, D => by
    unfold Jn.trimN
    split
    · split
      · rw [trimN_armed ix k, dropAt_armed]
      · exact dropAt_armed _ _ _
    · rfl
theorem trim_armed (J : Jn) (D : Dk) (ix : Nat) : (J.trim D ix).2.1.armed = D.armed := by
  unfold Jn.trim
  split
  · rfl
  · exact trimN_armed _ _ _ _
structure JInv (S : PH) (d many each : Nat) (D : Dk) (J : Jn) (G : List Sg) (s : PL) (n : Nat) : Prop where
  rest : Rest D J G s
  bnd : Bnd D J G s n
  log : J.log.pure = s
  ents : eok S J.log.es
  fld : J.d = d ∧ J.first = 0 ∧ J.many = many ∧ J.each = each
theorem JInv.mono {S S' : PH} {n : Nat} (h : JInv S d many each D J G s n) (hs : PH.le S S') : JInv S' d many each D J G s n := ⟨h.rest, h.bnd, h.log, h.ents.mono hs, h.fld⟩
theorem JInv.fixok {n : Nat} (h : JInv S d many each D J G s n) (hn : n < 100) {a : Bool} {i t : Nat} (hi : i ≤ 100000) (ht : t ≤ 100000) : (J.fix ⟨0, a, i, t⟩).ok := by
  obtain ⟨x1, x2, x3, x4, x5⟩ := fix_facts h.rest.mid ⟨0, a, i, t⟩
  obtain ⟨G0, L, hGL⟩ := snoc_of_ne h.rest.ne
  have hgl : G.getLast? = some L := by rw [hGL]; simp
  refine ⟨?_, by rw [x1]; unfold MaxI; show i ≤ _; omega, by rw [x2]; unfold MaxI; show t ≤ _; omega⟩
  rw [x4 L hgl]
  have := h.bnd.sr L (List.mem_of_getLast? hgl)
  unfold MaxI; omega
theorem JInv.segs {n : Nat} (h : JInv S d many each D J G s n) : J.segs.length < 20 ∧ 0 < J.segs.length := by
  have h1 := h.rest.mid.segLen
  have h2 := h.rest.room
  have h3 := h.rest.mid.rng
  have h4 : 0 < G.length := List.length_pos_iff.2 h.rest.ne
  omega
theorem JInv.loglen {n : Nat} (h : JInv S d many each D J G s n) (hn : n < 100) : J.log.es.length < 1000 := by
  have := log_len h.log; have := h.bnd.el; omega
theorem japp_spec {n : Nat} {v : Sl} {l : List Ent} (hs : Sat H S (jA jb J :: dsk d D :: R)) (hI : JInv S d many each D J G s n) (hn : n < 99) (hv : EL S v l) (hl : l.length ≤ 4) (hli : ∀ e ∈ l, e.t ≤ 10 * n + 10 ∧ e.i ≤ 10 * n + 10)
    {K : Value → Heap → Prop}
    (hbad : okAll s.last l = false → Sat H S (jA jb J :: dsk d D :: R) → ∀ H' S', PH.le S S' → Sat H' S' (jA jb J :: dsk d D :: R) → K (.int .i64 2) H')
    (hok : okAll s.last l = true → ∀ J' D' G' H' S', PH.le S S' → JInv S' d many each D' J' G' { s with es := s.es ++ l } (n + 1) → D'.armed = D.armed → Sat H' S' (jA jb J' :: dsk d D' :: R) → K (.int .i64 0) H')
    (hdown : okAll s.last l = true → D.armed = true → ∀ J' D' H' S', PH.le S S' → After 0 many D' (fun s' => ∃ j, j ≤ l.length ∧ s' = { s with es := s.es ++ l.take j }) → Sat H' S' (jA jb J' :: dsk d D' :: R) → K (.int .i64 70) H') :
    CallsH Tryz.prog 33 #[.pointer (some ⟨jb, 0, none⟩), .slice v.a v.l v.c] H K := by
  obtain ⟨g1, g2, g3, g4⟩ := hI.fld
  have hM := hI.rest.mid
  have hsg := hI.segs
  have hll := hI.loglen (by omega)
  obtain ⟨hli2, hlt2⟩ := log_last hI.log
  have hb1 := hI.bnd.li
  have hb2 := hI.bnd.lt
  have hs' := hs
  rw [← g1] at hs
  refine append_specJ hs hv (by omega) hM.rng.1 hM.file_lt (by omega) hsg.2 (by omega) (by unfold MaxI; omega) (fun _ => hI.fixok (by omega) (by omega) (by omega)) fun H' S' ys hS' hy0 hy1 hs2 => ?_
  rw [g1] at hs2
  by_cases hk : okAll s.last l = true
  · have hout := append_out hI.rest hI.bnd (by omega) ⟨hli2, hlt2⟩ hl hk hli
    rcases hout with ⟨D', J', G', e1, e2, e3, e4, e5⟩ | ⟨D', J', e1, e2, e3⟩
    · rw [e1] at hs2 hy0 ⊢
      obtain ⟨k1, k2⟩ := hy0 rfl
      refine hok hk (J'.add ys) D' G' H' S' hS' ⟨⟨?_, e3.ne, e3.room, e3.mono, e3.tame⟩, ⟨e4.fl, e4.sr, e4.rl, e4.el, e4.li, e4.ft, e4.et⟩, ?_, ?_, ?_⟩ e5 hs2
      · exact e3.mid.relog _
      · show (⟨J'.log.fi, J'.log.ft, (J'.log.es ++ ys).map (·.1)⟩ : PL) = _
        have hp := hI.log
        have hl' : J'.log = J.log := by rw [e2]
        rw [hl', List.map_append, k1, ← hp]; rfl
      · show eok S' (J'.log.es ++ ys)
        have hl' : J'.log = J.log := by rw [e2]
        rw [hl']
        intro x hx
        rcases List.mem_append.1 hx with h | h
        · exact (hI.ents.mono hS') x h
        · exact k2 x h
      · show J'.d = d ∧ J'.first = 0 ∧ J'.many = many ∧ J'.each = each
        rw [e2]; exact hI.fld
    · have har := appD_armed J D l
      rw [e1] at hs2 har ⊢
      rw [g2, g3] at e3
      exact hdown hk (har.symm.trans e3.2.1) _ D' H' S' hS' e3 hs2
  · have hk : okAll s.last l = false := by simpa using hk
    have e : J.appD D l = (2, D, J) := by
      rw [Jn.appD, if_neg (by rw [hM.sound]; simp), hli2, hlt2, if_pos (show okAll s.last l = false from hk)]
    rw [e] at hs2 hy1 ⊢
    rw [hy1 (by simp), Jn.add_nil] at hs2
    exact hbad hk hs' H' S' hS' hs2
theorem jcut_spec {n fr : Nat} (hs : Sat H S (jA jb J :: dsk d D :: R)) (hI : JInv S d many each D J G s n) (hn : n < 99) (hfr : fr ≤ s.last.1 + 1)
    {K : Value → Heap → Prop}
    (hbad : fr ≤ s.fi → ∀ H' S', PH.le S S' → Sat H' S' (jA jb J :: dsk d D :: R) → K (.int .i64 2) H')
    (hok : s.fi < fr → ∀ J' D' G' H' S', PH.le S S' → JInv S' d many each D' J' G' (s.cutAt (fr - 1)) (n + 1) → D'.armed = D.armed → Sat H' S' (jA jb J' :: dsk d D' :: R) → K (.int .i64 0) H')
    (hdown : s.fi < fr → D.armed = true → ∀ J' D' H' S', PH.le S S' → After 0 many D' (fun s' => s' = s ∨ s' = s.cutAt (fr - 1)) → Sat H' S' (jA jb J' :: dsk d D' :: R) → K (.int .i64 70) H') :
    CallsH Tryz.prog 35 #[.pointer (some ⟨jb, 0, none⟩), .int .u64 (fr : Int)] H K := by
  obtain ⟨g1, g2, g3, g4⟩ := hI.fld
  have hM := hI.rest.mid
  have hsg := hI.segs
  have hll := hI.loglen (by omega)
  obtain ⟨hli2, hlt2⟩ := log_last hI.log
  obtain ⟨hfi, hft⟩ := log_fi hI.log
  have hb1 := hI.bnd.li
  have hcon := hM.lay.con
  rw [← g1] at hs
  have hpu := Lg.pure_last (J.log.upto fr)
  rw [Lg.pure_upto, hI.log] at hpu
  have hbc := hI.bnd.cutAt (m := fr - 1) hcon
  have hct : (s.cutAt (fr - 1)).last.2 ≤ 10 * n := by
    rcases PL.last_mem (s.cutAt (fr - 1)) with ⟨_, e⟩ | ⟨x, hx, e⟩
    · rw [e]; exact hbc.2.2.1
    · rw [e]; exact hbc.2.2.2 x hx
  refine cut_specJ hs hM.rng.1 hM.file_lt (by omega) hsg.2 (by omega) (by omega) (by
    unfold Lg.Con
    rw [hli2, hfi, log_len hI.log]; exact hcon.last) (fun _ => hI.fixok (by omega) (by have := hbc.2.1; rw [hpu] at this; simp only at this; omega) (by rw [hpu] at hct; simp only at hct; omega)) fun H' S' hS' hs2 => ?_
  rw [g1] at hs2
  rcases Nat.lt_or_ge s.fi fr with hlt | hge
  · rcases cut_out hI.rest hI.bnd (by omega) hI.log hlt hfr with ⟨D', J', G', e1, e2, e3, e4, e5⟩ | ⟨D', J', e1, e2⟩
    · rw [e1] at hs2 ⊢
      refine hok hlt J' D' G' H' S' hS' ⟨e3, e4, ?_, ?_, ?_⟩ e5 hs2
      · rw [e2]
        show (J.log.upto fr).pure = _
        rw [Lg.pure_upto, hI.log]
      · rw [e2]
        intro x hx
        exact (hI.ents.mono hS') x (List.mem_of_mem_take hx)
      · rw [e2]; exact hI.fld
    · have har := cutJ_armed J D fr
      rw [e1] at hs2 har ⊢
      rw [g2, g3] at e2
      exact hdown hlt (har.symm.trans e2.2.1) J' D' H' S' hS' e2 hs2
  · have e : J.cutJ D fr = (2, D, J) := by
      rw [Jn.cutJ, if_neg (by rw [hM.sound]; simp), hfi, if_pos (by unfold mayB; rw [decide_eq_false (by omega), Bool.false_and])]
    rw [e] at hs2 ⊢
    exact hbad hge H' S' hS' hs2
theorem new_lay (first many : Nat) : Lay Dk.new first many [] [] ⟨0, 0, []⟩ :=
  ⟨(fun g h => by cases h), List.Pairwise.nil, List.Pairwise.nil, (fun g h => by cases h), (fun k h => by simp at h), Tail.nil, (fun i hi hg => Tail.nil), rfl⟩
theorem new_bnd {D' : Dk} {J' : Jn} {G' : List Sg} (hf : J'.first = first ∧ J'.many = many) (hg : G'.Sublist [] ∨ ∀ x ∈ G', x.hd.serial = 0 ∧ x.rs = []) (hl : ∀ i, i < many → (D'.f (first + i)).b.length ≤ (Dk.new.f (first + i)).b.length + 60) : Bnd D' J' G' ⟨0, 0, []⟩ 0 := by
  have hg : ∀ x ∈ G', x.hd.serial = 0 ∧ x.rs = [] := by
    rcases hg with h | h
    · rw [List.sublist_nil.1 h]; intro x hx; cases hx
    · exact h
  refine ⟨fun i hi => ?_, fun g h => by rw [(hg g h).1]; exact Nat.zero_le _, fun g h => by rw [(hg g h).2]; exact Nat.zero_le _, Nat.zero_le _, Nat.le_refl _, Nat.le_refl _, fun e he => by cases he⟩
  rw [hf.1]
  rw [hf.2] at hi
  have := hl i hi
  have : (Dk.new.f (first + i)).b.length = 0 := rfl
  omega
theorem jnew_spec {K : Value → Heap → Prop} (hs : Sat H S (dsk d Dk.new :: R)) (hr : 2 ≤ many ∧ many < 20) (he : 64 ≤ each ∧ each ≤ 1048576)
    (hK : ∀ jb J' D' G' H' S', PH.le S S' → JInv S' d many each D' J' G' ⟨0, 0, []⟩ 0 → D'.armed = false → Sat H' S' (jA jb J' :: dsk d D' :: R) → K (.tuple #[.pointer (some ⟨jb, 0, none⟩), .int .i64 0]) H') :
    CallsH Tryz.prog 11 #[.pointer (some ⟨d, 0, none⟩), .int .i64 0, .int .i64 (many : Int), .int .i64 (each : Int)] H K := by
  refine jopen_spec (first := 0) hs (new_lay 0 many) (by omega) he rfl rfl (fun i hi => Nat.le_refl _) (.inl (by show 0 < many; omega)) (fun j k _ hk => by simp at hk) (fun g hg => by cases hg) fun jb J' D' G' H' S' hS' hf hX hlog hge ha hg hl hs' => ?_
  exact hK jb J' D' G' H' S' hS' ⟨hX, new_bnd ⟨hf.2.1, hf.2.2.1⟩ hg hl, hlog, hge, hf⟩ ha hs'
set_option maxHeartbeats 2000000 in
theorem lives_spec (hs : Sat H S R) {K : Value → Heap → Prop} (hK : ∀ H' S', PH.le S S' → Sat H' S' R → K (.bool true) H') : CallsH Tryz.prog 9 #[] H K := by
  apply vc9
  refine new_spec hs fun d h1 hs1 => ⟨_, rfl, ?_⟩
  refine jnew_spec (many := 4) (each := 64) hs1 (by omega) (by omega) fun jb J D G h2 S1 hS1 hI ha hs2 => ⟨_, _, rfl, ?_⟩
  refine entry_spec (i := 1) (t := 1) hs2 fun x1 h3 S2 hS2 hx1 hs3 => ⟨_, _, x1, rfl, ?_⟩
  refine entry_spec (i := 2) (t := 1) hs3 fun x2 h4 S3 hS3 hx2 hs4 => ⟨_, _, x2, rfl, ?_⟩
  refine entry_spec (i := 3) (t := 1) hs4 fun x3 h5 S4 hS4 hx3 hs5 => ⟨_, _, x3, rfl, ?_⟩
  intro b1 h6 f6
  have hs6 := hs5.fresh f6
  have hs6 : Sat h6 S4 (lst b1 85 (entV [(⟨1, 1, [120]⟩, x1), (⟨2, 1, [120]⟩, x2), (⟨3, 1, [120]⟩, x3)]) :: jA jb J :: dsk d D :: R) := hs6
  have hs7 := own.ofLst (sz := 3) (n := 3) (c := 3) (xs := entV [(⟨1, 1, [120]⟩, x1), (⟨2, 1, [120]⟩, x2), (⟨3, 1, [120]⟩, x3)]) hs6 rfl (Nat.le_refl _) (by decide) rfl
  obtain ⟨S5, q1, q2, hs8⟩ := sealL (us := [(⟨1, 1, [120]⟩, x1), (⟨2, 1, [120]⟩, x2), (⟨3, 1, [120]⟩, x3)]) hs7 (by
    intro y hy
    simp only [List.mem_cons, List.not_mem_nil, or_false] at hy
    rcases hy with rfl | rfl | rfl
    · exact (hx1.mono hS3).mono hS4
    · exact hx2.mono hS4
    · exact hx3)
  have q2 : EL S5 ⟨some ⟨b1, 0, none⟩, 3, 3⟩ [⟨1, 1, [120]⟩, ⟨2, 1, [120]⟩, ⟨3, 1, [120]⟩] := q2
  have hI5 := hI.mono (((hS2.trans hS3).trans hS4).trans q1)
  refine japp_spec hs8 hI5 (by omega) q2 (by simp) (fun e he => by simp only [List.mem_cons, List.not_mem_nil, or_false] at he; rcases he with rfl | rfl | rfl <;> simp) (fun h => absurd h (by decide)) (fun _ J1 D1 G1 h7 S6 hS6 hI6 ha6 hs9 => ⟨_, rfl, ?_⟩) (fun _ h => by rw [ha] at h; cases h)
  refine jcut_spec (fr := 3) hs9 hI6 (by omega) (by decide) (fun h => absurd h (by decide)) (fun _ J2 D2 G2 h8 S7 hS7 hI7 ha7 hs10 => ⟨_, rfl, ?_⟩) (fun _ h => by rw [ha6.trans ha] at h; cases h)
  refine entry_spec (i := 3) (t := 2) hs10 fun x4 h9 S8 hS8 hx4 hs11 => ⟨_, _, x4, rfl, ?_⟩
  intro b2 h10 f10
  have hs12 : Sat h10 S8 (lst b2 85 (entV [(⟨3, 2, [120]⟩, x4)]) :: jA jb J2 :: dsk d D2 :: R) := hs11.fresh f10
  have hs13 := own.ofLst (sz := 3) (n := 1) (c := 1) (xs := entV [(⟨3, 2, [120]⟩, x4)]) hs12 rfl (Nat.le_refl _) (by decide) rfl
  obtain ⟨S9, r1, r2, hs14⟩ := sealL (us := [(⟨3, 2, [120]⟩, x4)]) hs13 (by
    intro y hy
    simp only [List.mem_cons, List.not_mem_nil, or_false] at hy
    subst hy; exact hx4)
  have r2 : EL S9 ⟨some ⟨b2, 0, none⟩, 1, 1⟩ [⟨3, 2, [120]⟩] := r2
  have hI8 := hI7.mono (hS8.trans r1)
  refine japp_spec hs14 hI8 (by omega) r2 (by simp) (fun e he => by simp only [List.mem_cons, List.not_mem_nil, or_false] at he; subst he; simp) (fun h => absurd h (by decide)) (fun _ J3 D3 G3 h11 S10 hS10 hI9 ha9 hs15 => ⟨_, rfl, ?_⟩) (fun _ h => by rw [(ha7.trans ha6).trans ha] at h; cases h)
  refine entries_spec hs15 hI9.ents (by have := hI9.loglen (by omega); omega) fun v h12 S11 hS11 hv hs16 => ⟨v, rfl, ?_⟩
  rw [log_ents hI9.log] at hv
  have hv : EL S11 v [⟨1, 1, [120]⟩, ⟨2, 1, [120]⟩, ⟨3, 2, [120]⟩] := hv
  have hvl := (EL.len hv).1
  simp only [List.length_cons, List.length_nil] at hvl
  obtain ⟨g2, o2, z2, ga2, gc2, _⟩ := hv.at hs16 (k := 2) (by simp)
  obtain ⟨g1, o1, z1, ga1, gc1, _⟩ := hv.at hs16 (k := 1) (by simp)
  refine CondP.of (fun _ => CondP.of (fun _ => CondP.of (fun _ => CondP.of (fun _ => CondP.of (fun _ => ?_) fun hc => ?_) fun hc => by simp at hc) fun hc => by simp at hc) fun hc => by simp at hc) fun hc => by simp at hc
  · refine ⟨⟨by omega, by omega⟩, NilP.of ga2 ⟨_, gc2.get 1 _ rfl, CondP.of (fun _ => ⟨⟨by omega, by omega⟩, NilP.of ga1 ⟨_, gc1.get 1 _ rfl, ?_⟩⟩) fun hc => by simp at hc⟩⟩
    exact hK h12 S11 ((((((((hS1.trans hS2).trans hS3).trans hS4).trans q1).trans hS6).trans hS7).trans hS8).trans ((r1.trans hS10).trans hS11)) hs16.drop.drop
  · rw [hvl] at hc; simp at hc
end
end Go.Sx.Tryz
namespace Go.Sx.Tryz
open Go Go.Sx Go.Proofs
set_option maxRecDepth 100000
set_option linter.unusedVariables false
noncomputable def c12 : Code := (Tryz.f12.body).getD .skip
def a12 : Ann := (.seq .leaf (.seq (.seq .leaf (.inn (.seq .leaf (.br (.seq .leaf (.seq .leaf (.seq (.seq .leaf (.br (.seq (.reg (.q 0 (.q 1 (.q 2 (.q 3 (.q 4 (.m 5 (.q 6 (.fin)) (.nil)))))))) .leaf) .leaf)) (.seq .leaf .leaf)))) (.seq .leaf (.br (.seq (.reg (.q 0 (.q 3 (.q 4 (.q 5 (.q 7 (.q 10 (.q 11 (.q 12 (.m 1 (.q 2 (.q 6 (.m 8 (.q 9 (.q 13 (.q 14 (.m 15 (.m 16 (.fin) (.nil)) (.nil))))) (.m 15 (.m 8 (.q 9 (.q 13 (.q 14 (.m 16 (.fin) (.nil))))) (.nil)) (.nil))))) (.m 15 (.m 1 (.q 2 (.q 6 (.m 8 (.q 9 (.q 13 (.q 14 (.m 16 (.fin) (.nil))))) (.nil)))) (.nil)) (.nil)))))))))))) (.seq (.reg (.q 0 (.q 1 (.q 2 (.q 3 (.q 4 (.q 5 (.q 6 (.q 7 (.m 8 (.q 9 (.q 10 (.m 11 (.q 12 (.fin)) (.nil)))) (.nil))))))))))) .leaf)) (.seq .leaf (.br (.seq .leaf (.seq .leaf (.seq .leaf (.join [(12, .one (.p)), (14, .one (.b))] (.reg (.q 0 (.q 1 (.q 2 (.q 3 (.q 4 (.q 5 (.q 6 (.q 7 (.m 8 (.q 9 (.fin)) (.nil))))))))))) .leaf)))) (.seq .leaf (.br (.seq .leaf (.seq (.reg (.q 0 (.q 1 (.q 2 (.q 3 (.q 4 (.m 5 (.q 6 (.fin)) (.nil)))))))) .leaf)) .leaf)))))))))) (.seq .leaf (.seq .leaf (.seq (.seq .leaf (.br (.seq (.reg (.q 0 (.q 1 (.q 2 (.q 3 (.q 4 (.m 5 (.q 6 (.fin)) (.nil)))))))) .leaf) .leaf)) (.seq .leaf (.seq (.reg (.q 0 (.q 1 (.q 2 (.q 3 (.q 4 (.m 5 (.q 6 (.fin)) (.nil)))))))) .leaf)))))))
theorem ok12 : okC tab 141 true c12 a12 = true := by kernel_rfl
theorem vc12 (d_b d_o : Nat) (j_b j_o : Nat) (s_0 : Int) (s_1 : Int) (s_2 : Sl) (s_3 : Sl) (o_0 : Int) (o_1 : Int) (o_2 : Int) (o_3 : Int) (o_4 : Int) (o_5 : Sl) (many_ : Int) (each_ : Int) (h : Heap) (R : Value → Heap → Prop)
  (hv : ∀ b1 h1, Fresh h (.cells #[.int .u64 s_0, .int .u64 s_1, .slice s_2.a s_2.l s_2.c, .slice s_3.a s_3.l s_3.c] 38) b1 h1 →
   ∀ b2 h2, Fresh h1 (.cells #[.int .i64 o_0, .int .i64 o_1, .int .i64 o_2, .int .u64 o_3, .int .u64 o_4, .slice o_5.a o_5.l o_5.c] 40) b2 h2 →
   ∀ b3 h3, Fresh h2 (.cells #[.int .u64 0, .int .u64 0, .slice none 0 0, .slice none 0 0] 38) b3 h3 →
   ∃ n1 : Int, cellH h3 b2 0 = some (.int .i64 n1) ∧
   CondP ((n1 : Int) == 1) (
   ∃ n2 : Int, ∃ n3 : Int, ∃ x1 : Sl, ∃ x2 : Sl, CellsAt h3 b1 0 [.int .u64 n2, .int .u64 n3, .slice x1.a x1.l x1.c, .slice x2.a x2.l x2.c] ∧
   ∃ n4 : Int, ∃ n5 : Int, ∃ n6 : Int, ∃ n7 : Int, ∃ n8 : Int, ∃ x3 : Sl, CellsAt h3 b2 0 [.int .i64 n4, .int .i64 n5, .int .i64 n6, .int .u64 n7, .int .u64 n8, .slice x3.a x3.l x3.c] ∧
   CallsH Tryz.prog 44 #[.agg #[.int .u64 n2, .int .u64 n3, .slice x1.a x1.l x1.c, .slice x2.a x2.l x2.c], .agg #[.int .i64 n4, .int .i64 n5, .int .i64 n6, .int .u64 n7, .int .u64 n8, .slice x3.a x3.l x3.c]] h3 (fun r1 h4 => ∃ n9 : Int, r1 = .int .u64 n9 ∧
   CallsH Tryz.prog 35 #[.pointer (some ⟨j_b, j_o, none⟩), .int .u64 n9] h4 (fun r2 h5 => ∃ n10 : Int, r2 = .int .i64 n10 ∧
   ∃ n11 : Int, cellH h5 b1 0 = some (.int .u64 n11) ∧
   CondP (decide ((n9 : Int) ≤ n11)) (
   ∃ n12 : Int, ∃ n13 : Int, ∃ x4 : Sl, ∃ x5 : Sl, CellsAt h5 b1 0 [.int .u64 n12, .int .u64 n13, .slice x4.a x4.l x4.c, .slice x5.a x5.l x5.c] ∧
   CanSt h5 b3 0 [.int .u64 n12, .int .u64 n13, .slice x4.a x4.l x4.c, .slice x5.a x5.l x5.c] ∧ ∀ h6, Stored h5 b3 0 [.int .u64 n12, .int .u64 n13, .slice x4.a x4.l x4.c, .slice x5.a x5.l x5.c] h6 →
   ∃ n14 : Int, ∃ n15 : Int, ∃ x6 : Sl, ∃ x7 : Sl, CellsAt h6 b3 0 [.int .u64 n14, .int .u64 n15, .slice x6.a x6.l x6.c, .slice x7.a x7.l x7.c] ∧
   R (.tuple #[.pointer (some ⟨j_b, j_o, none⟩), .agg #[.int .u64 n14, .int .u64 n15, .slice x6.a x6.l x6.c, .slice x7.a x7.l x7.c], .bool ((n10 : Int) == 2)]) h6) (
   ∃ n16 : Int, ∃ n17 : Int, ∃ x8 : Sl, ∃ x9 : Sl, CellsAt h5 b1 0 [.int .u64 n16, .int .u64 n17, .slice x8.a x8.l x8.c, .slice x9.a x9.l x9.c] ∧
   CallsH Tryz.prog 45 #[.agg #[.int .u64 n16, .int .u64 n17, .slice x8.a x8.l x8.c, .slice x9.a x9.l x9.c], .int .u64 n9] h5 (fun r3 h7 => ∃ n18 : Int, ∃ n19 : Int, ∃ x10 : Sl, ∃ x11 : Sl, r3 = .agg #[.int .u64 n18, .int .u64 n19, .slice x10.a x10.l x10.c, .slice x11.a x11.l x11.c] ∧
   CanSt h7 b3 0 [.int .u64 n18, .int .u64 n19, .slice x10.a x10.l x10.c, .slice x11.a x11.l x11.c] ∧ ∀ h8, Stored h7 b3 0 [.int .u64 n18, .int .u64 n19, .slice x10.a x10.l x10.c, .slice x11.a x11.l x11.c] h8 →
   ∃ n20 : Int, ∃ n21 : Int, ∃ x12 : Sl, ∃ x13 : Sl, CellsAt h8 b3 0 [.int .u64 n20, .int .u64 n21, .slice x12.a x12.l x12.c, .slice x13.a x13.l x13.c] ∧
   R (.tuple #[.pointer (some ⟨j_b, j_o, none⟩), .agg #[.int .u64 n20, .int .u64 n21, .slice x12.a x12.l x12.c, .slice x13.a x13.l x13.c], .bool ((n10 : Int) == 0)]) h8))))) (
   CondP ((n1 : Int) == 2) (
   ∃ n22 : Int, ∃ n23 : Int, ∃ x14 : Sl, ∃ x15 : Sl, CellsAt h3 b1 0 [.int .u64 n22, .int .u64 n23, .slice x14.a x14.l x14.c, .slice x15.a x15.l x15.c] ∧
   ∃ n24 : Int, cellH h3 b2 3 = some (.int .u64 n24) ∧
   (5 : Int) ≠ 0 ∧
   ∃ n25 : Int, ∃ n26 : Int, ∃ x16 : Sl, ∃ x17 : Sl, CellsAt h3 b1 0 [.int .u64 n25, .int .u64 n26, .slice x16.a x16.l x16.c, .slice x17.a x17.l x17.c] ∧
   ∃ n27 : Int, cellH h3 b2 4 = some (.int .u64 n27) ∧
   (3 : Int) ≠ 0 ∧
   (CallsH Tryz.prog 18 #[.agg #[.int .u64 n22, .int .u64 n23, .slice x14.a x14.l x14.c, .slice x15.a x15.l x15.c]] h3 (fun r4 h9 => ∃ n28 : Int, ∃ n29 : Int, ∃ x18 : Sl, r4 = .agg #[.int .u64 n28, .int .u64 n29, .slice x18.a x18.l x18.c] ∧
   cellH h9 b2 4 = some (.int .u64 n27) ∧
   CellsAt h9 b1 0 [.int .u64 n25, .int .u64 n26, .slice x16.a x16.l x16.c, .slice x17.a x17.l x17.c] ∧
   cellH h9 b2 3 = some (.int .u64 n24) ∧
   (CallsH Tryz.prog 18 #[.agg #[.int .u64 n25, .int .u64 n26, .slice x16.a x16.l x16.c, .slice x17.a x17.l x17.c]] h9 (fun r5 h10 => ∃ n30 : Int, ∃ n31 : Int, ∃ x19 : Sl, r5 = .agg #[.int .u64 n30, .int .u64 n31, .slice x19.a x19.l x19.c] ∧
   cellH h10 b2 4 = some (.int .u64 n27) ∧
   cellH h10 b2 3 = some (.int .u64 n24) ∧
   ∀ b4 h11, Fresh h10 (.cells #[.int .u64 0, .int .u64 0, .slice none 0 0] 35) b4 h11 →
   cellH h11 b2 4 = some (.int .u64 n27) ∧
   cellH h11 b2 3 = some (.int .u64 n24) ∧
   CanSt h11 b4 0 [.int .u64 (IntKind.u64.wrap (n28 + (Int.tmod n24 5))), .int .u64 (IntKind.u64.wrap (n31 + (Int.tmod n27 3))), .slice none 0 0] ∧ ∀ h12, Stored h11 b4 0 [.int .u64 (IntKind.u64.wrap (n28 + (Int.tmod n24 5))), .int .u64 (IntKind.u64.wrap (n31 + (Int.tmod n27 3))), .slice none 0 0] h12 →
   ∃ n32 : Int, ∃ n33 : Int, ∃ x20 : Sl, CellsAt h12 b4 0 [.int .u64 n32, .int .u64 n33, .slice x20.a x20.l x20.c] ∧
   ∃ n34 : Int, cellH h12 b4 0 = some (.int .u64 n34) ∧
   ∃ n35 : Int, cellH h12 b4 1 = some (.int .u64 n35) ∧
   CallsH Tryz.prog 46 #[.pointer (some ⟨j_b, j_o, none⟩), .int .u64 n34, .int .u64 n35] h12 (fun r6 h13 => ∃ n36 : Int, r6 = .int .i64 n36 ∧
   CellsAt h13 b4 0 [.int .u64 n32, .int .u64 n33, .slice x20.a x20.l x20.c] ∧
   CanSt h13 b3 0 [.int .u64 n32, .int .u64 n33, .slice x20.a x20.l x20.c, .slice none 0 0] ∧ ∀ h14, Stored h13 b3 0 [.int .u64 n32, .int .u64 n33, .slice x20.a x20.l x20.c, .slice none 0 0] h14 →
   ∃ n37 : Int, ∃ n38 : Int, ∃ x21 : Sl, ∃ x22 : Sl, CellsAt h14 b3 0 [.int .u64 n37, .int .u64 n38, .slice x21.a x21.l x21.c, .slice x22.a x22.l x22.c] ∧
   R (.tuple #[.pointer (some ⟨j_b, j_o, none⟩), .agg #[.int .u64 n37, .int .u64 n38, .slice x21.a x21.l x21.c, .slice x22.a x22.l x22.c], .bool ((n36 : Int) == 0)]) h14))) ∧
   (∀ b5 h15, Fresh h9 (.cells #[.int .u64 0, .int .u64 0, .slice none 0 0] 35) b5 h15 →
   cellH h15 b2 4 = some (.int .u64 n27) ∧
   CellsAt h15 b1 0 [.int .u64 n25, .int .u64 n26, .slice x16.a x16.l x16.c, .slice x17.a x17.l x17.c] ∧
   cellH h15 b2 3 = some (.int .u64 n24) ∧
   CallsH Tryz.prog 18 #[.agg #[.int .u64 n25, .int .u64 n26, .slice x16.a x16.l x16.c, .slice x17.a x17.l x17.c]] h15 (fun r7 h16 => ∃ n39 : Int, ∃ n40 : Int, ∃ x23 : Sl, r7 = .agg #[.int .u64 n39, .int .u64 n40, .slice x23.a x23.l x23.c] ∧
   cellH h16 b2 4 = some (.int .u64 n27) ∧
   cellH h16 b2 3 = some (.int .u64 n24) ∧
   CanSt h16 b5 0 [.int .u64 (IntKind.u64.wrap (n28 + (Int.tmod n24 5))), .int .u64 (IntKind.u64.wrap (n40 + (Int.tmod n27 3))), .slice none 0 0] ∧ ∀ h17, Stored h16 b5 0 [.int .u64 (IntKind.u64.wrap (n28 + (Int.tmod n24 5))), .int .u64 (IntKind.u64.wrap (n40 + (Int.tmod n27 3))), .slice none 0 0] h17 →
   ∃ n41 : Int, ∃ n42 : Int, ∃ x24 : Sl, CellsAt h17 b5 0 [.int .u64 n41, .int .u64 n42, .slice x24.a x24.l x24.c] ∧
   ∃ n43 : Int, cellH h17 b5 0 = some (.int .u64 n43) ∧
   ∃ n44 : Int, cellH h17 b5 1 = some (.int .u64 n44) ∧
   CallsH Tryz.prog 46 #[.pointer (some ⟨j_b, j_o, none⟩), .int .u64 n43, .int .u64 n44] h17 (fun r8 h18 => ∃ n45 : Int, r8 = .int .i64 n45 ∧
   CellsAt h18 b5 0 [.int .u64 n41, .int .u64 n42, .slice x24.a x24.l x24.c] ∧
   CanSt h18 b3 0 [.int .u64 n41, .int .u64 n42, .slice x24.a x24.l x24.c, .slice none 0 0] ∧ ∀ h19, Stored h18 b3 0 [.int .u64 n41, .int .u64 n42, .slice x24.a x24.l x24.c, .slice none 0 0] h19 →
   ∃ n46 : Int, ∃ n47 : Int, ∃ x25 : Sl, ∃ x26 : Sl, CellsAt h19 b3 0 [.int .u64 n46, .int .u64 n47, .slice x25.a x25.l x25.c, .slice x26.a x26.l x26.c] ∧
   R (.tuple #[.pointer (some ⟨j_b, j_o, none⟩), .agg #[.int .u64 n46, .int .u64 n47, .slice x25.a x25.l x25.c, .slice x26.a x26.l x26.c], .bool ((n45 : Int) == 0)]) h19))))) ∧
   (∀ b6 h20, Fresh h3 (.cells #[.int .u64 0, .int .u64 0, .slice none 0 0] 35) b6 h20 →
   cellH h20 b2 4 = some (.int .u64 n27) ∧
   CellsAt h20 b1 0 [.int .u64 n25, .int .u64 n26, .slice x16.a x16.l x16.c, .slice x17.a x17.l x17.c] ∧
   cellH h20 b2 3 = some (.int .u64 n24) ∧
   CellsAt h20 b1 0 [.int .u64 n22, .int .u64 n23, .slice x14.a x14.l x14.c, .slice x15.a x15.l x15.c] ∧
   CallsH Tryz.prog 18 #[.agg #[.int .u64 n22, .int .u64 n23, .slice x14.a x14.l x14.c, .slice x15.a x15.l x15.c]] h20 (fun r9 h21 => ∃ n48 : Int, ∃ n49 : Int, ∃ x27 : Sl, r9 = .agg #[.int .u64 n48, .int .u64 n49, .slice x27.a x27.l x27.c] ∧
   cellH h21 b2 4 = some (.int .u64 n27) ∧
   CellsAt h21 b1 0 [.int .u64 n25, .int .u64 n26, .slice x16.a x16.l x16.c, .slice x17.a x17.l x17.c] ∧
   cellH h21 b2 3 = some (.int .u64 n24) ∧
   CallsH Tryz.prog 18 #[.agg #[.int .u64 n25, .int .u64 n26, .slice x16.a x16.l x16.c, .slice x17.a x17.l x17.c]] h21 (fun r10 h22 => ∃ n50 : Int, ∃ n51 : Int, ∃ x28 : Sl, r10 = .agg #[.int .u64 n50, .int .u64 n51, .slice x28.a x28.l x28.c] ∧
   cellH h22 b2 4 = some (.int .u64 n27) ∧
   cellH h22 b2 3 = some (.int .u64 n24) ∧
   CanSt h22 b6 0 [.int .u64 (IntKind.u64.wrap (n48 + (Int.tmod n24 5))), .int .u64 (IntKind.u64.wrap (n51 + (Int.tmod n27 3))), .slice none 0 0] ∧ ∀ h23, Stored h22 b6 0 [.int .u64 (IntKind.u64.wrap (n48 + (Int.tmod n24 5))), .int .u64 (IntKind.u64.wrap (n51 + (Int.tmod n27 3))), .slice none 0 0] h23 →
   ∃ n52 : Int, ∃ n53 : Int, ∃ x29 : Sl, CellsAt h23 b6 0 [.int .u64 n52, .int .u64 n53, .slice x29.a x29.l x29.c] ∧
   ∃ n54 : Int, cellH h23 b6 0 = some (.int .u64 n54) ∧
   ∃ n55 : Int, cellH h23 b6 1 = some (.int .u64 n55) ∧
   CallsH Tryz.prog 46 #[.pointer (some ⟨j_b, j_o, none⟩), .int .u64 n54, .int .u64 n55] h23 (fun r11 h24 => ∃ n56 : Int, r11 = .int .i64 n56 ∧
   CellsAt h24 b6 0 [.int .u64 n52, .int .u64 n53, .slice x29.a x29.l x29.c] ∧
   CanSt h24 b3 0 [.int .u64 n52, .int .u64 n53, .slice x29.a x29.l x29.c, .slice none 0 0] ∧ ∀ h25, Stored h24 b3 0 [.int .u64 n52, .int .u64 n53, .slice x29.a x29.l x29.c, .slice none 0 0] h25 →
   ∃ n57 : Int, ∃ n58 : Int, ∃ x30 : Sl, ∃ x31 : Sl, CellsAt h25 b3 0 [.int .u64 n57, .int .u64 n58, .slice x30.a x30.l x30.c, .slice x31.a x31.l x31.c] ∧
   R (.tuple #[.pointer (some ⟨j_b, j_o, none⟩), .agg #[.int .u64 n57, .int .u64 n58, .slice x30.a x30.l x30.c, .slice x31.a x31.l x31.c], .bool ((n56 : Int) == 0)]) h25))))) (
   CondP ((n1 : Int) == 3) (
   ∃ n59 : Int, ∃ n60 : Int, ∃ x32 : Sl, ∃ x33 : Sl, CellsAt h3 b1 0 [.int .u64 n59, .int .u64 n60, .slice x32.a x32.l x32.c, .slice x33.a x33.l x33.c] ∧
   ∃ n61 : Int, ∃ n62 : Int, ∃ n63 : Int, ∃ n64 : Int, ∃ n65 : Int, ∃ x34 : Sl, CellsAt h3 b2 0 [.int .i64 n61, .int .i64 n62, .int .i64 n63, .int .u64 n64, .int .u64 n65, .slice x34.a x34.l x34.c] ∧
   CallsH Tryz.prog 44 #[.agg #[.int .u64 n59, .int .u64 n60, .slice x32.a x32.l x32.c, .slice x33.a x33.l x33.c], .agg #[.int .i64 n61, .int .i64 n62, .int .i64 n63, .int .u64 n64, .int .u64 n65, .slice x34.a x34.l x34.c]] h3 (fun r12 h26 => ∃ n66 : Int, r12 = .int .u64 n66 ∧
   CallsH Tryz.prog 47 #[.pointer (some ⟨j_b, j_o, none⟩), .int .u64 n66] h26 (fun r13 h27 => ∃ n67 : Int, r13 = .int .i64 n67 ∧
   ∃ n68 : Int, ∃ n69 : Int, ∃ x35 : Sl, ∃ x36 : Sl, CellsAt h27 b1 0 [.int .u64 n68, .int .u64 n69, .slice x35.a x35.l x35.c, .slice x36.a x36.l x36.c] ∧
   CallsH Tryz.prog 17 #[.agg #[.int .u64 n68, .int .u64 n69, .slice x35.a x35.l x35.c, .slice x36.a x36.l x36.c], .pointer (some ⟨j_b, j_o, none⟩), .int .u64 n66] h27 (fun r14 h28 => ∃ n70 : Int, ∃ n71 : Int, ∃ x37 : Sl, ∃ x38 : Sl, ∃ t1 : Bool, r14 = .tuple #[.agg #[.int .u64 n70, .int .u64 n71, .slice x37.a x37.l x37.c, .slice x38.a x38.l x38.c], .bool t1] ∧
   ∀ b7 h29, Fresh h28 (.cells #[.int .u64 0, .int .u64 0, .slice none 0 0, .slice none 0 0] 38) b7 h29 →
   CanSt h29 b7 0 [.int .u64 n70, .int .u64 n71, .slice x37.a x37.l x37.c, .slice x38.a x38.l x38.c] ∧ ∀ h30, Stored h29 b7 0 [.int .u64 n70, .int .u64 n71, .slice x37.a x37.l x37.c, .slice x38.a x38.l x38.c] h30 →
   ∃ J1 : Option Addr → Bool → Heap → Prop, (∀ p1 : Option Addr, ∀ t2 : Bool, ∀ h31, J1 p1 t2 h31 → ∀ _ : Env,
   ∃ n72 : Int, ∃ n73 : Int, ∃ x39 : Sl, ∃ x40 : Sl, CellsAt h31 b3 0 [.int .u64 n72, .int .u64 n73, .slice x39.a x39.l x39.c, .slice x40.a x40.l x40.c] ∧
   R (.tuple #[.pointer p1, .agg #[.int .u64 n72, .int .u64 n73, .slice x39.a x39.l x39.c, .slice x40.a x40.l x40.c], .bool t2]) h31) ∧
   ∃ n74 : Int, ∃ n75 : Int, ∃ x41 : Sl, ∃ x42 : Sl, CellsAt h30 b7 0 [.int .u64 n74, .int .u64 n75, .slice x41.a x41.l x41.c, .slice x42.a x42.l x42.c] ∧
   CondP ((n67 : Int) == 0) (
   CanSt h30 b3 0 [.int .u64 n74, .int .u64 n75, .slice x41.a x41.l x41.c, .slice x42.a x42.l x42.c] ∧ ∀ h32, Stored h30 b3 0 [.int .u64 n74, .int .u64 n75, .slice x41.a x41.l x41.c, .slice x42.a x42.l x42.c] h32 →
   J1 (some ⟨j_b, j_o, none⟩) t1 h32) (
   CanSt h30 b3 0 [.int .u64 n74, .int .u64 n75, .slice x41.a x41.l x41.c, .slice x42.a x42.l x42.c] ∧ ∀ h33, Stored h30 b3 0 [.int .u64 n74, .int .u64 n75, .slice x41.a x41.l x41.c, .slice x42.a x42.l x42.c] h33 →
   J1 (some ⟨j_b, j_o, none⟩) false h33))))) (
   CondP ((n1 : Int) == 4) (
   CallsH Tryz.prog 11 #[.pointer (some ⟨d_b, d_o, none⟩), .int .i64 0, .int .i64 many_, .int .i64 each_] h3 (fun r15 h34 => ∃ p2 : Option Addr, ∃ n76 : Int, r15 = .tuple #[.pointer p2, .int .i64 n76] ∧
   ∃ n77 : Int, ∃ n78 : Int, ∃ x43 : Sl, ∃ x44 : Sl, CellsAt h34 b1 0 [.int .u64 n77, .int .u64 n78, .slice x43.a x43.l x43.c, .slice x44.a x44.l x44.c] ∧
   CanSt h34 b3 0 [.int .u64 n77, .int .u64 n78, .slice x43.a x43.l x43.c, .slice x44.a x44.l x44.c] ∧ ∀ h35, Stored h34 b3 0 [.int .u64 n77, .int .u64 n78, .slice x43.a x43.l x43.c, .slice x44.a x44.l x44.c] h35 →
   ∃ n79 : Int, ∃ n80 : Int, ∃ x45 : Sl, ∃ x46 : Sl, CellsAt h35 b3 0 [.int .u64 n79, .int .u64 n80, .slice x45.a x45.l x45.c, .slice x46.a x46.l x46.c] ∧
   R (.tuple #[.pointer p2, .agg #[.int .u64 n79, .int .u64 n80, .slice x45.a x45.l x45.c, .slice x46.a x46.l x46.c], .bool ((n76 : Int) == 0)]) h35)) (
   ∃ n81 : Int, ∃ n82 : Int, ∃ x47 : Sl, ∃ x48 : Sl, CellsAt h3 b1 0 [.int .u64 n81, .int .u64 n82, .slice x47.a x47.l x47.c, .slice x48.a x48.l x48.c] ∧
   ∃ n83 : Int, ∃ n84 : Int, ∃ n85 : Int, ∃ n86 : Int, ∃ n87 : Int, ∃ x49 : Sl, CellsAt h3 b2 0 [.int .i64 n83, .int .i64 n84, .int .i64 n85, .int .u64 n86, .int .u64 n87, .slice x49.a x49.l x49.c] ∧
   CallsH Tryz.prog 48 #[.agg #[.int .u64 n81, .int .u64 n82, .slice x47.a x47.l x47.c, .slice x48.a x48.l x48.c], .agg #[.int .i64 n83, .int .i64 n84, .int .i64 n85, .int .u64 n86, .int .u64 n87, .slice x49.a x49.l x49.c]] h3 (fun r16 h36 => ∃ x50 : Sl, ∃ t3 : Bool, r16 = .tuple #[.slice x50.a x50.l x50.c, .bool t3] ∧
   CallsH Tryz.prog 33 #[.pointer (some ⟨j_b, j_o, none⟩), .slice x50.a x50.l x50.c] h36 (fun r17 h37 => ∃ n88 : Int, r17 = .int .i64 n88 ∧
   CondP (!t3) (
   ∃ n89 : Int, ∃ n90 : Int, ∃ x51 : Sl, ∃ x52 : Sl, CellsAt h37 b1 0 [.int .u64 n89, .int .u64 n90, .slice x51.a x51.l x51.c, .slice x52.a x52.l x52.c] ∧
   CanSt h37 b3 0 [.int .u64 n89, .int .u64 n90, .slice x51.a x51.l x51.c, .slice x52.a x52.l x52.c] ∧ ∀ h38, Stored h37 b3 0 [.int .u64 n89, .int .u64 n90, .slice x51.a x51.l x51.c, .slice x52.a x52.l x52.c] h38 →
   ∃ n91 : Int, ∃ n92 : Int, ∃ x53 : Sl, ∃ x54 : Sl, CellsAt h38 b3 0 [.int .u64 n91, .int .u64 n92, .slice x53.a x53.l x53.c, .slice x54.a x54.l x54.c] ∧
   R (.tuple #[.pointer (some ⟨j_b, j_o, none⟩), .agg #[.int .u64 n91, .int .u64 n92, .slice x53.a x53.l x53.c, .slice x54.a x54.l x54.c], .bool ((n88 : Int) == 2)]) h38) (
   ∀ b8 h39, Fresh h37 (.cells #[] 35) b8 h39 →
   ∃ x55 : Sl, cellH h39 b1 3 = some (.slice x55.a x55.l x55.c) ∧
   RunK Tryz.prog (.sl) (Builtin.append_ #[36, 36] 36 #[.slice (some ⟨b8, 0, none⟩) 0 0, .slice x55.a x55.l x55.c]) h39 (fun x56 h40 =>
   CallsH Tryz.prog 31 #[.slice x50.a x50.l x50.c] h40 (fun r18 h41 => ∃ x57 : Sl, r18 = .slice x57.a x57.l x57.c ∧
   RunK Tryz.prog (.sl) (Builtin.append_ #[36, 36] 36 #[.slice x56.a x56.l x56.c, .slice x57.a x57.l x57.c]) h41 (fun x58 h42 =>
   CanSt h42 b1 3 [.slice x58.a x58.l x58.c] ∧ ∀ h43, Stored h42 b1 3 [.slice x58.a x58.l x58.c] h43 →
   ∃ n93 : Int, ∃ n94 : Int, ∃ x59 : Sl, ∃ x60 : Sl, CellsAt h43 b1 0 [.int .u64 n93, .int .u64 n94, .slice x59.a x59.l x59.c, .slice x60.a x60.l x60.c] ∧
   CanSt h43 b3 0 [.int .u64 n93, .int .u64 n94, .slice x59.a x59.l x59.c, .slice x60.a x60.l x60.c] ∧ ∀ h44, Stored h43 b3 0 [.int .u64 n93, .int .u64 n94, .slice x59.a x59.l x59.c, .slice x60.a x60.l x60.c] h44 →
   ∃ n95 : Int, ∃ n96 : Int, ∃ x61 : Sl, ∃ x62 : Sl, CellsAt h44 b3 0 [.int .u64 n95, .int .u64 n96, .slice x61.a x61.l x61.c, .slice x62.a x62.l x62.c] ∧
   R (.tuple #[.pointer (some ⟨j_b, j_o, none⟩), .agg #[.int .u64 n95, .int .u64 n96, .slice x61.a x61.l x61.c, .slice x62.a x62.l x62.c], .bool ((n88 : Int) == 0)]) h44))))))))))) :
  CallsH Tryz.prog 12 #[.pointer (some ⟨d_b, d_o, none⟩), .pointer (some ⟨j_b, j_o, none⟩), .agg #[.int .u64 s_0, .int .u64 s_1, .slice s_2.a s_2.l s_2.c, .slice s_3.a s_3.l s_3.c], .agg #[.int .i64 o_0, .int .i64 o_1, .int .i64 o_2, .int .u64 o_3, .int .u64 o_4, .slice o_5.a o_5.l o_5.c], .int .i64 many_, .int .i64 each_] h R :=
  calls_of_vc tabOk mixed Tryz.func12 (c := c12) (by kernel_rfl) (n := 141) rfl (rs := [.tmp 12, .cell 13 38, .tmp 14]) (by kernel_rfl) ok12 (args := [.pointer (some ⟨d_b, d_o, none⟩), .pointer (some ⟨j_b, j_o, none⟩), .agg #[.int .u64 s_0, .int .u64 s_1, .slice s_2.a s_2.l s_2.c, .slice s_3.a s_3.l s_3.c], .agg #[.int .i64 o_0, .int .i64 o_1, .int .i64 o_2, .int .u64 o_3, .int .u64 o_4, .slice o_5.a o_5.l o_5.c], .int .i64 many_, .int .i64 each_]) (Nat.le_of_ble_eq_true rfl) (Eq.mpr (by kernel_rfl) hv)
end Go.Sx.Tryz
namespace Go.Sx.Tryz
open Go Go.Sx Go.Proofs
set_option linter.unusedVariables false
set_option maxRecDepth 20000
section
variable {H H' : Heap} {S : PH} {R : List Asn} {d many each jb : Nat} {D : Dk} {J : Jn} {G : List Sg} {s : PL}
theorem jbegin_spec {n i t : Nat} (hs : Sat H S (jA jb J :: dsk d D :: R)) (hI : JInv S d many each D J G s n) (hn : n < 99) (hi : i ≤ 10 * n + 10) (ht : t ≤ 10 * n + 10)
    {K : Value → Heap → Prop}
    (hok : ∀ J' D' G' H' S', PH.le S S' → JInv S' d many each D' J' G' ⟨i, t, []⟩ (n + 1) → D'.armed = D.armed → Sat H' S' (jA jb J' :: dsk d D' :: R) → K (.int .i64 0) H')
    (hdown : D.armed = true → ∀ J' D' H' S', PH.le S S' → After 0 many D' (fun s' => s' = s ∨ s' = ⟨i, t, []⟩) → Sat H' S' (jA jb J' :: dsk d D' :: R) → K (.int .i64 70) H') :
    CallsH Tryz.prog 46 #[.pointer (some ⟨jb, 0, none⟩), .int .u64 (i : Int), .int .u64 (t : Int)] H K := by
  obtain ⟨g1, g2, g3, g4⟩ := hI.fld
  have hM := hI.rest.mid
  have hsg := hI.segs
  rw [← g1] at hs
  refine begin_specJ hs hM.rng.1 hM.file_lt (by omega) (by omega) (by omega) (fun _ _ _ => hI.fixok (by omega) (by omega) (by omega)) fun H' S' hS' hs2 => ?_
  rw [g1] at hs2
  have har := beginJ_armed J D i t
  rcases begin_out hI.rest hI.bnd (by omega) hi ht with ⟨D', J', G', e1, e2, e3, e4, e5⟩ | ⟨D', J', e1, e2⟩
  · rw [e1] at hs2 ⊢
    refine hok J' D' G' H' S' hS' ⟨e3, e4, (by rw [e2]; rfl), (by rw [e2]; intro x hx; cases hx), (by rw [e2]; exact hI.fld)⟩ e5 hs2
  · rw [e1] at hs2 har ⊢
    rw [g2, g3] at e2
    exact hdown (har.symm.trans e2.2.1) J' D' H' S' hS' e2 hs2
theorem jtrim_spec {n ix : Nat} (hs : Sat H S (jA jb J :: dsk d D :: R)) (hI : JInv S d many each D J G s n) (hn : n < 99)
    {K : Value → Heap → Prop}
    (hok : ∀ J' D' G' H', JInv S d many each D' J' G' J'.log.pure n → Raised s J'.log.pure ix → D'.armed = D.armed → Sat H' S (jA jb J' :: dsk d D' :: R) → K (.int .i64 0) H')
    (hdown : D.armed = true → ∀ J' D' H', Raised s J'.log.pure ix → After 0 many D' (fun s' => s' = J'.log.pure) → Sat H' S (jA jb J' :: dsk d D' :: R) → K (.int .i64 70) H') :
    CallsH Tryz.prog 47 #[.pointer (some ⟨jb, 0, none⟩), .int .u64 (ix : Int)] H K := by
  obtain ⟨g1, g2, g3, g4⟩ := hI.fld
  have hM := hI.rest.mid
  have hsg := hI.segs
  have hll := hI.loglen (by omega)
  rw [← g1] at hs
  refine trim_spec hs hM.file_lt (by omega) hsg.2 (by omega) fun H' hs2 => ?_
  rw [g1] at hs2
  have har := trim_armed J D ix
  rcases trim_out (ix := ix) hI.rest hI.bnd (by omega) hI.log with ⟨D', J', G', e1, e2, e3, e4, e5, e6, e7⟩ | ⟨D', J', e1, e2, e3, e4⟩
  · rw [e1] at hs2 ⊢
    refine hok J' D' G' H' ⟨e4, e5, rfl, fun x hx => hI.ents x (e2 x hx), by rw [e3]; exact hI.fld⟩ e6 e7 hs2
  · rw [e1] at hs2 har ⊢
    rw [g2, g3] at e4
    exact hdown (har.symm.trans e4.2.1) J' D' H' e2 e4 hs2
def May (s t : PL) (kind : Int) (s' : PL) : Prop := s' = s ∨ s' = t ∨ ((kind < 1 ∨ 3 < kind) ∧ ∃ k, s.es.length ≤ k ∧ k < t.es.length ∧ s' = ⟨s.fi, s.ft, t.es.take k⟩)
set_option maxHeartbeats 4000000 in
theorem step_spec {n : Nat} {y z : Sl} {o : Op1} (hs : Sat H S (jA jb J :: dsk d D :: R)) (hI : JInv S d many each D J G s n) (hn : n < 90) (hy : EL S y s.es) (hz : RdB S z o.b) (hzl : o.b.length ≤ 600) (he : 64 ≤ each ∧ each ≤ 1048576) (ho : o.kind = 4 → D.armed = false)
    {K : Value → Heap → Prop}
    (hok : ∀ jb' J' D' G' t y' H' S', PH.le S S' → JInv S' d many each D' J' G' t (n + 1) → D'.armed = D.armed → EL S' y' t.es → Sat H' S' (jA jb' J' :: dsk d D' :: R) → K (.tuple #[.pointer (some ⟨jb', 0, none⟩), .agg (stV t y').toArray, .bool true]) H')
    (hdown : D.armed = true → ∀ jb' J' D' t y' b H' S', PH.le S S' → After 0 many D' (May s t o.kind) → EL S' y' t.es → t.es.length ≤ 5 * n + 5 → (o.kind < 1 ∨ 3 < o.kind → ∃ l, t = ⟨s.fi, s.ft, s.es ++ l⟩) → Sat H' S' (jA jb' J' :: dsk d D' :: R) → K (.tuple #[.pointer (some ⟨jb', 0, none⟩), .agg (stV t y').toArray, .bool b]) H') :
    CallsH Tryz.prog 12 #[.pointer (some ⟨d, 0, none⟩), .pointer (some ⟨jb, 0, none⟩), .agg (stV s y).toArray, .agg (opV o z).toArray, .int .i64 (many : Int), .int .i64 (each : Int)] H K := by
  refine vc12 d 0 jb 0 (s.fi : Int) (s.ft : Int) ⟨none, 0, 0⟩ y o.kind o.many o.odd (o.n : Int) (o.t : Int) z (many : Int) (each : Int) H K ?_
  have hM := hI.rest.mid
  have hcon := hM.lay.con
  have hlast := hcon.last
  have hb1 := hI.bnd.li
  have hb2 := hI.bnd.lt
  have hbe := hI.bnd.el
  intro b1 h1 f1 b2 h2 f2 b3 h3 f3
  have hs1 : Sat h1 S (lst b1 38 (stV s y) :: jA jb J :: dsk d D :: R) := hs.fresh f1
  have hs2 : Sat h2 S (lst b2 40 (opV o z) :: lst b1 38 (stV s y) :: jA jb J :: dsk d D :: R) := hs1.fresh f2
  have hs3 : Sat h3 S (lst b3 38 zsV :: lst b2 40 (opV o z) :: lst b1 38 (stV s y) :: jA jb J :: dsk d D :: R) := hs2.fresh f3
  have hs3 : Sat h3 S (jA jb J :: dsk d D :: lst b1 38 (stV s y) :: lst b2 40 (opV o z) :: lst b3 38 zsV :: R) := hs3.sel [3, 3, 2, 1]
  have hJ : Sat h3 S (jA jb J :: dsk d D :: lst b1 38 (stV s y) :: lst b2 40 (opV o z) :: lst b3 38 zsV :: R) := hs3
  have ans : ∀ (h : Heap) (SS : PH) (jb' : Nat) (J' : Jn) (D' : Dk) (t : PL) (y' : Sl) (b : Bool) (c1 c2 : List Value), PH.le S SS → c2.length = 4 → (∀ h', Sat h' SS (jA jb' J' :: dsk d D' :: R) → K (.tuple #[.pointer (some ⟨jb', 0, none⟩), .agg (stV t y').toArray, .bool b]) h') →
      Sat h SS (lst b3 38 c2 :: jA jb' J' :: dsk d D' :: R) →
      CanSt h b3 0 [.int .u64 (t.fi : Int), .int .u64 (t.ft : Int), .slice none 0 0, .slice y'.a y'.l y'.c] ∧ ∀ h8, Stored h b3 0 [.int .u64 (t.fi : Int), .int .u64 (t.ft : Int), .slice none 0 0, .slice y'.a y'.l y'.c] h8 →
      ∃ n20 : Int, ∃ n21 : Int, ∃ x12 : Sl, ∃ x13 : Sl, CellsAt h8 b3 0 [.int .u64 n20, .int .u64 n21, .slice x12.a x12.l x12.c, .slice x13.a x13.l x13.c] ∧
      K (.tuple #[.pointer (some ⟨jb', 0, none⟩), .agg #[.int .u64 n20, .int .u64 n21, .slice x12.a x12.l x12.c, .slice x13.a x13.l x13.c], .bool b]) h8 := by
    intro h SS jb' J' D' t y' b c1 c2 hSS hc2 hk hh
    refine hh.store (by rw [hc2]; simp) fun h8 h9 => ?_
    have hp : putL c2 0 (stV t y') = stV t y' := by
      unfold putL
      rw [List.take_zero, List.nil_append, List.drop_of_length_le (by rw [hc2]; simp [stV]), List.append_nil]
    have h9 : Sat h8 SS (lst b3 38 (putL c2 0 (stV t y')) :: jA jb' J' :: dsk d D' :: R) := h9
    rw [hp] at h9
    exact ⟨_, _, ⟨none, 0, 0⟩, y', h9.cells 0 rfl, hk h8 h9.drop⟩
  refine ⟨_, (hs3.pick 3 rfl).cell 0 rfl, CondP.of (fun hk1 => ?_) (fun hk1 => ?_)⟩
  ·
    have hkind : o.kind = 1 := by simpa using hk1
    refine ⟨_, _, ⟨none, 0, 0⟩, y, (hs3.pick 2 rfl).cells 0 rfl, _, _, _, _, _, z, (hs3.pick 3 rfl).cells 0 rfl, ?_⟩
    refine from_spec (o := o) hs3 hy (by omega) (by omega) fun h4 hs4 => ⟨_, rfl, ?_⟩
    have hfr : s.fromN o.n ≤ s.last.1 + 1 := by unfold PL.fromN; omega
    refine jcut_spec hs4 hI (by omega) hfr (fun hle h5 S1 hS1 hs5 => ⟨_, rfl, ?_⟩) (fun hlt J' D' G' h5 S1 hS1 hI2 ha2 hs5 => ⟨_, rfl, ?_⟩) (fun hlt harm J' D' h5 S1 hS1 hA hs5 => ⟨_, rfl, ?_⟩)
    · have c1 := hs5.pick 2 rfl
      refine ⟨_, c1.cell 0 rfl, CondP.of (fun _ => ?_) (fun hc => by simp at hc; omega)⟩
      refine ⟨_, _, ⟨none, 0, 0⟩, y, c1.cells 0 rfl, ?_⟩
      exact ans h5 S1 jb J D s y true [] zsV hS1 rfl (fun h' hh => hok jb J D G s y h' S1 hS1 ⟨hI.rest, hI.bnd.up (Nat.le_succ n), hI.log, hI.ents.mono hS1, hI.fld⟩ rfl (hy.mono hS1) hh) ((hs5.sel [4]).del 3 |>.del 3)
    · have c1 := hs5.pick 2 rfl
      refine ⟨_, c1.cell 0 rfl, CondP.of (fun hc => by simp at hc; omega) (fun _ => ?_)⟩
      refine ⟨_, _, ⟨none, 0, 0⟩, y, c1.cells 0 rfl, ?_⟩
      refine upto_spec hs5 (hy.mono hS1) (by omega) hlt (by omega) (by omega) fun y' h6 S2 hS2 hy' hs6 => ⟨_, _, ⟨none, 0, 0⟩, y', rfl, ?_⟩
      exact ans h6 S2 jb J' D' (s.cutAt (s.fromN o.n - 1)) y' true [] zsV (hS1.trans hS2) rfl (fun h' hh => hok jb J' D' G' _ y' h' S2 (hS1.trans hS2) (hI2.mono hS2) ha2 hy' hh) ((hs6.sel [4]).del 3 |>.del 3)
    · have c1 := hs5.pick 2 rfl
      refine ⟨_, c1.cell 0 rfl, CondP.of (fun hc => by simp at hc; omega) (fun _ => ?_)⟩
      refine ⟨_, _, ⟨none, 0, 0⟩, y, c1.cells 0 rfl, ?_⟩
      refine upto_spec hs5 (hy.mono hS1) (by omega) hlt (by omega) (by omega) fun y' h6 S2 hS2 hy' hs6 => ⟨_, _, ⟨none, 0, 0⟩, y', rfl, ?_⟩
      exact ans h6 S2 jb J' D' (s.cutAt (s.fromN o.n - 1)) y' _ [] zsV (hS1.trans hS2) rfl (fun h' hh => hdown harm jb J' D' (s.cutAt (s.fromN o.n - 1)) y' _ h' S2 (hS1.trans hS2) (hA.mono fun s' h => by
        rcases h with h | h
        · exact .inl h
        · exact .inr (.inl h)) hy' (by show (s.es.take _).length ≤ _; rw [List.length_take]; omega) (fun h => by rw [hkind] at h; omega) hh) ((hs6.sel [4]).del 3 |>.del 3)
  refine CondP.of (fun hk2 => ?_) (fun hk2 => ?_)
  ·
    have hkind : o.kind = 2 := by simpa using hk2
    have c2 := hs3.pick 3 rfl
    have c1 := hs3.pick 2 rfl
    refine ⟨_, _, ⟨none, 0, 0⟩, y, c1.cells 0 rfl, _, c2.cell 3 rfl, by decide, _, _, ⟨none, 0, 0⟩, y, c1.cells 0 rfl, _, c2.cell 4 rfl, by decide, ?_⟩
    have e5 : Int.tmod (o.n : Int) 5 = ((o.n % 5 : Nat) : Int) := tmod_nat _ 5
    have e3 : Int.tmod (o.t : Int) 3 = ((o.t % 3 : Nat) : Int) := tmod_nat _ 3
    have f5 : IntKind.u64.wrap ((s.last.1 : Int) + Int.tmod (o.n : Int) 5) = ((s.last.1 + o.n % 5 : Nat) : Int) := by rw [e5, u64_add (by omega)]
    have f3' : IntKind.u64.wrap ((s.last.2 : Int) + Int.tmod (o.t : Int) 3) = ((s.last.2 + o.t % 3 : Nat) : Int) := by rw [e3, u64_add (by omega)]
    have tail : ∀ (h11 : Heap) (b4 : Nat), Sat h11 S (lst b4 35 [.int .u64 0, .int .u64 0, .slice none 0 0] :: jA jb J :: dsk d D :: lst b1 38 (stV s y) :: lst b2 40 (opV o z) :: lst b3 38 zsV :: R) →
        CanSt h11 b4 0 [.int .u64 ((s.last.1 + o.n % 5 : Nat) : Int), .int .u64 ((s.last.2 + o.t % 3 : Nat) : Int), .slice none 0 0] ∧ ∀ h12, Stored h11 b4 0 [.int .u64 ((s.last.1 + o.n % 5 : Nat) : Int), .int .u64 ((s.last.2 + o.t % 3 : Nat) : Int), .slice none 0 0] h12 →
        ∃ n32 : Int, ∃ n33 : Int, ∃ x20 : Sl, CellsAt h12 b4 0 [.int .u64 n32, .int .u64 n33, .slice x20.a x20.l x20.c] ∧
        ∃ n34 : Int, cellH h12 b4 0 = some (.int .u64 n34) ∧
        ∃ n35 : Int, cellH h12 b4 1 = some (.int .u64 n35) ∧
        CallsH Tryz.prog 46 #[.pointer (some ⟨jb, 0, none⟩), .int .u64 n34, .int .u64 n35] h12 (fun r6 h13 => ∃ n36 : Int, r6 = .int .i64 n36 ∧
        CellsAt h13 b4 0 [.int .u64 n32, .int .u64 n33, .slice x20.a x20.l x20.c] ∧
        CanSt h13 b3 0 [.int .u64 n32, .int .u64 n33, .slice x20.a x20.l x20.c, .slice none 0 0] ∧ ∀ h14, Stored h13 b3 0 [.int .u64 n32, .int .u64 n33, .slice x20.a x20.l x20.c, .slice none 0 0] h14 →
        ∃ n37 : Int, ∃ n38 : Int, ∃ x21 : Sl, ∃ x22 : Sl, CellsAt h14 b3 0 [.int .u64 n37, .int .u64 n38, .slice x21.a x21.l x21.c, .slice x22.a x22.l x22.c] ∧
        K (.tuple #[.pointer (some ⟨jb, 0, none⟩), .agg #[.int .u64 n37, .int .u64 n38, .slice x21.a x21.l x21.c, .slice x22.a x22.l x22.c], .bool ((n36 : Int) == 0)]) h14) := by
      intro h11 b4 hh
      refine hh.store (by simp) fun h12 hs5 => ?_
      have hs5 : Sat h12 S (lst b4 35 [.int .u64 ((s.last.1 + o.n % 5 : Nat) : Int), .int .u64 ((s.last.2 + o.t % 3 : Nat) : Int), .slice none 0 0] :: jA jb J :: dsk d D :: lst b1 38 (stV s y) :: lst b2 40 (opV o z) :: lst b3 38 zsV :: R) := hs5
      refine ⟨_, _, ⟨none, 0, 0⟩, hs5.cells 0 rfl, _, hs5.cell 0 rfl, _, hs5.cell 1 rfl, ?_⟩
      refine jbegin_spec (hs5.sel [1, 1]) hI (by omega) (by omega) (by omega) (fun J' D' G' h13 S1 hS1 hI2 ha2 hs6 => ⟨_, rfl, ?_⟩) (fun harm J' D' h13 S1 hS1 hA hs6 => ⟨_, rfl, ?_⟩)
      · refine ⟨(hs6.pick 2 rfl).cells 0 rfl, ?_⟩
        exact ans h13 S1 jb J' D' ⟨s.last.1 + o.n % 5, s.last.2 + o.t % 3, []⟩ ⟨none, 0, 0⟩ true [] zsV hS1 rfl (fun h' hh => hok jb J' D' G' _ ⟨none, 0, 0⟩ h' S1 hS1 hI2 ha2 (EL.nil _) hh) ((hs6.sel [5]).del 3 |>.del 3 |>.del 3)
      · refine ⟨(hs6.pick 2 rfl).cells 0 rfl, ?_⟩
        exact ans h13 S1 jb J' D' ⟨s.last.1 + o.n % 5, s.last.2 + o.t % 3, []⟩ ⟨none, 0, 0⟩ _ [] zsV hS1 rfl (fun h' hh => hdown harm jb J' D' ⟨s.last.1 + o.n % 5, s.last.2 + o.t % 3, []⟩ ⟨none, 0, 0⟩ _ h' S1 hS1 (hA.mono fun s' h => by
          rcases h with h | h
          · exact .inl h
          · exact .inr (.inl h)) (EL.nil _) (Nat.zero_le _) (fun h => by rw [hkind] at h; omega) hh) ((hs6.sel [5]).del 3 |>.del 3 |>.del 3)
    refine ⟨?_, ?_⟩
    · refine slast_spec hs3 hy (by omega) fun w h9 hs9 => ⟨_, _, w, rfl, (hs9.pick 3 rfl).cell 4 rfl, (hs9.pick 2 rfl).cells 0 rfl, (hs9.pick 3 rfl).cell 3 rfl, ?_, ?_⟩
      · refine slast_spec hs9 hy (by omega) fun w2 h10 hs10 => ⟨_, _, w2, rfl, (hs10.pick 3 rfl).cell 4 rfl, (hs10.pick 3 rfl).cell 3 rfl, ?_⟩
        intro b4 h11 f11
        have hs11 : Sat h11 S (lst b4 35 [.int .u64 0, .int .u64 0, .slice none 0 0] :: jA jb J :: dsk d D :: lst b1 38 (stV s y) :: lst b2 40 (opV o z) :: lst b3 38 zsV :: R) := hs10.fresh f11
        refine ⟨(hs11.pick 4 rfl).cell 4 rfl, (hs11.pick 4 rfl).cell 3 rfl, ?_⟩
        rw [f5, f3']; exact tail h11 b4 hs11
      · intro b5 h15 f15
        have hs11 : Sat h15 S (lst b5 35 [.int .u64 0, .int .u64 0, .slice none 0 0] :: jA jb J :: dsk d D :: lst b1 38 (stV s y) :: lst b2 40 (opV o z) :: lst b3 38 zsV :: R) := hs9.fresh f15
        refine ⟨(hs11.pick 4 rfl).cell 4 rfl, (hs11.pick 3 rfl).cells 0 rfl, (hs11.pick 4 rfl).cell 3 rfl, ?_⟩
        refine slast_spec hs11 hy (by omega) fun w2 h16 hs12 => ⟨_, _, w2, rfl, (hs12.pick 4 rfl).cell 4 rfl, (hs12.pick 4 rfl).cell 3 rfl, ?_⟩
        rw [f5, f3']; exact tail h16 b5 hs12
    · intro b6 h20 f20
      have hs11 : Sat h20 S (lst b6 35 [.int .u64 0, .int .u64 0, .slice none 0 0] :: jA jb J :: dsk d D :: lst b1 38 (stV s y) :: lst b2 40 (opV o z) :: lst b3 38 zsV :: R) := hs3.fresh f20
      refine ⟨(hs11.pick 4 rfl).cell 4 rfl, (hs11.pick 3 rfl).cells 0 rfl, (hs11.pick 4 rfl).cell 3 rfl, (hs11.pick 3 rfl).cells 0 rfl, ?_⟩
      refine slast_spec hs11 hy (by omega) fun w h21 hs12 => ⟨_, _, w, rfl, (hs12.pick 4 rfl).cell 4 rfl, (hs12.pick 3 rfl).cells 0 rfl, (hs12.pick 4 rfl).cell 3 rfl, ?_⟩
      refine slast_spec hs12 hy (by omega) fun w2 h22 hs13 => ⟨_, _, w2, rfl, (hs13.pick 4 rfl).cell 4 rfl, (hs13.pick 4 rfl).cell 3 rfl, ?_⟩
      rw [f5, f3']; exact tail h22 b6 hs13
  refine CondP.of (fun hk3 => ?_) (fun hk3 => ?_)
  ·
    have hkind : o.kind = 3 := by simpa using hk3
    refine ⟨_, _, ⟨none, 0, 0⟩, y, (hs3.pick 2 rfl).cells 0 rfl, _, _, _, _, _, z, (hs3.pick 3 rfl).cells 0 rfl, ?_⟩
    refine from_spec (o := o) hs3 hy (by omega) (by omega) fun h4 hs4 => ⟨_, rfl, ?_⟩
    have tail : ∀ (J' : Jn) (D' : Dk) (h5 : Heap) (e : Int), Raised s J'.log.pure (s.fromN o.n) → (e = 0 → ∀ y' h' S', PH.le S S' → EL S' y' J'.log.pure.es → Sat h' S' (jA jb J' :: dsk d D' :: R) → K (.tuple #[.pointer (some ⟨jb, 0, none⟩), .agg (stV J'.log.pure y').toArray, .bool true]) h') →
        (e ≠ 0 → ∀ y' h' S', PH.le S S' → EL S' y' J'.log.pure.es → Sat h' S' (jA jb J' :: dsk d D' :: R) → K (.tuple #[.pointer (some ⟨jb, 0, none⟩), .agg (stV J'.log.pure y').toArray, .bool false]) h') →
        Sat h5 S (jA jb J' :: dsk d D' :: lst b1 38 (stV s y) :: lst b2 40 (opV o z) :: lst b3 38 zsV :: R) →
        ∃ n68 : Int, ∃ n69 : Int, ∃ x35 : Sl, ∃ x36 : Sl, CellsAt h5 b1 0 [.int .u64 n68, .int .u64 n69, .slice x35.a x35.l x35.c, .slice x36.a x36.l x36.c] ∧
        CallsH Tryz.prog 17 #[.agg #[.int .u64 n68, .int .u64 n69, .slice x35.a x35.l x35.c, .slice x36.a x36.l x36.c], .pointer (some ⟨jb, 0, none⟩), .int .u64 (s.fromN o.n : Int)] h5 (fun r14 h28 => ∃ n70 : Int, ∃ n71 : Int, ∃ x37 : Sl, ∃ x38 : Sl, ∃ t1 : Bool, r14 = .tuple #[.agg #[.int .u64 n70, .int .u64 n71, .slice x37.a x37.l x37.c, .slice x38.a x38.l x38.c], .bool t1] ∧
        ∀ b7 h29, Fresh h28 (.cells #[.int .u64 0, .int .u64 0, .slice none 0 0, .slice none 0 0] 38) b7 h29 →
        CanSt h29 b7 0 [.int .u64 n70, .int .u64 n71, .slice x37.a x37.l x37.c, .slice x38.a x38.l x38.c] ∧ ∀ h30, Stored h29 b7 0 [.int .u64 n70, .int .u64 n71, .slice x37.a x37.l x37.c, .slice x38.a x38.l x38.c] h30 →
        ∃ J1 : Option Addr → Bool → Heap → Prop, (∀ p1 : Option Addr, ∀ t2 : Bool, ∀ h31, J1 p1 t2 h31 → ∀ _ : Env,
        ∃ n72 : Int, ∃ n73 : Int, ∃ x39 : Sl, ∃ x40 : Sl, CellsAt h31 b3 0 [.int .u64 n72, .int .u64 n73, .slice x39.a x39.l x39.c, .slice x40.a x40.l x40.c] ∧
        K (.tuple #[.pointer p1, .agg #[.int .u64 n72, .int .u64 n73, .slice x39.a x39.l x39.c, .slice x40.a x40.l x40.c], .bool t2]) h31) ∧
        ∃ n74 : Int, ∃ n75 : Int, ∃ x41 : Sl, ∃ x42 : Sl, CellsAt h30 b7 0 [.int .u64 n74, .int .u64 n75, .slice x41.a x41.l x41.c, .slice x42.a x42.l x42.c] ∧
        CondP ((e : Int) == 0) (
        CanSt h30 b3 0 [.int .u64 n74, .int .u64 n75, .slice x41.a x41.l x41.c, .slice x42.a x42.l x42.c] ∧ ∀ h32, Stored h30 b3 0 [.int .u64 n74, .int .u64 n75, .slice x41.a x41.l x41.c, .slice x42.a x42.l x42.c] h32 →
        J1 (some ⟨jb, 0, none⟩) t1 h32) (
        CanSt h30 b3 0 [.int .u64 n74, .int .u64 n75, .slice x41.a x41.l x41.c, .slice x42.a x42.l x42.c] ∧ ∀ h33, Stored h30 b3 0 [.int .u64 n74, .int .u64 n75, .slice x41.a x41.l x41.c, .slice x42.a x42.l x42.c] h33 →
        J1 (some ⟨jb, 0, none⟩) false h33)) := by
      intro J' D' h5 e hR hk0 hk1 hh
      refine ⟨_, _, ⟨none, 0, 0⟩, y, (hh.pick 2 rfl).cells 0 rfl, ?_⟩
      have hrf := raised_fn hcon hR
      refine raised_spec (s := s) (x := y) (most := s.fromN o.n) hh hy (by omega) fun y' h28 S1 hS1 hy' hs5 => ?_
      have e1 : s.raised J'.log.fi J'.log.ft (s.fromN o.n) = (J'.log.pure, true) := hrf
      rw [e1] at hy' ⊢
      refine ⟨_, _, ⟨none, 0, 0⟩, y', _, rfl, ?_⟩
      intro b7 h29 f29
      have hs6 := hs5.fresh f29
      refine Sat.store (T := 38) (l := zsV) hs6 (by simp [zsV]) fun h30 hs7 => ?_
      have hs7 : Sat h30 S1 (lst b7 38 (stV J'.log.pure y') :: jA jb J' :: dsk d D' :: lst b1 38 (stV s y) :: lst b2 40 (opV o z) :: lst b3 38 zsV :: R) := hs7
      refine ⟨fun p1 t2 h => p1 = some ⟨jb, 0, none⟩ ∧ t2 = (e == 0) ∧ Sat h S1 (lst b3 38 (stV J'.log.pure y') :: jA jb J' :: dsk d D' :: R), ?_, ?_⟩
      · rintro p1 t2 h31 ⟨rfl, rfl, hs8⟩ _
        refine ⟨_, _, ⟨none, 0, 0⟩, y', hs8.cells 0 rfl, ?_⟩
        by_cases he0 : e = 0
        · rw [he0]
          exact hk0 he0 y' h31 S1 hS1 hy' hs8.drop
        · rw [beq_eq_false_iff_ne.2 he0]
          exact hk1 he0 y' h31 S1 hS1 hy' hs8.drop
      · refine ⟨_, _, ⟨none, 0, 0⟩, y', hs7.cells 0 rfl, CondP.of (fun hc => ?_) (fun hc => ?_)⟩
        · refine (hs7.pick 5 rfl).store (by simp [zsV]) fun h32 hs8 => ⟨rfl, by rw [hc], ?_⟩
          have hs8 : Sat h32 S1 (lst b3 38 (stV J'.log.pure y') :: lst b7 38 (stV J'.log.pure y') :: jA jb J' :: dsk d D' :: lst b1 38 (stV s y) :: lst b2 40 (opV o z) :: R) := hs8
          exact ((hs8.del 1).del 3).del 3
        · refine (hs7.pick 5 rfl).store (by simp [zsV]) fun h32 hs8 => ⟨rfl, by rw [hc], ?_⟩
          have hs8 : Sat h32 S1 (lst b3 38 (stV J'.log.pure y') :: lst b7 38 (stV J'.log.pure y') :: jA jb J' :: dsk d D' :: lst b1 38 (stV s y) :: lst b2 40 (opV o z) :: R) := hs8
          exact ((hs8.del 1).del 3).del 3
    refine jtrim_spec hs4 hI (by omega) (fun J' D' G' h5 hI2 hR ha2 hs5 => ⟨_, rfl, ?_⟩) (fun harm J' D' h5 hR hA hs5 => ⟨_, rfl, ?_⟩)
    · exact tail J' D' h5 0 hR (fun _ y' h' S' hS' hy' hh => hok jb J' D' G' J'.log.pure y' h' S' hS' ⟨hI2.rest, hI2.bnd.up (Nat.le_succ n), rfl, hI2.ents.mono hS', hI2.fld⟩ ha2 hy' hh) (fun h => absurd rfl h) hs5
    · refine tail J' D' h5 70 hR (fun h => by cases h) (fun _ y' h' S' hS' hy' hh => hdown harm jb J' D' J'.log.pure y' _ h' S' hS' (hA.mono fun s' h => .inr (.inl h)) hy' ?_ (fun h => by rw [hkind] at h; omega) hh) hs5
      rcases hR with h | ⟨i, t, _, _, h⟩
      · rw [h]; omega
      · rw [h]
        show (s.es.drop _).length ≤ _
        rw [List.length_drop]; omega
  refine CondP.of (fun hk4 => ?_) (fun hk4 => ?_)
  ·
    have hkind : o.kind = 4 := by simpa using hk4
    have harm := ho hkind
    obtain ⟨g1, g2, g3, g4⟩ := hI.fld
    have hL := hM.lay
    rw [g2, g3] at hL
    have hrng := hM.rng
    rw [g2, g3] at hrng
    refine jopen_spec (first := 0) (hs3.sel [1]) hL hrng he harm hM.up (fun i hi => by have := hM.sync i (by rw [g3]; exact hi); rw [g2] at this; omega) (.inl (by have := hI.rest.room; rw [g3] at this; exact this)) (hI.rest.tame.safe hL.read) (fun g hg => by have := hI.bnd.sr g hg; omega) fun jb' J' D' G' h34 S1 hS1 hf hX hlog hge ha2 hsub hlen hs4 => ⟨_, _, rfl, ?_⟩
    have hs4 : Sat h34 S1 (jA jb' J' :: dsk d D' :: jA jb J :: lst b1 38 (stV s y) :: lst b2 40 (opV o z) :: lst b3 38 zsV :: R) := hs4
    refine ⟨_, _, ⟨none, 0, 0⟩, y, (hs4.pick 3 rfl).cells 0 rfl, ?_⟩
    refine ans h34 S1 jb' J' D' s y true [] zsV hS1 rfl (fun h' hh => hok jb' J' D' G' s y h' S1 hS1 ⟨hX, ?_, hlog, hge, hf⟩ (ha2.trans harm.symm) (hy.mono hS1) hh) (((hs4.sel [5]).del 3).del 3 |>.del 3)
    refine sub_bnd (hI.bnd.up (Nat.le_succ n)) (by rw [hf.2.1, g2]) (by rw [hf.2.2.1, g3]) (fun i hi => ?_) (fun g hg => ?_) ⟨by omega, by omega, by have := hI.bnd.ft; omega, fun e he => by have := hI.bnd.et e he; omega⟩
    · rw [g2]
      rw [g3] at hi
      have h5 := hlen i hi
      have h6 := hI.bnd.fl i (by rw [g3]; exact hi)
      rw [g2] at h6
      omega
    · rcases hsub with h | h
      · have := hI.bnd.sr g (h.subset hg)
        have := hI.bnd.rl g (h.subset hg)
        omega
      · rw [(h g hg).1, (h g hg).2]
        exact ⟨Nat.zero_le _, Nat.zero_le _⟩
  ·
    have hk1 : o.kind ≠ 1 := by simpa using hk1
    have hk2 : o.kind ≠ 2 := by simpa using hk2
    have hk3 : o.kind ≠ 3 := by simpa using hk3
    have hkk : o.kind < 1 ∨ 3 < o.kind := by omega
    refine ⟨_, _, ⟨none, 0, 0⟩, y, (hs3.pick 2 rfl).cells 0 rfl, _, _, _, _, _, z, (hs3.pick 3 rfl).cells 0 rfl, ?_⟩
    refine ents_spec (s := s) (x := y) (z := z) (o := o) hs3 hy hz hzl (by omega) (by omega) (by omega) fun v h36 S1 hS1 hv hs4 => ⟨v, _, rfl, ?_⟩
    have hsm := entsN_small s.last o (manyN o)
    have hlE := entsN_len s.last o (manyN o)
    have hm5 : manyN o < 5 := Nat.mod_lt _ (by decide)
    generalize entsN s.last o (manyN o) = E at *
    have bad : okAll s.last E = false → ∀ (h37 : Heap) (S2 : PH), PH.le S1 S2 → Sat h37 S2 (jA jb J :: dsk d D :: lst b1 38 (stV s y) :: lst b2 40 (opV o z) :: lst b3 38 zsV :: R) →
        ∃ n89 : Int, ∃ n90 : Int, ∃ x51 : Sl, ∃ x52 : Sl, CellsAt h37 b1 0 [.int .u64 n89, .int .u64 n90, .slice x51.a x51.l x51.c, .slice x52.a x52.l x52.c] ∧
        CanSt h37 b3 0 [.int .u64 n89, .int .u64 n90, .slice x51.a x51.l x51.c, .slice x52.a x52.l x52.c] ∧ ∀ h38, Stored h37 b3 0 [.int .u64 n89, .int .u64 n90, .slice x51.a x51.l x51.c, .slice x52.a x52.l x52.c] h38 →
        ∃ n91 : Int, ∃ n92 : Int, ∃ x53 : Sl, ∃ x54 : Sl, CellsAt h38 b3 0 [.int .u64 n91, .int .u64 n92, .slice x53.a x53.l x53.c, .slice x54.a x54.l x54.c] ∧
        K (.tuple #[.pointer (some ⟨jb, 0, none⟩), .agg #[.int .u64 n91, .int .u64 n92, .slice x53.a x53.l x53.c, .slice x54.a x54.l x54.c], .bool true]) h38 := by
      intro hbad h37 S2 hS2 hh
      refine ⟨_, _, ⟨none, 0, 0⟩, y, (hh.pick 2 rfl).cells 0 rfl, ?_⟩
      exact ans h37 S2 jb J D s y true [] zsV (hS1.trans hS2) rfl (fun h' h'' => hok jb J D G s y h' S2 (hS1.trans hS2) ⟨hI.rest, hI.bnd.up (Nat.le_succ n), hI.log, hI.ents.mono (hS1.trans hS2), hI.fld⟩ rfl (hy.mono (hS1.trans hS2)) h'') ((hh.sel [4]).del 3 |>.del 3)
    have good : ∀ (J' : Jn) (D' : Dk) (bb : Bool) (h37 : Heap) (S2 : PH), PH.le S1 S2 → (∀ y' h' S', PH.le S2 S' → EL S' y' (s.es ++ E) → Sat h' S' (jA jb J' :: dsk d D' :: R) → K (.tuple #[.pointer (some ⟨jb, 0, none⟩), .agg (stV ⟨s.fi, s.ft, s.es ++ E⟩ y').toArray, .bool bb]) h') → Sat h37 S2 (jA jb J' :: dsk d D' :: lst b1 38 (stV s y) :: lst b2 40 (opV o z) :: lst b3 38 zsV :: R) →
        ∀ b8 h39, Fresh h37 (.cells #[] 35) b8 h39 →
        ∃ x55 : Sl, cellH h39 b1 3 = some (.slice x55.a x55.l x55.c) ∧
        RunK Tryz.prog (.sl) (Builtin.append_ #[36, 36] 36 #[.slice (some ⟨b8, 0, none⟩) 0 0, .slice x55.a x55.l x55.c]) h39 (fun x56 h40 =>
        CallsH Tryz.prog 31 #[.slice v.a v.l v.c] h40 (fun r18 h41 => ∃ x57 : Sl, r18 = .slice x57.a x57.l x57.c ∧
        RunK Tryz.prog (.sl) (Builtin.append_ #[36, 36] 36 #[.slice x56.a x56.l x56.c, .slice x57.a x57.l x57.c]) h41 (fun x58 h42 =>
        CanSt h42 b1 3 [.slice x58.a x58.l x58.c] ∧ ∀ h43, Stored h42 b1 3 [.slice x58.a x58.l x58.c] h43 →
        ∃ n93 : Int, ∃ n94 : Int, ∃ x59 : Sl, ∃ x60 : Sl, CellsAt h43 b1 0 [.int .u64 n93, .int .u64 n94, .slice x59.a x59.l x59.c, .slice x60.a x60.l x60.c] ∧
        CanSt h43 b3 0 [.int .u64 n93, .int .u64 n94, .slice x59.a x59.l x59.c, .slice x60.a x60.l x60.c] ∧ ∀ h44, Stored h43 b3 0 [.int .u64 n93, .int .u64 n94, .slice x59.a x59.l x59.c, .slice x60.a x60.l x60.c] h44 →
        ∃ n95 : Int, ∃ n96 : Int, ∃ x61 : Sl, ∃ x62 : Sl, CellsAt h44 b3 0 [.int .u64 n95, .int .u64 n96, .slice x61.a x61.l x61.c, .slice x62.a x62.l x62.c] ∧
        K (.tuple #[.pointer (some ⟨jb, 0, none⟩), .agg #[.int .u64 n95, .int .u64 n96, .slice x61.a x61.l x61.c, .slice x62.a x62.l x62.c], .bool bb]) h44))) := by
      intro J' D' bb h37 S2 hS2 hk hh b8 h39 f39
      have c1 := newL hh f39
      refine ⟨y, (c1.pick 3 rfl).cell 3 rfl, ?_⟩
      refine appL el36 c1 (hy.mono (hS1.trans hS2)) (by simp; omega) fun v1 h40 ys hy1 hy2 c2 => ?_
      refine plain_spec c2 (hv.mono hS2) (by omega) fun v2 h41 S3 hS3 hv2 c3 => ⟨v2, rfl, ?_⟩
      have hyl : ys.length = s.es.length := by rw [← hy1, List.length_map]
      refine appL (us := ys) el36 c3 hv2 (by omega) fun v3 h42 zs hz1 hz2 c4 => ?_
      obtain ⟨S4, q1, q2, q3⟩ := sealL (us := ys ++ zs) c4 (by
        intro q hq
        rcases List.mem_append.1 hq with h | h
        · exact (hy2 q h).mono hS3
        · exact hz2 q h)
      rw [List.map_append, hy1, hz1] at q2
      refine (q3.pick 2 rfl).store (by simp [stV]) fun h43 hs6 => ?_
      have hs6 : Sat h43 S4 (lst b1 38 (stV ⟨s.fi, s.ft, s.es ++ E⟩ v3) :: jA jb J' :: dsk d D' :: lst b2 40 (opV o z) :: lst b3 38 zsV :: R) := hs6
      refine ⟨_, _, ⟨none, 0, 0⟩, v3, hs6.cells 0 rfl, ?_⟩
      exact ans h43 S4 jb J' D' ⟨s.fi, s.ft, s.es ++ E⟩ v3 bb [] zsV (((hS1.trans hS2).trans hS3).trans q1) rfl (fun h' h'' => hk v3 h' S4 (hS3.trans q1) q2 h'') ((hs6.sel [4, 1, 1]).del 3 |>.del 3)
    refine japp_spec hs4 (hI.mono hS1) (by omega) hv (by omega) (fun e he => by
      obtain ⟨q1, q2, _⟩ := hsm e he
      omega) (fun hbad _ h37 S2 hS2 hs5 => ⟨_, rfl, ?_⟩) (fun hgood J' D' G' h37 S2 hS2 hI2 ha2 hs5 => ⟨_, rfl, ?_⟩) (fun hgood harm J' D' h37 S2 hS2 hA hs5 => ⟨_, rfl, ?_⟩)
    · refine CondP.of (fun _ => bad hbad h37 S2 hS2 hs5) (fun hc => by rw [hbad] at hc; cases hc)
    · refine CondP.of (fun hc => by rw [hgood] at hc; cases hc) (fun _ => ?_)
      exact good J' D' true h37 S2 hS2 (fun y' h' S' hS' hy' hh => hok jb J' D' G' _ y' h' S' ((hS1.trans hS2).trans hS') (hI2.mono hS') ha2 hy' hh) hs5
    · refine CondP.of (fun hc => by rw [hgood] at hc; cases hc) (fun _ => ?_)
      refine good J' D' _ h37 S2 hS2 (fun y' h' S' hS' hy' hh => hdown harm jb J' D' ⟨s.fi, s.ft, s.es ++ E⟩ y' _ h' S' ((hS1.trans hS2).trans hS') (hA.mono ?_) hy' (by show (s.es ++ E).length ≤ _; rw [List.length_append]; omega) (fun _ => ⟨E, rfl⟩) hh) hs5
      rintro s' ⟨j, hj, rfl⟩
      rcases Nat.eq_zero_or_pos j with h0 | h0
      · left; subst h0; rw [List.take_zero, List.append_nil]
      · rcases Nat.lt_or_ge j E.length with h1 | h1
        · refine .inr (.inr ⟨hkk, s.es.length + j, by omega, by show _ < (s.es ++ E).length; rw [List.length_append]; omega, ?_⟩)
          show (⟨s.fi, s.ft, s.es ++ E.take j⟩ : PL) = ⟨s.fi, s.ft, (s.es ++ E).take (s.es.length + j)⟩
          rw [List.take_append, List.take_of_length_le (l := s.es) (by omega), Nat.add_sub_cancel_left]
        · right; left
          rw [List.take_of_length_le h1]
end
end Go.Sx.Tryz
namespace Go.Sx.Tryz
open Go Go.Sx Go.Proofs
set_option maxRecDepth 100000
set_option linter.unusedVariables false
noncomputable def c3 : Code := (Tryz.f3.body).getD .skip
def a3 : Ann := (.seq .leaf (.seq (.seq .leaf (.br (.seq .leaf .leaf) .leaf)) (.seq .leaf (.seq .leaf (.seq .leaf (.seq (.seq .leaf (.br (.seq .leaf .leaf) .leaf)) (.seq .leaf (.seq (.seq .leaf (.inn (.loop [(8, .one (.p)), (43, .one (.i .i64))] (.seq .leaf (.seq (.br .leaf .leaf) (.seq (.inn (.seq .leaf (.seq .leaf (.seq (.reg (.q 0 (.q 1 (.q 2 (.m 3 (.fin) (.nil)))))) (.seq .leaf (.br (.seq .leaf .leaf) .leaf)))))) .leaf)))))) (.seq .leaf .leaf)))))))))
theorem ok3 : okC tab 72 true c3 a3 = true := by kernel_rfl
theorem vc3 (many_ : Int) (each_ : Int) (l_ : Sl) (h : Heap) (R : Value → Heap → Prop)
  (hv : CallsH Tryz.prog 8 #[.slice l_.a l_.l l_.c] h (fun r1 h1 => ∃ t1 : Bool, r1 = .bool t1 ∧
   CondP (!t1) (
   CallsH Tryz.prog 9 #[] h1 (fun r2 h2 => ∃ t2 : Bool, r2 = .bool t2 ∧
   R (.bool t2) h2)) (
   (6 : Int) ≠ 0 ∧
   (1000 : Int) ≠ 0 ∧
   CallsH Tryz.prog 10 #[] h1 (fun r3 h3 => ∃ p1 : Option Addr, r3 = .pointer p1 ∧
   CallsH Tryz.prog 11 #[.pointer p1, .int .i64 0, .int .i64 (IntKind.i64.wrap (2 + (IntKind.i64.wrap (Int.tmod (IntKind.u64.wrap many_) 6)))), .int .i64 (IntKind.i64.wrap (64 + (IntKind.i64.wrap (Int.tmod (IntKind.u64.wrap each_) 1000))))] h3 (fun r4 h4 => ∃ p2 : Option Addr, ∃ n1 : Int, r4 = .tuple #[.pointer p2, .int .i64 n1] ∧
   CondP ((n1 : Int) != 0) (
   R (.bool false) h4) (
   ∀ b1 h5, Fresh h4 (.cells #[.int .u64 0, .int .u64 0, .slice none 0 0, .slice none 0 0] 38) b1 h5 →
   CanSt h5 b1 0 [.int .u64 0, .int .u64 0, .slice none 0 0, .slice none 0 0] ∧ ∀ h6, Stored h5 b1 0 [.int .u64 0, .int .u64 0, .slice none 0 0, .slice none 0 0] h6 →
   ∃ (I1 : Option Addr → Int → Heap → Prop) (mu1 : Option Addr → Int → Heap → Nat), I1 p2 0 h6 ∧ (∀ p3 : Option Addr, ∀ n2 : Int, ∀ h7, I1 p3 n2 h7 → ∀ _ : Env,
   CondP (decide ((n2 : Int) < ((l_.l : Nat) : Int))) (
   ((0 : Int) ≤ n2 ∧ (n2 : Int) < ((l_.l : Nat) : Int)) ∧
   NilP l_.a (fun b2 o1 =>
   ∃ n3 : Int, ∃ n4 : Int, ∃ n5 : Int, ∃ n6 : Int, ∃ n7 : Int, ∃ x1 : Sl, CellsAt h7 b2 (o1 + n2.toNat * 6) [.int .i64 n3, .int .i64 n4, .int .i64 n5, .int .u64 n6, .int .u64 n7, .slice x1.a x1.l x1.c] ∧
   ∀ b3 h8, Fresh h7 (.cells #[.int .i64 0, .int .i64 0, .int .i64 0, .int .u64 0, .int .u64 0, .slice none 0 0] 40) b3 h8 →
   CanSt h8 b3 0 [.int .i64 n3, .int .i64 n4, .int .i64 n5, .int .u64 n6, .int .u64 n7, .slice x1.a x1.l x1.c] ∧ ∀ h9, Stored h8 b3 0 [.int .i64 n3, .int .i64 n4, .int .i64 n5, .int .u64 n6, .int .u64 n7, .slice x1.a x1.l x1.c] h9 →
   ∃ n8 : Int, ∃ n9 : Int, ∃ x2 : Sl, ∃ x3 : Sl, CellsAt h9 b1 0 [.int .u64 n8, .int .u64 n9, .slice x2.a x2.l x2.c, .slice x3.a x3.l x3.c] ∧
   ∃ n10 : Int, ∃ n11 : Int, ∃ n12 : Int, ∃ n13 : Int, ∃ n14 : Int, ∃ x4 : Sl, CellsAt h9 b3 0 [.int .i64 n10, .int .i64 n11, .int .i64 n12, .int .u64 n13, .int .u64 n14, .slice x4.a x4.l x4.c] ∧
   CallsH Tryz.prog 12 #[.pointer p1, .pointer p3, .agg #[.int .u64 n8, .int .u64 n9, .slice x2.a x2.l x2.c, .slice x3.a x3.l x3.c], .agg #[.int .i64 n10, .int .i64 n11, .int .i64 n12, .int .u64 n13, .int .u64 n14, .slice x4.a x4.l x4.c], .int .i64 (IntKind.i64.wrap (2 + (IntKind.i64.wrap (Int.tmod (IntKind.u64.wrap many_) 6)))), .int .i64 (IntKind.i64.wrap (64 + (IntKind.i64.wrap (Int.tmod (IntKind.u64.wrap each_) 1000))))] h9 (fun r5 h10 => ∃ p4 : Option Addr, ∃ n15 : Int, ∃ n16 : Int, ∃ x5 : Sl, ∃ x6 : Sl, ∃ t3 : Bool, r5 = .tuple #[.pointer p4, .agg #[.int .u64 n15, .int .u64 n16, .slice x5.a x5.l x5.c, .slice x6.a x6.l x6.c], .bool t3] ∧
   ∀ b4 h11, Fresh h10 (.cells #[.int .u64 0, .int .u64 0, .slice none 0 0, .slice none 0 0] 38) b4 h11 →
   CanSt h11 b4 0 [.int .u64 n15, .int .u64 n16, .slice x5.a x5.l x5.c, .slice x6.a x6.l x6.c] ∧ ∀ h12, Stored h11 b4 0 [.int .u64 n15, .int .u64 n16, .slice x5.a x5.l x5.c, .slice x6.a x6.l x6.c] h12 →
   ∃ n17 : Int, ∃ n18 : Int, ∃ x7 : Sl, ∃ x8 : Sl, CellsAt h12 b4 0 [.int .u64 n17, .int .u64 n18, .slice x7.a x7.l x7.c, .slice x8.a x8.l x8.c] ∧
   CanSt h12 b1 0 [.int .u64 n17, .int .u64 n18, .slice x7.a x7.l x7.c, .slice x8.a x8.l x8.c] ∧ ∀ h13, Stored h12 b1 0 [.int .u64 n17, .int .u64 n18, .slice x7.a x7.l x7.c, .slice x8.a x8.l x8.c] h13 →
   CondP (!t3) (
   R (.bool false) h13) (
   ∃ n19 : Int, ∃ n20 : Int, ∃ x9 : Sl, ∃ x10 : Sl, CellsAt h13 b1 0 [.int .u64 n19, .int .u64 n20, .slice x9.a x9.l x9.c, .slice x10.a x10.l x10.c] ∧
   CallsH Tryz.prog 13 #[.pointer p1, .pointer p4, .agg #[.int .u64 n19, .int .u64 n20, .slice x9.a x9.l x9.c, .slice x10.a x10.l x10.c], .int .i64 (IntKind.i64.wrap (2 + (IntKind.i64.wrap (Int.tmod (IntKind.u64.wrap many_) 6))))] h13 (fun r6 h14 => ∃ t4 : Bool, r6 = .bool t4 ∧
   CondP (!t4) (
   R (.bool false) h14) (
   I1 p4 (IntKind.i64.wrap (n2 + 1)) h14 ∧ mu1 p4 (IntKind.i64.wrap (n2 + 1)) h14 < mu1 p3 n2 h7)))))) (
   CallsH Tryz.prog 9 #[] h7 (fun r7 h15 => ∃ t5 : Bool, r7 = .bool t5 ∧
   R (.bool t5) h15))))))))) :
  CallsH Tryz.prog 3 #[.int .i64 many_, .int .i64 each_, .slice l_.a l_.l l_.c] h R :=
  calls_of_vc tabOk mixed Tryz.func3 (c := c3) (by kernel_rfl) (n := 72) rfl (rs := [.tmp 6]) (by kernel_rfl) ok3 (args := [.int .i64 many_, .int .i64 each_, .slice l_.a l_.l l_.c]) (Nat.le_of_ble_eq_true rfl) (Eq.mpr (by kernel_rfl) hv)
end Go.Sx.Tryz
namespace Go.Sx.Tryz
open Go Go.Sx Go.Proofs
set_option linter.unusedVariables false
set_option maxRecDepth 20000
section
variable {H H' : Heap} {S : PH} {R : List Asn}
theorem modN {k : Nat} (hk : 0 < k) (hk2 : k ≤ 1000) (b : Nat) (hb : b ≤ 1000) (m : Int) : IntKind.i64.wrap ((b : Int) + IntKind.i64.wrap (Int.tmod (IntKind.u64.wrap m) (k : Int))) = ((b + (m % 18446744073709551616).toNat % k : Nat) : Int) ∧ (m % 18446744073709551616).toNat % k < k := by
  have hlt : (m % 18446744073709551616).toNat % k < k := Nat.mod_lt _ hk
  refine ⟨?_, hlt⟩
  rw [w_u64]
  have h0 : m % 18446744073709551616 = (((m % 18446744073709551616).toNat : Nat) : Int) := by
    rw [Int.toNat_of_nonneg (Int.emod_nonneg _ (by decide))]
  rw [h0, tmod_nat, i64_nat (by omega), i64_add (by omega)]
  simp
theorem plays_spec {m e : Int} {v : Sl} {ops : List Op1} (hs : Sat H S R) (hv : OL S v ops) (hvl : v.l ≤ 9223372036854775807)
    {K : Value → Heap → Prop} (hK : ∀ H' S', PH.le S S' → Sat H' S' R → K (.bool true) H') : CallsH Tryz.prog 3 #[.int .i64 m, .int .i64 e, .slice v.a v.l v.c] H K := by
  apply vc3
  refine few_spec hs hv hvl fun b h1 hb hs1 => ⟨_, rfl, CondP.of (fun _ => ?_) (fun hc => ?_)⟩
  · exact lives_spec hs1 fun h2 S1 hS1 hs2 => ⟨_, rfl, hK h2 S1 hS1 hs2⟩
  have hb := hb (by simpa using hc)
  obtain ⟨hol, hob⟩ := hb
  obtain ⟨em, hm⟩ := modN (k := 6) (by omega) (by omega) 2 (by omega) m
  obtain ⟨ee, he⟩ := modN (k := 1000) (by omega) (by omega) 64 (by omega) e
  generalize hmany : 2 + (m % 18446744073709551616).toNat % 6 = many at *
  generalize heach : 64 + (e % 18446744073709551616).toNat % 1000 = each at *
  have em : IntKind.i64.wrap (2 + IntKind.i64.wrap (Int.tmod (IntKind.u64.wrap m) 6)) = (many : Int) := em
  have ee : IntKind.i64.wrap (64 + IntKind.i64.wrap (Int.tmod (IntKind.u64.wrap e) 1000)) = (each : Int) := ee
  rw [em, ee]
  have hl := OL.len hv
  refine ⟨by decide, by decide, new_spec hs1 fun d h3 hs3 => ⟨_, rfl, ?_⟩⟩
  refine jnew_spec (many := many) (each := each) hs3 (by omega) (by omega) fun jb J D G h4 S1 hS1 hI ha hs4 => ⟨_, _, rfl, CondP.of (fun hc => by simp at hc) fun _ => ?_⟩
  intro b1 h5 f5
  have hs5 := hs4.fresh f5
  refine Sat.store (T := 38) (l := zsV) hs5 (by simp [zsV]) fun h6 hs6 => ?_
  have hs6 : Sat h6 S1 (lst b1 38 (stV ⟨0, 0, []⟩ ⟨none, 0, 0⟩) :: jA jb J :: dsk d D :: R) := hs6
  refine ⟨fun p n h => ∃ (i : Nat) (S' : PH) (jb : Nat) (J : Jn) (D : Dk) (G : List Sg) (s : PL) (y : Sl), p = some ⟨jb, 0, none⟩ ∧ n = i ∧ i ≤ ops.length ∧ PH.le S S' ∧ JInv S' d many each D J G s i ∧ D.armed = false ∧ EL S' y s.es ∧ Sat h S' (lst b1 38 (stV s y) :: jA jb J :: dsk d D :: R), fun _ n _ => ops.length - n.toNat, ⟨0, S1, jb, J, D, G, ⟨0, 0, []⟩, ⟨none, 0, 0⟩, rfl, rfl, Nat.zero_le _, hS1, hI, ha, EL.nil _, hs6⟩, ?_⟩
  clear hs6 hs5 hs4 hI ha
  rintro p n h7 ⟨i, S2, jb, J, D, G, s, y, rfl, rfl, hi, hS2, hI, ha, hy, hs7⟩ _
  refine CondP.of (fun hc => ?_) (fun hc => ?_)
  · have hc : i < ops.length := by simp at hc; omega
    obtain ⟨g, og, x, ga, gc, gx⟩ := (hv.mono hS2).at hs7 hc
    refine ⟨⟨by omega, by omega⟩, NilP.of ga ⟨_, _, _, _, _, x, gc, ?_⟩⟩
    intro b3 h8 f8
    have hs8 := hs7.fresh f8
    refine Sat.store (T := 40) (l := [.int .i64 0, .int .i64 0, .int .i64 0, .int .u64 0, .int .u64 0, .slice none 0 0]) hs8 (Nat.le_refl _) fun h9 hs9 => ?_
    have hs9 : Sat h9 S2 (lst b3 40 (opV ops[i] x) :: lst b1 38 (stV s y) :: jA jb J :: dsk d D :: R) := hs9
    refine ⟨_, _, ⟨none, 0, 0⟩, y, hs9.swap.cells 0 rfl, _, _, _, _, _, x, hs9.cells 0 rfl, ?_⟩
    refine step_spec (hs9.sel [2, 2]) hI (by omega) hy gx (hob _ (List.getElem_mem hc)) (by omega) (fun _ => ha) (fun jb' J' D' G' t y' h10 S3 hS3 hI2 ha2 hy' hs10 => ⟨_, _, _, ⟨none, 0, 0⟩, y', _, rfl, ?_⟩) (fun h => by rw [ha] at h; cases h)
    intro b4 h11 f11
    have hs11 := hs10.fresh f11
    refine Sat.store (T := 38) (l := zsV) hs11 (by simp [zsV]) fun h12 hs12 => ?_
    have hs12 : Sat h12 S3 (lst b4 38 (stV t y') :: jA jb' J' :: dsk d D' :: lst b3 40 (opV ops[i] x) :: lst b1 38 (stV s y) :: R) := hs12
    refine ⟨_, _, ⟨none, 0, 0⟩, y', hs12.cells 0 rfl, ?_⟩
    refine (hs12.pick 4 rfl).store (by simp [stV]) fun h13 hs13 => CondP.of (fun hc => by cases hc) fun _ => ?_
    have hs13 : Sat h13 S3 (lst b1 38 (stV t y') :: lst b4 38 (stV t y') :: jA jb' J' :: dsk d D' :: lst b3 40 (opV ops[i] x) :: R) := hs13
    refine ⟨_, _, ⟨none, 0, 0⟩, y', hs13.cells 0 rfl, ?_⟩
    have hbe := hI2.bnd.el
    have hmJ : J'.many = many := hI2.fld.2.2.1
    have hlike := like_spec (x := t) (y := y') (n := 5 * (i + 1)) (hs13.sel [2, 2]) hI2.rest (dsk_len (hs13.sel [3])) hI2.log hI2.ents ⟨hbe, by omega⟩ hy' hbe hI2.fld.2.1
      (K := fun r6 h14 => ∃ t4 : Bool, r6 = .bool t4 ∧
        CondP (!t4) (
        K (.bool false) h14) (
        (∃ (i' : Nat) (S' : PH) (jb : Nat) (J : Jn) (D : Dk) (G : List Sg) (s : PL) (y : Sl), some (⟨jb', 0, none⟩ : Addr) = some ⟨jb, 0, none⟩ ∧ IntKind.i64.wrap ((i : Int) + 1) = i' ∧ i' ≤ ops.length ∧ PH.le S S' ∧ JInv S' d many each D J G s i' ∧ D.armed = false ∧ EL S' y s.es ∧ Sat h14 S' (lst b1 38 (stV s y) :: jA jb J :: dsk d D :: R)) ∧ ops.length - (IntKind.i64.wrap ((i : Int) + 1)).toNat < ops.length - (i : Int).toNat))
      (fun b h14 S4 hS4 hb4 hs14 => ⟨b, rfl, CondP.of (fun hc => by rw [hb4 rfl] at hc; cases hc) fun _ => ?_⟩)
    · rw [hmJ] at hlike; exact hlike
    · rw [i64_succ (by omega)]
      exact ⟨⟨i + 1, S4, jb', J', D', G', t, y', rfl, rfl, hc, (hS2.trans hS3).trans hS4, hI2.mono hS4, ha2.trans ha, hy'.mono hS4, ((hs14.sel [2]).del 3).del 3⟩, by simp only [Int.toNat_natCast]; omega⟩
  · exact lives_spec (hs7.drop.drop.drop) fun h2 S1 hS1 hs2 => ⟨_, rfl, hK h2 S1 (hS2.trans hS1) hs2⟩
end
end Go.Sx.Tryz
namespace Go.Sx.Tryz
open Go Go.Sx Go.Proofs
set_option maxRecDepth 100000
set_option linter.unusedVariables false
noncomputable def c4 : Code := (Tryz.f4.body).getD .skip
def a4 : Ann := (.seq .leaf (.seq (.join [(34, .one (.b))] .leaf (.br (.seq .leaf .leaf) .leaf)) (.seq .leaf (.seq .leaf (.seq .leaf (.seq (.seq .leaf (.br (.seq .leaf .leaf) .leaf)) (.seq .leaf (.seq .leaf (.seq .leaf (.join [(13, .one (.sl))] (.seq .leaf (.inn (.loop [(10, .one (.p)), (13, .one (.sl)), (65, .one (.i .i64))] (.seq .leaf (.seq (.br .leaf .leaf) (.seq (.inn (.seq .leaf (.seq (.seq .leaf (.br .leaf .leaf)) (.seq .leaf (.seq .leaf (.seq (.seq .leaf (.br (.seq .leaf (.seq (.join [(98, .one (.b))] .leaf (.br (.seq .leaf (.inn (.loop [(13, .one (.sl)), (19, .one (.i .i64))] (.seq (.seq .leaf (.br .leaf .leaf)) (.seq (.inn (.reg (.q 0 (.q 1 (.q 2 (.q 3 (.q 4 (.q 5 (.q 6 (.q 7 (.m 8 (.m 9 (.q 10 (.fin)) (.nil)) (.nil)))))))))))) .leaf))))) .leaf)) .leaf)) .leaf)) (.seq (.seq .leaf (.br (.seq .leaf .leaf) .leaf)) .leaf))))))) .leaf)))))) (.join [(13, .one (.sl))] (.seq .leaf (.br .leaf .leaf)) (.seq .leaf (.seq .leaf (.seq (.seq .leaf (.br (.seq .leaf .leaf) .leaf)) (.seq (.seq .leaf (.inn (.loop [(145, .one (.i .i64))] (.seq .leaf (.seq (.br .leaf .leaf) (.seq (.inn (.seq .leaf (.seq (.reg (.q 0 (.q 1 (.q 2 (.m 3 (.q 4 (.q 5 (.m 6 (.q 7 (.q 8 (.q 9 (.m 10 (.m 11 (.q 12 (.fin)) (.nil)) (.nil))))) (.m 10 (.m 6 (.q 7 (.q 8 (.q 9 (.m 11 (.q 12 (.fin)) (.nil))))) (.nil)) (.nil))))) (.m 10 (.m 3 (.q 4 (.q 5 (.m 6 (.q 7 (.q 8 (.q 9 (.m 11 (.q 12 (.fin)) (.nil))))) (.nil)))) (.nil)) (.nil))))))) (.seq .leaf (.br (.seq .leaf .leaf) .leaf))))) .leaf)))))) (.seq .leaf .leaf))))))))))))))))
theorem ok4 : okC tab 169 true c4 a4 = true := by kernel_rfl
theorem vc4 (many_ : Int) (each_ : Int) (l_ : Sl) (b_0 : Int) (b_1 : Sl) (h : Heap) (R : Value → Heap → Prop)
  (hv : ∀ b1 h1, Fresh h (.cells #[.int .u8 b_0, .slice b_1.a b_1.l b_1.c] 47) b1 h1 →
   ∃ J1 : Bool → Heap → Prop, (∀ t1 : Bool, ∀ h2, J1 t1 h2 → ∀ _ : Env,
   CondP t1 (
   CallsH Tryz.prog 9 #[] h2 (fun r1 h3 => ∃ t2 : Bool, r1 = .bool t2 ∧
   R (.bool t2) h3)) (
   (6 : Int) ≠ 0 ∧
   (1000 : Int) ≠ 0 ∧
   CallsH Tryz.prog 10 #[] h2 (fun r2 h4 => ∃ p1 : Option Addr, r2 = .pointer p1 ∧
   CallsH Tryz.prog 11 #[.pointer p1, .int .i64 0, .int .i64 (IntKind.i64.wrap (2 + (IntKind.i64.wrap (Int.tmod (IntKind.u64.wrap many_) 6)))), .int .i64 (IntKind.i64.wrap (64 + (IntKind.i64.wrap (Int.tmod (IntKind.u64.wrap each_) 1000))))] h4 (fun r3 h5 => ∃ p2 : Option Addr, ∃ n1 : Int, r3 = .tuple #[.pointer p2, .int .i64 n1] ∧
   CondP ((n1 : Int) != 0) (
   R (.bool false) h5) (
   ∃ n2 : Int, cellH h5 b1 0 = some (.int .u8 n2) ∧
   (64 : Int) ≠ 0 ∧
   CallsH Tryz.prog 14 #[.pointer p1, .int .i64 (IntKind.i64.wrap (Int.tmod n2 64))] h5 (fun r4 h6 => r4 = .tuple #[] ∧
   ∀ b2 h7, Fresh h6 (.cells #[.int .u64 0, .int .u64 0, .slice none 0 0, .slice none 0 0] 38) b2 h7 →
   CanSt h7 b2 0 [.int .u64 0, .int .u64 0, .slice none 0 0, .slice none 0 0] ∧ ∀ h8, Stored h7 b2 0 [.int .u64 0, .int .u64 0, .slice none 0 0, .slice none 0 0] h8 →
   ∃ J2 : Sl → Heap → Prop, (∀ x1 : Sl, ∀ h9, J2 x1 h9 → ∀ _ : Env,
   ∃ J3 : Sl → Heap → Prop, (∀ x2 : Sl, ∀ h10, J3 x2 h10 → ∀ _ : Env,
   ∃ x3 : Sl, cellH h10 b1 1 = some (.slice x3.a x3.l x3.c) ∧
   CallsH Tryz.prog 16 #[.pointer p1, .slice x3.a x3.l x3.c] h10 (fun r5 h11 => r5 = .tuple #[] ∧
   CallsH Tryz.prog 11 #[.pointer p1, .int .i64 0, .int .i64 (IntKind.i64.wrap (2 + (IntKind.i64.wrap (Int.tmod (IntKind.u64.wrap many_) 6)))), .int .i64 (IntKind.i64.wrap (64 + (IntKind.i64.wrap (Int.tmod (IntKind.u64.wrap each_) 1000))))] h11 (fun r6 h12 => ∃ p3 : Option Addr, ∃ n3 : Int, r6 = .tuple #[.pointer p3, .int .i64 n3] ∧
   CondP ((n3 : Int) != 0) (
   R (.bool false) h12) (
   ∃ (I1 : Int → Heap → Prop) (mu1 : Int → Heap → Nat), I1 0 h12 ∧ (∀ n4 : Int, ∀ h13, I1 n4 h13 → ∀ _ : Env,
   CondP (decide ((n4 : Int) < ((x2.l : Nat) : Int))) (
   ((0 : Int) ≤ n4 ∧ (n4 : Int) < ((x2.l : Nat) : Int)) ∧
   NilP x2.a (fun b3 o1 =>
   ∃ n5 : Int, ∃ n6 : Int, ∃ x4 : Sl, ∃ x5 : Sl, CellsAt h13 b3 (o1 + n4.toNat * 4) [.int .u64 n5, .int .u64 n6, .slice x4.a x4.l x4.c, .slice x5.a x5.l x5.c] ∧
   ∀ b4 h14, Fresh h13 (.cells #[.int .u64 0, .int .u64 0, .slice none 0 0, .slice none 0 0] 38) b4 h14 →
   CanSt h14 b4 0 [.int .u64 n5, .int .u64 n6, .slice x4.a x4.l x4.c, .slice x5.a x5.l x5.c] ∧ ∀ h15, Stored h14 b4 0 [.int .u64 n5, .int .u64 n6, .slice x4.a x4.l x4.c, .slice x5.a x5.l x5.c] h15 →
   ∃ n7 : Int, ∃ n8 : Int, ∃ x6 : Sl, ∃ x7 : Sl, CellsAt h15 b4 0 [.int .u64 n7, .int .u64 n8, .slice x6.a x6.l x6.c, .slice x7.a x7.l x7.c] ∧
   ∃ n9 : Int, ∃ n10 : Int, ∃ x8 : Sl, ∃ x9 : Sl, CellsAt h15 b2 0 [.int .u64 n9, .int .u64 n10, .slice x8.a x8.l x8.c, .slice x9.a x9.l x9.c] ∧
   (CallsH Tryz.prog 18 #[.agg #[.int .u64 n9, .int .u64 n10, .slice x8.a x8.l x8.c, .slice x9.a x9.l x9.c]] h15 (fun r7 h16 => ∃ n11 : Int, ∃ n12 : Int, ∃ x10 : Sl, r7 = .agg #[.int .u64 n11, .int .u64 n12, .slice x10.a x10.l x10.c] ∧
   CellsAt h16 b4 0 [.int .u64 n7, .int .u64 n8, .slice x6.a x6.l x6.c, .slice x7.a x7.l x7.c] ∧
   (CallsH Tryz.prog 17 #[.agg #[.int .u64 n7, .int .u64 n8, .slice x6.a x6.l x6.c, .slice x7.a x7.l x7.c], .pointer p3, .int .u64 (IntKind.u64.wrap (n11 + 1))] h16 (fun r8 h17 => ∃ n13 : Int, ∃ n14 : Int, ∃ x11 : Sl, ∃ x12 : Sl, ∃ t3 : Bool, r8 = .tuple #[.agg #[.int .u64 n13, .int .u64 n14, .slice x11.a x11.l x11.c, .slice x12.a x12.l x12.c], .bool t3] ∧
   ∀ b5 h18, Fresh h17 (.cells #[.int .u64 0, .int .u64 0, .slice none 0 0, .slice none 0 0] 38) b5 h18 →
   CanSt h18 b5 0 [.int .u64 n13, .int .u64 n14, .slice x11.a x11.l x11.c, .slice x12.a x12.l x12.c] ∧ ∀ h19, Stored h18 b5 0 [.int .u64 n13, .int .u64 n14, .slice x11.a x11.l x11.c, .slice x12.a x12.l x12.c] h19 →
   CondP t3 (
   ∃ n15 : Int, ∃ n16 : Int, ∃ x13 : Sl, ∃ x14 : Sl, CellsAt h19 b5 0 [.int .u64 n15, .int .u64 n16, .slice x13.a x13.l x13.c, .slice x14.a x14.l x14.c] ∧
   CallsH Tryz.prog 13 #[.pointer p1, .pointer p3, .agg #[.int .u64 n15, .int .u64 n16, .slice x13.a x13.l x13.c, .slice x14.a x14.l x14.c], .int .i64 (IntKind.i64.wrap (2 + (IntKind.i64.wrap (Int.tmod (IntKind.u64.wrap many_) 6))))] h19 (fun r9 h20 => ∃ t4 : Bool, r9 = .bool t4 ∧
   CondP t4 (
   CallsH Tryz.prog 9 #[] h20 (fun r10 h21 => ∃ t5 : Bool, r10 = .bool t5 ∧
   R (.bool t5) h21)) (
   I1 (IntKind.i64.wrap (n4 + 1)) h20 ∧ mu1 (IntKind.i64.wrap (n4 + 1)) h20 < mu1 n4 h13))) (
   I1 (IntKind.i64.wrap (n4 + 1)) h19 ∧ mu1 (IntKind.i64.wrap (n4 + 1)) h19 < mu1 n4 h13))) ∧
   (∀ b6 h22, Fresh h16 (.cells #[.int .u64 0, .int .u64 0, .slice none 0 0, .slice none 0 0] 38) b6 h22 →
   CellsAt h22 b4 0 [.int .u64 n7, .int .u64 n8, .slice x6.a x6.l x6.c, .slice x7.a x7.l x7.c] ∧
   CallsH Tryz.prog 17 #[.agg #[.int .u64 n7, .int .u64 n8, .slice x6.a x6.l x6.c, .slice x7.a x7.l x7.c], .pointer p3, .int .u64 (IntKind.u64.wrap (n11 + 1))] h22 (fun r11 h23 => ∃ n17 : Int, ∃ n18 : Int, ∃ x15 : Sl, ∃ x16 : Sl, ∃ t6 : Bool, r11 = .tuple #[.agg #[.int .u64 n17, .int .u64 n18, .slice x15.a x15.l x15.c, .slice x16.a x16.l x16.c], .bool t6] ∧
   CanSt h23 b6 0 [.int .u64 n17, .int .u64 n18, .slice x15.a x15.l x15.c, .slice x16.a x16.l x16.c] ∧ ∀ h24, Stored h23 b6 0 [.int .u64 n17, .int .u64 n18, .slice x15.a x15.l x15.c, .slice x16.a x16.l x16.c] h24 →
   CondP t6 (
   ∃ n19 : Int, ∃ n20 : Int, ∃ x17 : Sl, ∃ x18 : Sl, CellsAt h24 b6 0 [.int .u64 n19, .int .u64 n20, .slice x17.a x17.l x17.c, .slice x18.a x18.l x18.c] ∧
   CallsH Tryz.prog 13 #[.pointer p1, .pointer p3, .agg #[.int .u64 n19, .int .u64 n20, .slice x17.a x17.l x17.c, .slice x18.a x18.l x18.c], .int .i64 (IntKind.i64.wrap (2 + (IntKind.i64.wrap (Int.tmod (IntKind.u64.wrap many_) 6))))] h24 (fun r12 h25 => ∃ t7 : Bool, r12 = .bool t7 ∧
   CondP t7 (
   CallsH Tryz.prog 9 #[] h25 (fun r13 h26 => ∃ t8 : Bool, r13 = .bool t8 ∧
   R (.bool t8) h26)) (
   I1 (IntKind.i64.wrap (n4 + 1)) h25 ∧ mu1 (IntKind.i64.wrap (n4 + 1)) h25 < mu1 n4 h13))) (
   I1 (IntKind.i64.wrap (n4 + 1)) h24 ∧ mu1 (IntKind.i64.wrap (n4 + 1)) h24 < mu1 n4 h13))))) ∧
   (∀ b7 h27, Fresh h15 (.cells #[.int .u64 0, .int .u64 0, .slice none 0 0, .slice none 0 0] 38) b7 h27 →
   CellsAt h27 b2 0 [.int .u64 n9, .int .u64 n10, .slice x8.a x8.l x8.c, .slice x9.a x9.l x9.c] ∧
   CellsAt h27 b4 0 [.int .u64 n7, .int .u64 n8, .slice x6.a x6.l x6.c, .slice x7.a x7.l x7.c] ∧
   CallsH Tryz.prog 18 #[.agg #[.int .u64 n9, .int .u64 n10, .slice x8.a x8.l x8.c, .slice x9.a x9.l x9.c]] h27 (fun r14 h28 => ∃ n21 : Int, ∃ n22 : Int, ∃ x19 : Sl, r14 = .agg #[.int .u64 n21, .int .u64 n22, .slice x19.a x19.l x19.c] ∧
   CellsAt h28 b4 0 [.int .u64 n7, .int .u64 n8, .slice x6.a x6.l x6.c, .slice x7.a x7.l x7.c] ∧
   CallsH Tryz.prog 17 #[.agg #[.int .u64 n7, .int .u64 n8, .slice x6.a x6.l x6.c, .slice x7.a x7.l x7.c], .pointer p3, .int .u64 (IntKind.u64.wrap (n21 + 1))] h28 (fun r15 h29 => ∃ n23 : Int, ∃ n24 : Int, ∃ x20 : Sl, ∃ x21 : Sl, ∃ t9 : Bool, r15 = .tuple #[.agg #[.int .u64 n23, .int .u64 n24, .slice x20.a x20.l x20.c, .slice x21.a x21.l x21.c], .bool t9] ∧
   CanSt h29 b7 0 [.int .u64 n23, .int .u64 n24, .slice x20.a x20.l x20.c, .slice x21.a x21.l x21.c] ∧ ∀ h30, Stored h29 b7 0 [.int .u64 n23, .int .u64 n24, .slice x20.a x20.l x20.c, .slice x21.a x21.l x21.c] h30 →
   CondP t9 (
   ∃ n25 : Int, ∃ n26 : Int, ∃ x22 : Sl, ∃ x23 : Sl, CellsAt h30 b7 0 [.int .u64 n25, .int .u64 n26, .slice x22.a x22.l x22.c, .slice x23.a x23.l x23.c] ∧
   CallsH Tryz.prog 13 #[.pointer p1, .pointer p3, .agg #[.int .u64 n25, .int .u64 n26, .slice x22.a x22.l x22.c, .slice x23.a x23.l x23.c], .int .i64 (IntKind.i64.wrap (2 + (IntKind.i64.wrap (Int.tmod (IntKind.u64.wrap many_) 6))))] h30 (fun r16 h31 => ∃ t10 : Bool, r16 = .bool t10 ∧
   CondP t10 (
   CallsH Tryz.prog 9 #[] h31 (fun r17 h32 => ∃ t11 : Bool, r17 = .bool t11 ∧
   R (.bool t11) h32)) (
   I1 (IntKind.i64.wrap (n4 + 1)) h31 ∧ mu1 (IntKind.i64.wrap (n4 + 1)) h31 < mu1 n4 h13))) (
   I1 (IntKind.i64.wrap (n4 + 1)) h30 ∧ mu1 (IntKind.i64.wrap (n4 + 1)) h30 < mu1 n4 h13)))))) (
   R (.bool false) h13)))))) ∧
   CondP ((((x1.l : Nat) : Int) : Int) == 0) (
   ∃ n27 : Int, ∃ n28 : Int, ∃ x24 : Sl, ∃ x25 : Sl, CellsAt h9 b2 0 [.int .u64 n27, .int .u64 n28, .slice x24.a x24.l x24.c, .slice x25.a x25.l x25.c] ∧
   ∀ b8 h33, Fresh h9 (.cells #[.int .u64 n27, .int .u64 n28, .slice x24.a x24.l x24.c, .slice x25.a x25.l x25.c] 38) b8 h33 →
   RunK Tryz.prog (.sl) (Builtin.append_ #[49, 49] 49 #[.slice x1.a x1.l x1.c, .slice (some ⟨b8, 0, none⟩) 1 1]) h33 (fun x26 h34 =>
   J3 x26 h34)) (
   J3 x1 h9)) ∧
   ∃ (I2 : Option Addr → Sl → Int → Heap → Prop) (mu2 : Option Addr → Sl → Int → Heap → Nat), I2 p2 ⟨none, 0, 0⟩ 0 h8 ∧ (∀ p4 : Option Addr, ∀ x27 : Sl, ∀ n29 : Int, ∀ h35, I2 p4 x27 n29 h35 → ∀ _ : Env,
   CondP (decide ((n29 : Int) < ((l_.l : Nat) : Int))) (
   ((0 : Int) ≤ n29 ∧ (n29 : Int) < ((l_.l : Nat) : Int)) ∧
   NilP l_.a (fun b9 o2 =>
   ∃ n30 : Int, ∃ n31 : Int, ∃ n32 : Int, ∃ n33 : Int, ∃ n34 : Int, ∃ x28 : Sl, CellsAt h35 b9 (o2 + n29.toNat * 6) [.int .i64 n30, .int .i64 n31, .int .i64 n32, .int .u64 n33, .int .u64 n34, .slice x28.a x28.l x28.c] ∧
   ∀ b10 h36, Fresh h35 (.cells #[.int .i64 0, .int .i64 0, .int .i64 0, .int .u64 0, .int .u64 0, .slice none 0 0] 40) b10 h36 →
   CanSt h36 b10 0 [.int .i64 n30, .int .i64 n31, .int .i64 n32, .int .u64 n33, .int .u64 n34, .slice x28.a x28.l x28.c] ∧ ∀ h37, Stored h36 b10 0 [.int .i64 n30, .int .i64 n31, .int .i64 n32, .int .u64 n33, .int .u64 n34, .slice x28.a x28.l x28.c] h37 →
   ∃ n35 : Int, cellH h37 b10 0 = some (.int .i64 n35) ∧
   CondP ((n35 : Int) == 4) (
   I2 p4 x27 (IntKind.i64.wrap (n29 + 1)) h37 ∧ mu2 p4 x27 (IntKind.i64.wrap (n29 + 1)) h37 < mu2 p4 x27 n29 h35) (
   ∃ n36 : Int, ∃ n37 : Int, ∃ x29 : Sl, ∃ x30 : Sl, CellsAt h37 b2 0 [.int .u64 n36, .int .u64 n37, .slice x29.a x29.l x29.c, .slice x30.a x30.l x30.c] ∧
   ∃ n38 : Int, ∃ n39 : Int, ∃ n40 : Int, ∃ n41 : Int, ∃ n42 : Int, ∃ x31 : Sl, CellsAt h37 b10 0 [.int .i64 n38, .int .i64 n39, .int .i64 n40, .int .u64 n41, .int .u64 n42, .slice x31.a x31.l x31.c] ∧
   CallsH Tryz.prog 12 #[.pointer p1, .pointer p4, .agg #[.int .u64 n36, .int .u64 n37, .slice x29.a x29.l x29.c, .slice x30.a x30.l x30.c], .agg #[.int .i64 n38, .int .i64 n39, .int .i64 n40, .int .u64 n41, .int .u64 n42, .slice x31.a x31.l x31.c], .int .i64 (IntKind.i64.wrap (2 + (IntKind.i64.wrap (Int.tmod (IntKind.u64.wrap many_) 6)))), .int .i64 (IntKind.i64.wrap (64 + (IntKind.i64.wrap (Int.tmod (IntKind.u64.wrap each_) 1000))))] h37 (fun r18 h38 => ∃ p5 : Option Addr, ∃ n43 : Int, ∃ n44 : Int, ∃ x32 : Sl, ∃ x33 : Sl, ∃ t12 : Bool, r18 = .tuple #[.pointer p5, .agg #[.int .u64 n43, .int .u64 n44, .slice x32.a x32.l x32.c, .slice x33.a x33.l x33.c], .bool t12] ∧
   ∀ b11 h39, Fresh h38 (.cells #[.int .u64 0, .int .u64 0, .slice none 0 0, .slice none 0 0] 38) b11 h39 →
   CanSt h39 b11 0 [.int .u64 n43, .int .u64 n44, .slice x32.a x32.l x32.c, .slice x33.a x33.l x33.c] ∧ ∀ h40, Stored h39 b11 0 [.int .u64 n43, .int .u64 n44, .slice x32.a x32.l x32.c, .slice x33.a x33.l x33.c] h40 →
   CallsH Tryz.prog 15 #[.pointer p1] h40 (fun r19 h41 => ∃ t13 : Bool, r19 = .bool t13 ∧
   CondP t13 (
   ∃ n45 : Int, ∃ n46 : Int, ∃ x34 : Sl, ∃ x35 : Sl, CellsAt h41 b2 0 [.int .u64 n45, .int .u64 n46, .slice x34.a x34.l x34.c, .slice x35.a x35.l x35.c] ∧
   ∃ n47 : Int, ∃ n48 : Int, ∃ x36 : Sl, ∃ x37 : Sl, CellsAt h41 b11 0 [.int .u64 n47, .int .u64 n48, .slice x36.a x36.l x36.c, .slice x37.a x37.l x37.c] ∧
   ∀ b12 h42, Fresh h41 (.cells #[.int .u64 n45, .int .u64 n46, .slice x34.a x34.l x34.c, .slice x35.a x35.l x35.c, .int .u64 n47, .int .u64 n48, .slice x36.a x36.l x36.c, .slice x37.a x37.l x37.c] 38) b12 h42 →
   RunK Tryz.prog (.sl) (Builtin.append_ #[49, 49] 49 #[.slice x27.a x27.l x27.c, .slice (some ⟨b12, 0, none⟩) 2 2]) h42 (fun x38 h43 =>
   ∃ J4 : Bool → Heap → Prop, (∀ t14 : Bool, ∀ h44, J4 t14 h44 → ∀ _ : Env,
   CondP t14 (
   ∃ x39 : Sl, cellH h44 b2 3 = some (.slice x39.a x39.l x39.c) ∧
   ∃ (I3 : Sl → Int → Heap → Prop) (mu3 : Sl → Int → Heap → Nat), I3 x38 ((x39.l : Nat) : Int) h44 ∧ (∀ x40 : Sl, ∀ n49 : Int, ∀ h45, I3 x40 n49 h45 → ∀ _ : Env,
   ∃ x41 : Sl, cellH h45 b11 3 = some (.slice x41.a x41.l x41.c) ∧
   CondP (decide ((n49 : Int) < ((x41.l : Nat) : Int))) (
   ∃ n50 : Int, ∃ n51 : Int, ∃ x42 : Sl, CellsAt h45 b2 0 [.int .u64 n50, .int .u64 n51, .slice x42.a x42.l x42.c] ∧
   ∃ x43 : Sl, cellH h45 b11 3 = some (.slice x43.a x43.l x43.c) ∧
   ((0 : Int) ≤ (0 : Int) ∧ (0 : Int) ≤ n49 ∧ n49 ≤ ((x43.c : Nat) : Int)) ∧
   ∀ b13 h46, Fresh h45 (.cells #[.int .u64 n50, .int .u64 n51, .slice x42.a x42.l x42.c, .slice (subA x43.a 0 x43.c 3) n49.toNat x43.c] 38) b13 h46 →
   RunK Tryz.prog (.sl) (Builtin.append_ #[49, 49] 49 #[.slice x40.a x40.l x40.c, .slice (some ⟨b13, 0, none⟩) 1 1]) h46 (fun x44 h47 =>
   I3 x44 (IntKind.i64.wrap (n49 + 1)) h47 ∧ mu3 x44 (IntKind.i64.wrap (n49 + 1)) h47 < mu3 x40 n49 h45)) (
   J2 x40 h45))) (
   J2 x38 h44)) ∧
   ∃ n52 : Int, cellH h43 b10 0 = some (.int .i64 n52) ∧
   CondP (decide ((n52 : Int) < 1)) (
   J4 true h43) (
   ∃ n53 : Int, cellH h43 b10 0 = some (.int .i64 n53) ∧
   J4 (decide ((n53 : Int) > 3)) h43))) (
   CondP (!t12) (
   R (.bool false) h41) (
   ∃ n54 : Int, ∃ n55 : Int, ∃ x45 : Sl, ∃ x46 : Sl, CellsAt h41 b11 0 [.int .u64 n54, .int .u64 n55, .slice x45.a x45.l x45.c, .slice x46.a x46.l x46.c] ∧
   CanSt h41 b2 0 [.int .u64 n54, .int .u64 n55, .slice x45.a x45.l x45.c, .slice x46.a x46.l x46.c] ∧ ∀ h48, Stored h41 b2 0 [.int .u64 n54, .int .u64 n55, .slice x45.a x45.l x45.c, .slice x46.a x46.l x46.c] h48 →
   I2 p5 x27 (IntKind.i64.wrap (n29 + 1)) h48 ∧ mu2 p5 x27 (IntKind.i64.wrap (n29 + 1)) h48 < mu2 p4 x27 n29 h35))))))) (
   J2 x27 h35)))))))) ∧
   CallsH Tryz.prog 8 #[.slice l_.a l_.l l_.c] h1 (fun r20 h49 => ∃ t15 : Bool, r20 = .bool t15 ∧
   CondP (!t15) (
   J1 true h49) (
   ∃ x47 : Sl, cellH h49 b1 1 = some (.slice x47.a x47.l x47.c) ∧
   J1 (decide ((((x47.l : Nat) : Int) : Int) > 40)) h49))) :
  CallsH Tryz.prog 4 #[.int .i64 many_, .int .i64 each_, .slice l_.a l_.l l_.c, .agg #[.int .u8 b_0, .slice b_1.a b_1.l b_1.c]] h R :=
  calls_of_vc tabOk mixed Tryz.func4 (c := c4) (by kernel_rfl) (n := 169) rfl (rs := [.tmp 8]) (by kernel_rfl) ok4 (args := [.int .i64 many_, .int .i64 each_, .slice l_.a l_.l l_.c, .agg #[.int .u8 b_0, .slice b_1.a b_1.l b_1.c]]) (Nat.le_of_ble_eq_true rfl) (Eq.mpr (by kernel_rfl) hv)
end Go.Sx.Tryz
